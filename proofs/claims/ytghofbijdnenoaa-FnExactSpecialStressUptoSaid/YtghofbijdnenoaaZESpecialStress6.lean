/- Parts of a proof that a law of the program holds: what the program computes, and why that is right. -/
import Derived.Test.YtghofbijdnenoaaRows
import Derived.ProofKit
import Derived.OpenShut
import Derived.JoinedCond
import Derived.Carry
import Derived.Deep.Slices
import Derived.ChangeSame
import Derived.Test.YtghofbijdnenoaaZESpecialStress5
section
set_option linter.unusedVariables false
set_option linter.unusedSimpArgs false
set_option linter.unnecessarySimpa false
set_option maxRecDepth 100000
set_option maxHeartbeats 8000000
open Go Go.Fw
namespace Go.Proofs.Ytghofbijdnenoaa
theorem w_spec_AcceptedBars (g : TGraph) (k : Int) (l : Int) : ∀ t,m_spec_AcceptedBars g k l = some t → Fw.Fn Try.prog 154 [(.agg [(iC g.Points),(xF encTBar g.Bars)]),(.c (iC k)),(.c (iC l))] [] (.s (.c (lo 0 t.length))) [(0,(pR 3 encInt t))] [] [0] := by
 refine Fw.Fn.of (P := Try.prog) (X := [0]) (pn := []) (rs := (fun (t : (List Int)) => [(.c (lo 0 t.length))])) (dfs := (fun (t : (List Int)) => [(0,(pR 3 encInt t))])) Try.func154 Q Try.ntmps154 (K Q) Q ?_
 intro w0 U0 R0 g0
 unfold m_spec_AcceptedBars
 refine Ws (Wr ?_)
 refine Os10 (LT.box (n := 21) (v := (.agg [(iC g.Points),(xF encTBar g.Bars)])) Q sz26 (by exact Q)) Q Q Q (asg (Cc (sC nilV)) Q y2 Q Q (On (Ws (Wr ?_))))
 refine Op11 (LT.bloadN (out := [(iC g.Points),(xF encTBar g.Bars)]) Q ag26 (infS inf26) sz26 (by exact Q) (by exact Q)) Q Q Q Q (mv (Iv k) Q Q Q Q (mv (Iv l) Q Q Q Q (Ob' fun r1 hr1 => (AOR.step (@LT.callF Try.prog _ _ 216 _ _ [(.agg [(iC g.Points),(xF encTBar g.Bars)]),(.c (iC k)),(.c (iC l))] _ _ [] _ _ _ _ ((show Fw.Fn Try.prog 216 [(.agg [(iC g.Points),(xF encTBar g.Bars)]),(.c (iC k)),(.c (iC l))] [] (.tup [(.agg [(lo 23 r1.1.Free.length),(lo 24 r1.1.Tails.length),(lo 25 r1.1.Placed.length)]),(.c (bC r1.2))]) [(23,(pR 3 encInt r1.1.Free)),(24,(pR 3 encInt r1.1.Tails)),(25,(pR 3 encInt r1.1.Placed))] [] [23,24,25] from Fw.Fn.ren [(0,23),(1,24),(2,25)] (w_spec_RunPebbles g k l r1 hr1) Q)) Q cb216 (.cons (.agg (.cons (.same Q) (.cons (.same Q) .nil))) (.cons (.c (.same Q)) (.cons (.c (.same Q)) .nil))) Q Q J) z4 J Q Q (mv (.tup [(.agg [(lo 23 r1.1.Free.length),(lo 24 r1.1.Tails.length),(lo 25 r1.1.Placed.length)]),(.c (bC r1.2))]) Q Q Q Q (Op10 (LT.extract (v := (.agg [(lo 23 r1.1.Free.length),(lo 24 r1.1.Tails.length),(lo 25 r1.1.Placed.length)])) Q (by exact Q)) Q Q Q (Op10 (LT.extract (v := (.c (bC r1.2))) Q (by exact Q)) Q Q Q (Os00 (LT.alloc (n := 26) (cells := [(sC nilV),(sC nilV),(sC nilV)]) Q ti165 Q Q Q) Q Q (Os21 (LT.bstore (v := (.agg [(lo 23 r1.1.Free.length),(lo 24 r1.1.Tails.length),(lo 25 r1.1.Placed.length)])) (out := [(lo 23 r1.1.Free.length),(lo 24 r1.1.Tails.length),(lo 25 r1.1.Placed.length)]) Q Q (infS inf165) sz165 (by exact Q) (by exact K Q) (by exact Q)) Q Q Q Q Q (asg (Bv r1.2) Q Q Q Q (On (Ws ?_))))))))))))
 refine en [(7,(Cc (.pl 26 0)))] [(23,(pR 3 encInt r1.1.Free)),(24,(pR 3 encInt r1.1.Tails)),(25,(pR 3 encInt r1.1.Placed)),(26,(.row 165 [[(lo 23 r1.1.Free.length),(lo 24 r1.1.Tails.length),(lo 25 r1.1.Placed.length)]]))] z1 z4 (Wr (Os00 (LT.tbuildSlice (n := 27) (enc := encInt) [] ([] : List Int) Q Q und37 ti3 Q Q Q Q (by decide) (fun _ => Q) Q) Q Q (Op10 (LT.fieldPl Q fo165_2) Q Q Q (Op11 (LT.bload1 (c := (lo 25 r1.1.Placed.length)) Q ag37 (by exact Q)) Q Q Q Q (Ob' fun u2 hu2 => (Os22 (LT.tappP (enc := encInt) Q Q Q und37 ti3 Q (by decide) (by decide) (fun _ => Q) (lim_le hu2)) Q Q Q Q Q Q (asg (Cc (lo 27 ((([] : List Int) ++ r1.1.Placed).length))) Q Q Q Q (On (en [(6,(Cc (lo 27 ((([] : List Int) ++ r1.1.Placed).length))))] [(27,(pR 3 encInt (([] : List Int) ++ r1.1.Placed)))] z1 z1 (AWR.ent (Ent.mv 27 0 Q Q) (en [(6,(Cc (lo 0 ((([] : List Int) ++ r1.1.Placed).length))))] [(0,(pR 3 encInt (([] : List Int) ++ r1.1.Placed)))] z1 z1 ?_)))))))))))
 refine AWR.ret (FPost.mk (.inr Q) z1 z1 Q ⟨J,J⟩ ⟨PermO.prow' perm_encInt,J⟩)
theorem w_spec_SpecialStress (f : TFramework) : ∀ t,m_spec_SpecialStress f = some t → Fw.Fn Try.prog 69 [(.agg [(iC f.Graph.Points),(xF encTBar f.Graph.Bars),(xF encTPlace f.Places)])] [] (resA [(.c (lo 0 t.1.length)),(.c (bC t.2))]) [(0,(pR 3 encInt t.1))] [] [0] := by
 refine Fw.Fn.of (P := Try.prog) (X := [0]) (pn := []) (rs := (fun (t : ((List Int) × Bool)) => [(.c (lo 0 t.1.length)),(.c (bC t.2))])) (dfs := (fun (t : ((List Int) × Bool)) => [(0,(pR 3 encInt t.1))])) Try.func69 Q Try.ntmps69 (K Q) Q ?_
 intro w0 U0 R0 g0
 unfold m_spec_SpecialStress
 refine Ws (Wr ?_)
 refine Os10 (LT.box (n := 21) (v := (.agg [(iC f.Graph.Points),(xF encTBar f.Graph.Bars),(xF encTPlace f.Places)])) Q sz29 (by exact Q)) Q Q Q (asg (Cc (sC nilV)) Q y2 Q Q (asg (Bv false) Q y2 Q Q (On (Ws (Ws (Wr ?_))))))
 refine Op11 (LT.bloadN (out := [(iC f.Graph.Points),(xF encTBar f.Graph.Bars),(xF encTPlace f.Places)]) Q ag29 (infS inf29) sz29 (by exact Q) (by exact Q)) Q Q Q Q (Ob' fun r1 hr1 => (AOR.pure (@LT.callF Try.prog _ _ 15 _ _ [(.agg [(iC f.Graph.Points),(xF encTBar f.Graph.Bars),(xF encTPlace f.Places)])] _ _ [] _ _ _ _ (w_spec_IsFramework f r1 hr1) Q cb15 (.cons (.agg (.cons (.same Q) (.cons (.same Q) (.cons (.same Q) .nil)))) .nil) Q Q J) z2 J Q Q (Op10 (LT.not Q) Q Q Q (On (AWR.cond Q (fun hc2 => ?_) (fun hc2 => ?_))))))
 ·refine Ws (Wr ?_)
  refine Os00 (LT.tbuildSlice (n := 23) (enc := encInt) [] ([] : List Int) Q Q und37 ti3 Q Q Q Q (by decide) (fun _ => Q) Q) Q Q (asg (Cc (lo 23 (([] : List Int).length))) Q Q Q Q (asg (Bv false) Q y2 Q Q (On (en [(2,(Cc (lo 23 (([] : List Int).length)))),(3,(Bv false))] [(23,(pR 3 encInt ([] : List Int)))] z2 z1 (AWR.ent (Ent.mv 23 0 Q Q) (en [(2,(Cc (lo 0 (([] : List Int).length)))),(3,(Bv false))] [(0,(pR 3 encInt ([] : List Int)))] z2 z1 (AWR.ret (FPost.mk (.inr Q) z2 z1 Q ⟨J,PermP.sc,J⟩ ⟨PermO.prow' perm_encInt,J⟩))))))))
 ·refine AWR.skip (Ws (Wr ?_))
  refine Op10 (LT.fieldPl Q fo29_0) Q Q Q (Op11 (LT.bloadN (out := [(iC f.Graph.Points),(xF encTBar f.Graph.Bars)]) Q ag26 (infS inf26) sz26 (by exact Q) (by exact Q)) Q Q Q Q (Ob' fun r3 hr3 => (AOR.step (@LT.callF Try.prog _ _ 154 _ _ [(.agg [(iC f.Graph.Points),(xF encTBar f.Graph.Bars)]),(.c (iC 2)),(.c (iC 3))] _ _ [] _ _ _ _ ((show Fw.Fn Try.prog 154 [(.agg [(iC f.Graph.Points),(xF encTBar f.Graph.Bars)]),(.c (iC 2)),(.c (iC 3))] [] (Cc (lo 25 r3.length)) [(25,(pR 3 encInt r3))] [] [25] from Fw.Fn.ren [(0,25)] (w_spec_AcceptedBars f.Graph 2 3 r3 hr3) Q)) Q cb154 (.cons (.agg (.cons (.same Q) (.cons (.same Q) .nil))) (.cons (.c (.same Q)) (.cons (.c (.same Q)) .nil))) Q Q J) ⟨Q,Q,y2,y2,J⟩ J Q Q (asg (Cc (lo 25 r3.length)) Q Q Q Q (On (Ws ?_))))))
  refine en [(1,(Cc (.pl 21 0))),(4,(Cc (lo 25 r3.length)))] [(21,(.row 29 [[(iC f.Graph.Points),(xF encTBar f.Graph.Bars),(xF encTPlace f.Places)]])),(25,(pR 3 encInt r3))] z2 z2 (AWR.draw mixed (Dp10 (LT.fieldPl Q fo29_0) Q Q Q (Dp11 (LT.bloadN (out := [(iC f.Graph.Points),(xF encTBar f.Graph.Bars)]) Q ag26 (infS inf26) sz26 (by exact Q) (by exact Q)) Q Q Q Q (Dp10 (LT.move (v := (Cc (lo 25 r3.length))) Q) Q Q Q (AOD.bind fun r4 hr4 => (AOD.step (@LT.callF Try.prog _ _ 155 _ _ [(.agg [(iC f.Graph.Points),(xF encTBar f.Graph.Bars)]),(.c (lo 25 r3.length))] _ _ [(25,(pR 3 encInt r3))] _ _ _ _ ((show Fw.Fn Try.prog 155 [(.agg [(iC f.Graph.Points),(xF encTBar f.Graph.Bars)]),(.c (xF encInt r3))] [] (Ag  [(iC r4.Points),(lo 27 r4.Bars.length)]) [(27,(pR 62 encTBar r4.Bars))] [] [27] from Fw.Fn.ren [(0,27)] (w_spec_OnlyBars f.Graph r3 r4 hr4) Q)) Q cb155 (.cons (.agg (.cons (.same Q) (.cons (.same Q) .nil))) (.cons (.c (.tloc Q Q)) .nil)) Q Q J) z3 z1 Q Q (Dp10 (LT.fieldPl Q fo29_1) Q Q Q (Dp11 (LT.bload1 (c := (xF encTPlace f.Places)) Q ag27 (by exact Q)) Q Q Q Q (Dp20 (LT.build [(0,.tmp 19,(.agg [(iC r4.Points),(lo 27 r4.Bars.length)])),(1,.tmp 21,(.c (xF encTPlace f.Places)))] Q Q pl29 ti29 Q Q Q) Q Q Q Q (Ds00 (LT.alloc (n := 28) (cells := [(iC 0),(sC nilV),(sC nilV)]) Q ti29 Q Q Q) Q Q (Ds21 (LT.bstore (v := (.agg [(iC r4.Points),(lo 27 r4.Bars.length),(xF encTPlace f.Places)])) (out := [(iC r4.Points),(lo 27 r4.Bars.length),(xF encTPlace f.Places)]) Q Q (infS inf29) sz29 (by exact Q) (by exact K Q) (by exact Q)) Q Q Q Q Q ?_)))))))))))
  refine AOD.nil (by kernel_rfl) (Ws (en [(1,(Cc (.pl 21 0))),(4,(Cc (lo 25 r3.length))),(5,(Cc (.pl 28 0)))] [(21,(.row 29 [[(iC f.Graph.Points),(xF encTBar f.Graph.Bars),(xF encTPlace f.Places)]])),(25,(pR 3 encInt r3)),(27,(pR 62 encTBar r4.Bars)),(28,(.row 29 [[(iC r4.Points),(lo 27 r4.Bars.length),(xF encTPlace f.Places)]]))] z3 z4 (Wr (Op11 (LT.bloadN (out := [(iC r4.Points),(lo 27 r4.Bars.length),(xF encTPlace f.Places)]) Q ag29 (infS inf29) sz29 (by exact Q) (by exact Q)) Q Q Q Q (Ob' fun r5 hr5 => (AOR.step (@LT.callF Try.prog _ _ 14 _ _ [(.agg [(iC r4.Points),(lo 27 r4.Bars.length),(xF encTPlace f.Places)])] _ _ [(27,(pR 62 encTBar r4.Bars))] _ _ _ _ ((show Fw.Fn Try.prog 14 [(.agg [(iC (((TFramework.mk r4 f.Places).Graph).Points)),(xF encTBar (((TFramework.mk r4 f.Places).Graph).Bars)),(xF encTPlace ((TFramework.mk r4 f.Places).Places))])] [] (Cc (lo 30 r5.length)) [(30,(pR 37 (encLInt true) r5))] [] [30] from Fw.Fn.ren [(0,30)] (w_spec_StressesOf (TFramework.mk r4 f.Places) r5 hr5) Q)) Q cb14 (.cons (.agg (.cons (.same Q) (.cons (.tloc Q Q) (.cons (.same Q) .nil)))) .nil) Q Q J) z2 z1 Q Q (asg (Cc (lo 30 r5.length)) Q Q Q Q (On (Ws (Ws (Wr ?_)))))))))))
  refine mv (Cc (lo 30 r5.length)) Q Q Q Q (Op10 (LT.lenLoc Q und31) Q Q Q (Op20 (LT.eql Q) Q y2 Q Q (On (AWR.cond Q (fun hc6 => ?_) (fun hc6 => ?_)))))
  ·refine Ws (Wr ?_)
   refine Os00 (LT.tbuildSlice (n := 31) (enc := encInt) [] ([] : List Int) Q Q und37 ti3 Q Q Q Q (by decide) (fun _ => Q) Q) Q Q (asg (Cc (lo 31 (([] : List Int).length))) Q Q Q Q (asg (Bv false) Q y2 Q Q (On (en [(2,(Cc (lo 31 (([] : List Int).length)))),(3,(Bv false))] [(31,(pR 3 encInt ([] : List Int)))] z2 z1 (AWR.ent (Ent.mv 31 0 Q Q) (en [(2,(Cc (lo 0 (([] : List Int).length)))),(3,(Bv false))] [(0,(pR 3 encInt ([] : List Int)))] z2 z1 (AWR.ret (FPost.mk (.inr Q) z2 z1 Q ⟨J,PermP.sc,J⟩ ⟨PermO.prow' perm_encInt,J⟩))))))))
  ·refine AWR.skip (Ws (Wr ?_))
   refine Op10 (LT.fieldPl Q fo29_0) Q Q Q (Op10 (LT.fieldPl Q fo26_1) Q Q Q (Op11 (LT.bload1 (c := (xF encTBar f.Graph.Bars)) Q ag24 (by exact Q)) Q Q Q Q (Op10 (LT.tlenRO Q und24) Q Q Q (Ob' fun u7 hu7 => (Os20 (LT.tmake (n := 32) (enc := encInt) (zc := [(iC 0)]) (0 : Int) Q und37 ti3 Q Q Q (by decide) (by decide) (lenOk_le hu7) Q) Q Q Q Q (asg (Cc (lo 32 ((List.replicate (f.Graph.Bars.length : Int).toNat (0 : Int)).length))) Q Q Q Q (On (Ws (Ws ?_)))))))))
   refine en [(4,(Cc (lo 25 r3.length))),(6,(Cc (lo 30 r5.length))),(7,(Cc (lo 32 ((List.replicate (f.Graph.Bars.length : Int).toNat (0 : Int)).length))))] [(25,(pR 3 encInt r3)),(30,(pR 37 (encLInt true) r5)),(32,(pR 3 encInt (List.replicate (f.Graph.Bars.length : Int).toNat (0 : Int))))] z3 z3 (Wr (asg (Iv 0) Q y2 Q Q (On (AWR.block ?_))))
   refine AWR.loop1 (id := 0) (m_spec_SpecialStress_L1 r3 r5) (fun s8 => ([(4,(Cc (lo 25 r3.length))),(6,(Cc (lo 30 r5.length))),(7,(Cc (lo 32 s8.2.length))),(8,(Iv s8.1))],[(25,(pR 3 encInt r3)),(30,(pR 37 (encLInt true) r5)),(32,(pR 3 encInt s8.2))])) (fun b19 => ([(7,(Cc (lo 32 b19.length)))],[(32,(pR 3 encInt b19))])) ?_ (Ent.of z4 z3) Q (fun b19 _ => ?_)
   ·intro s8
    unfold m_spec_SpecialStress_L1
    refine Ws (Ws (Wr ?_))
    refine mv (Iv s8.1) Q Q Q Q (mv (Cc (lo 25 r3.length)) Q Q Q Q (Op10 (LT.lenLoc Q und37) Q Q Q (Op20 (LT.lss Q) Q Q Q Q (On (AWR.cond Q (fun hc20 => ?_) (fun hc20 => ?_))))))
    ·refine AWR.skip (Ws (AWR.block (AWR.draw mixed ?_)))
     refine Dp10 (LT.move (v := (Cc (lo 32 s8.2.length))) Q) Q Q Q (Dp10 (LT.move (v := (Cc (lo 25 r3.length))) Q) Q Q Q (Dp10 (LT.move (v := (Iv s8.1)) Q) Q Q Q (AOD.bind fun x21 hx21 => (Dp21 (LT.tindexLoc Q Q el37 hx21) Q Q Q Q Q (Dp11 (LT.tload1 (k := 0) Q ag3 hx21 (by exact Q) (by exact Q)) Q Q Q Q (Dp10 (LT.move (v := (Cc (lo 30 r5.length))) Q) Q Q Q (AOD.bind fun x22 hx22 => (Dp21 (LT.tindexLoc Q Q el31 hx22) Q y2 Q Q Q (Dp11 (LT.tload1 (k := 0) Q ag37 hx22 (by exact Q) (by exact Q)) Q Q Q Q (Dp10 (LT.move (v := (Iv s8.1)) Q) Q Q Q (AOD.bind fun x23 hx23 => ?_)))))))))))
     refine Dp20 (LT.tindexRO (enc := encInt) Q el37 hx23 sz3) Q Q Q Q (Dp10 (LT.loadPx1 Q ag3) Q Q Q (AOD.bind fun x24 hx24 => (Dp21 (LT.tindexLoc Q Q el37 hx24) Q Q Q Q Q (Ds21 (LT.tstore (k := 0) (v := (.c (iC x23))) (b' := x23) Q Q (infS inf3) sz3 (by exact Q) hx24 (by exact Q) (by exact K Q) (by exact Q)) Q Q Q Q Q (AOD.nil (by kernel_rfl) (AWR.blk (en [(4,(Cc (lo 25 r3.length))),(6,(Cc (lo 30 r5.length))),(7,(Cc (lo 32 s8.2.length))),(8,(Iv s8.1))] [(25,(pR 3 encInt r3)),(30,(pR 37 (encLInt true) r5)),(32,(pR 3 encInt (s8.2.set x21.toNat x23)))] z4 z3 (Wr (mv (Iv s8.1) Q Q Q Q (Op20 (LT.add Q) Q y2 Q Q (asg (Iv (w64 (s8.1 + 1))) Q Q Q Q ?_)))))))))))
     refine On (AWR.nil ⟨Q,Ent.of ⟨Q,Q,(congrArg (fun l1 => (some (AV.s (.c (lo 32 l1))) : Option AV)) (show s8.2.length = (s8.2.set x21.toNat x23).length by simp only [List.length_set])),Q,J⟩ z3⟩)
    ·refine AWR.exit_end Q ⟨Q,Ent.of z1 z1⟩
   ·refine Ws (Wr ?_)
    refine mv (Cc (lo 32 b19.length)) Q Q Q Q (asg (Cc (lo 32 b19.length)) Q Q Q Q (asg (Bv true) Q y2 Q Q (On (en [(2,(Cc (lo 32 b19.length))),(3,(Bv true))] [(32,(pR 3 encInt b19))] z2 z1 (AWR.ent (Ent.mv 32 0 Q Q) (en [(2,(Cc (lo 0 b19.length))),(3,(Bv true))] [(0,(pR 3 encInt b19))] z2 z1 (AWR.ret (FPost.mk (.inr Q) z2 z1 Q ⟨J,PermP.sc,J⟩ ⟨PermO.prow' perm_encInt,J⟩))))))))
theorem w_impl_AcceptedBars (g : TGraph) (k : Int) (l : Int) : ∀ t,m_impl_AcceptedBars g k l = some t → Fw.Fn Try.prog 157 [(.agg [(iC g.Points),(xF encTBar g.Bars)]),(.c (iC k)),(.c (iC l))] [] (.s (.c (lo 0 t.length))) [(0,(pR 3 encInt t))] [] [0] := by
 refine Fw.Fn.of (P := Try.prog) (X := [0]) (pn := []) (rs := (fun (t : (List Int)) => [(.c (lo 0 t.length))])) (dfs := (fun (t : (List Int)) => [(0,(pR 3 encInt t))])) Try.func157 Q Try.ntmps157 (K Q) Q ?_
 intro w0 U0 R0 g0
 unfold m_impl_AcceptedBars
 refine Ws (Wr ?_)
 refine Os10 (LT.box (n := 21) (v := (.agg [(iC g.Points),(xF encTBar g.Bars)])) Q sz26 (by exact Q)) Q Q Q (asg (Cc (sC nilV)) Q y2 Q Q (On (Ws (Wr ?_))))
 refine Op11 (LT.bloadN (out := [(iC g.Points),(xF encTBar g.Bars)]) Q ag26 (infS inf26) sz26 (by exact Q) (by exact Q)) Q Q Q Q (mv (Iv k) Q Q Q Q (mv (Iv l) Q Q Q Q (Ob' fun r1 hr1 => (AOR.step (@LT.callF Try.prog _ _ 215 _ _ [(.agg [(iC g.Points),(xF encTBar g.Bars)]),(.c (iC k)),(.c (iC l))] _ _ [] _ _ _ _ ((show Fw.Fn Try.prog 215 [(.agg [(iC g.Points),(xF encTBar g.Bars)]),(.c (iC k)),(.c (iC l))] [] (.tup [(.agg [(lo 23 r1.1.Free.length),(lo 24 r1.1.Tails.length),(lo 25 r1.1.Placed.length)]),(.c (bC r1.2))]) [(23,(pR 3 encInt r1.1.Free)),(24,(pR 3 encInt r1.1.Tails)),(25,(pR 3 encInt r1.1.Placed))] [] [23,24,25] from Fw.Fn.ren [(0,23),(1,24),(2,25)] (w_impl_RunPebbles g k l r1 hr1) Q)) Q cb215 (.cons (.agg (.cons (.same Q) (.cons (.same Q) .nil))) (.cons (.c (.same Q)) (.cons (.c (.same Q)) .nil))) Q Q J) z4 J Q Q (mv (.tup [(.agg [(lo 23 r1.1.Free.length),(lo 24 r1.1.Tails.length),(lo 25 r1.1.Placed.length)]),(.c (bC r1.2))]) Q Q Q Q (Op10 (LT.extract (v := (.agg [(lo 23 r1.1.Free.length),(lo 24 r1.1.Tails.length),(lo 25 r1.1.Placed.length)])) Q (by exact Q)) Q Q Q (Op10 (LT.extract (v := (.c (bC r1.2))) Q (by exact Q)) Q Q Q (Os00 (LT.alloc (n := 26) (cells := [(sC nilV),(sC nilV),(sC nilV)]) Q ti165 Q Q Q) Q Q (Os21 (LT.bstore (v := (.agg [(lo 23 r1.1.Free.length),(lo 24 r1.1.Tails.length),(lo 25 r1.1.Placed.length)])) (out := [(lo 23 r1.1.Free.length),(lo 24 r1.1.Tails.length),(lo 25 r1.1.Placed.length)]) Q Q (infS inf165) sz165 (by exact Q) (by exact K Q) (by exact Q)) Q Q Q Q Q (asg (Bv r1.2) Q Q Q Q (On (Ws ?_))))))))))))
 refine en [(7,(Cc (.pl 26 0)))] [(23,(pR 3 encInt r1.1.Free)),(24,(pR 3 encInt r1.1.Tails)),(25,(pR 3 encInt r1.1.Placed)),(26,(.row 165 [[(lo 23 r1.1.Free.length),(lo 24 r1.1.Tails.length),(lo 25 r1.1.Placed.length)]]))] z1 z4 (Wr (Op10 (LT.fieldPl Q fo165_2) Q Q Q (Op11 (LT.bload1 (c := (lo 25 r1.1.Placed.length)) Q ag37 (by exact Q)) Q Q Q Q (Ob' fun r2 hr2 => (AOR.step (@LT.callF Try.prog _ _ 114 _ _ [(.c (lo 25 r1.1.Placed.length))] _ _ [(25,(pR 3 encInt r1.1.Placed))] _ _ _ _ ((show Fw.Fn Try.prog 114 [(.c (xF encInt r1.1.Placed))] [] (Cc (lo 28 r2.length)) [(28,(pR 3 encInt r2))] [] [28] from Fw.Fn.ren [(0,28)] (w_impl_copyInts r1.1.Placed r2 hr2) Q)) Q cb114 (.cons (.c (.tloc Q Q)) .nil) Q Q J) z2 z1 Q Q (asg (Cc (lo 28 r2.length)) Q Q Q Q (On (en [(6,(Cc (lo 28 r2.length)))] [(28,(pR 3 encInt r2))] z1 z1 (AWR.ent (Ent.mv 28 0 Q Q) (en [(6,(Cc (lo 0 r2.length)))] [(0,(pR 3 encInt r2))] z1 z1 (AWR.ret (FPost.mk (.inr Q) z1 z1 Q ⟨J,J⟩ ⟨PermO.prow' perm_encInt,J⟩))))))))))))
theorem w_impl_SpecialStress (f : TFramework) : ∀ t,m_impl_SpecialStress f = some t → Fw.Fn Try.prog 71 [(.agg [(iC f.Graph.Points),(xF encTBar f.Graph.Bars),(xF encTPlace f.Places)])] [] (resA [(.c (lo 0 t.1.length)),(.c (bC t.2))]) [(0,(pR 3 encInt t.1))] [] [0] := by
 refine Fw.Fn.of (P := Try.prog) (X := [0]) (pn := []) (rs := (fun (t : ((List Int) × Bool)) => [(.c (lo 0 t.1.length)),(.c (bC t.2))])) (dfs := (fun (t : ((List Int) × Bool)) => [(0,(pR 3 encInt t.1))])) Try.func71 Q Try.ntmps71 (K Q) Q ?_
 intro w0 U0 R0 g0
 unfold m_impl_SpecialStress
 refine Ws (Wr ?_)
 refine Os10 (LT.box (n := 21) (v := (.agg [(iC f.Graph.Points),(xF encTBar f.Graph.Bars),(xF encTPlace f.Places)])) Q sz29 (by exact Q)) Q Q Q (asg (Cc (sC nilV)) Q y2 Q Q (asg (Bv false) Q y2 Q Q (On (Ws (Ws (Wr ?_))))))
 refine Op11 (LT.bloadN (out := [(iC f.Graph.Points),(xF encTBar f.Graph.Bars),(xF encTPlace f.Places)]) Q ag29 (infS inf29) sz29 (by exact Q) (by exact Q)) Q Q Q Q (Ob' fun r1 hr1 => (AOR.pure (@LT.callF Try.prog _ _ 80 _ _ [(.agg [(iC f.Graph.Points),(xF encTBar f.Graph.Bars),(xF encTPlace f.Places)])] _ _ [] _ _ _ _ (w_impl_IsFramework f r1 hr1) Q cb80 (.cons (.agg (.cons (.same Q) (.cons (.same Q) (.cons (.same Q) .nil)))) .nil) Q Q J) z2 J Q Q (Op10 (LT.not Q) Q Q Q (On (AWR.cond Q (fun hc2 => ?_) (fun hc2 => ?_))))))
 ·refine Ws (Wr ?_)
  refine Os00 (LT.tbuildSlice (n := 23) (enc := encInt) [] ([] : List Int) Q Q und37 ti3 Q Q Q Q (by decide) (fun _ => Q) Q) Q Q (asg (Cc (lo 23 (([] : List Int).length))) Q Q Q Q (asg (Bv false) Q y2 Q Q (On (en [(2,(Cc (lo 23 (([] : List Int).length)))),(3,(Bv false))] [(23,(pR 3 encInt ([] : List Int)))] z2 z1 (AWR.ent (Ent.mv 23 0 Q Q) (en [(2,(Cc (lo 0 (([] : List Int).length)))),(3,(Bv false))] [(0,(pR 3 encInt ([] : List Int)))] z2 z1 (AWR.ret (FPost.mk (.inr Q) z2 z1 Q ⟨J,PermP.sc,J⟩ ⟨PermO.prow' perm_encInt,J⟩))))))))
 ·refine AWR.skip (Ws (Wr ?_))
  refine Op10 (LT.fieldPl Q fo29_0) Q Q Q (Op11 (LT.bloadN (out := [(iC f.Graph.Points),(xF encTBar f.Graph.Bars)]) Q ag26 (infS inf26) sz26 (by exact Q) (by exact Q)) Q Q Q Q (Ob' fun r3 hr3 => (AOR.step (@LT.callF Try.prog _ _ 157 _ _ [(.agg [(iC f.Graph.Points),(xF encTBar f.Graph.Bars)]),(.c (iC 2)),(.c (iC 3))] _ _ [] _ _ _ _ ((show Fw.Fn Try.prog 157 [(.agg [(iC f.Graph.Points),(xF encTBar f.Graph.Bars)]),(.c (iC 2)),(.c (iC 3))] [] (Cc (lo 25 r3.length)) [(25,(pR 3 encInt r3))] [] [25] from Fw.Fn.ren [(0,25)] (w_impl_AcceptedBars f.Graph 2 3 r3 hr3) Q)) Q cb157 (.cons (.agg (.cons (.same Q) (.cons (.same Q) .nil))) (.cons (.c (.same Q)) (.cons (.c (.same Q)) .nil))) Q Q J) ⟨Q,Q,y2,y2,J⟩ J Q Q (asg (Cc (lo 25 r3.length)) Q Q Q Q (On (Ws ?_))))))
  refine en [(1,(Cc (.pl 21 0))),(4,(Cc (lo 25 r3.length)))] [(21,(.row 29 [[(iC f.Graph.Points),(xF encTBar f.Graph.Bars),(xF encTPlace f.Places)]])),(25,(pR 3 encInt r3))] z2 z2 (AWR.draw mixed (Dp10 (LT.fieldPl Q fo29_0) Q Q Q (Dp11 (LT.bloadN (out := [(iC f.Graph.Points),(xF encTBar f.Graph.Bars)]) Q ag26 (infS inf26) sz26 (by exact Q) (by exact Q)) Q Q Q Q (Dp10 (LT.move (v := (Cc (lo 25 r3.length))) Q) Q Q Q (AOD.bind fun r4 hr4 => (AOD.step (@LT.callF Try.prog _ _ 158 _ _ [(.agg [(iC f.Graph.Points),(xF encTBar f.Graph.Bars)]),(.c (lo 25 r3.length))] _ _ [(25,(pR 3 encInt r3))] _ _ _ _ ((show Fw.Fn Try.prog 158 [(.agg [(iC f.Graph.Points),(xF encTBar f.Graph.Bars)]),(.c (xF encInt r3))] [] (Ag  [(iC r4.Points),(lo 27 r4.Bars.length)]) [(27,(pR 62 encTBar r4.Bars))] [] [27] from Fw.Fn.ren [(0,27)] (w_impl_OnlyBars f.Graph r3 r4 hr4) Q)) Q cb158 (.cons (.agg (.cons (.same Q) (.cons (.same Q) .nil))) (.cons (.c (.tloc Q Q)) .nil)) Q Q J) z3 z1 Q Q (Dp10 (LT.fieldPl Q fo29_1) Q Q Q (Dp11 (LT.bload1 (c := (xF encTPlace f.Places)) Q ag27 (by exact Q)) Q Q Q Q (Dp20 (LT.build [(0,.tmp 19,(.agg [(iC r4.Points),(lo 27 r4.Bars.length)])),(1,.tmp 21,(.c (xF encTPlace f.Places)))] Q Q pl29 ti29 Q Q Q) Q Q Q Q (AOD.bind fun r5 hr5 => (AOD.step (@LT.callF Try.prog _ _ 12 _ _ [(.agg [(iC r4.Points),(lo 27 r4.Bars.length),(xF encTPlace f.Places)])] _ _ [(27,(pR 62 encTBar r4.Bars))] _ _ _ _ ((show Fw.Fn Try.prog 12 [(.agg [(iC (((TFramework.mk r4 f.Places).Graph).Points)),(xF encTBar (((TFramework.mk r4 f.Places).Graph).Bars)),(xF encTPlace ((TFramework.mk r4 f.Places).Places))])] [] (Cc (lo 29 r5.length)) [(29,(.trow 37 30 (lensOf r5))),(30,(.pool 3 (rowsOf encInt r5)))] [] [29,30] from Fw.Fn.ren [(0,29),(1,30)] (w_impl_StressesOf (TFramework.mk r4 f.Places) r5 hr5) Q)) Q cb12 (.cons (.agg (.cons (.same Q) (.cons (.tloc Q Q) (.cons (.same Q) .nil)))) .nil) Q Q J) z2 z1 Q Q ?_)))))))))))
  refine Dp10 (LT.assign (v := (Cc (lo 29 r5.length))) Q) Q Q Q (AOD.nil (by kernel_rfl) (Ws (Ws ?_)))
  refine en [(1,(Cc (.pl 21 0))),(4,(Cc (lo 25 r3.length))),(5,(Cc (lo 29 r5.length)))] [(21,(.row 29 [[(iC f.Graph.Points),(xF encTBar f.Graph.Bars),(xF encTPlace f.Places)]])),(25,(pR 3 encInt r3)),(29,(.trow 37 30 (lensOf r5))),(30,(.pool 3 (rowsOf encInt r5)))] z3 z4 (Wr (mv (Cc (lo 29 r5.length)) Q Q Q Q (Op10 (LT.lenLoc Q und31) Q Q Q (Op20 (LT.eql Q) Q y2 Q Q (On (AWR.cond Q (fun hc6 => ?_) (fun hc6 => ?_)))))))
  ·refine Ws (Wr ?_)
   refine Os00 (LT.tbuildSlice (n := 31) (enc := encInt) [] ([] : List Int) Q Q und37 ti3 Q Q Q Q (by decide) (fun _ => Q) Q) Q Q (asg (Cc (lo 31 (([] : List Int).length))) Q Q Q Q (asg (Bv false) Q y2 Q Q (On (en [(2,(Cc (lo 31 (([] : List Int).length)))),(3,(Bv false))] [(31,(pR 3 encInt ([] : List Int)))] z2 z1 (AWR.ent (Ent.mv 31 0 Q Q) (en [(2,(Cc (lo 0 (([] : List Int).length)))),(3,(Bv false))] [(0,(pR 3 encInt ([] : List Int)))] z2 z1 (AWR.ret (FPost.mk (.inr Q) z2 z1 Q ⟨J,PermP.sc,J⟩ ⟨PermO.prow' perm_encInt,J⟩))))))))
  ·refine AWR.skip (Ws (Wr ?_))
   refine Op10 (LT.fieldPl Q fo29_0) Q Q Q (Op10 (LT.fieldPl Q fo26_1) Q Q Q (Op11 (LT.bload1 (c := (xF encTBar f.Graph.Bars)) Q ag24 (by exact Q)) Q Q Q Q (Op10 (LT.tlenRO Q und24) Q Q Q (Ob' fun u7 hu7 => (Os20 (LT.tmake (n := 32) (enc := encInt) (zc := [(iC 0)]) (0 : Int) Q und37 ti3 Q Q Q (by decide) (by decide) (lenOk_le hu7) Q) Q Q Q Q (asg (Cc (lo 32 ((List.replicate (f.Graph.Bars.length : Int).toNat (0 : Int)).length))) Q Q Q Q (On (Ws (Ws ?_)))))))))
   refine en [(4,(Cc (lo 25 r3.length))),(5,(Cc (lo 29 r5.length))),(6,(Cc (lo 32 ((List.replicate (f.Graph.Bars.length : Int).toNat (0 : Int)).length))))] [(25,(pR 3 encInt r3)),(29,(.trow 37 30 (lensOf r5))),(30,(.pool 3 (rowsOf encInt r5))),(32,(pR 3 encInt (List.replicate (f.Graph.Bars.length : Int).toNat (0 : Int))))] z3 z4 (Wr (mv (Cc (lo 32 ((List.replicate (f.Graph.Bars.length : Int).toNat (0 : Int)).length))) Q Q Q Q (Op10 (LT.lenLoc Q und37) Q Q Q (mv (Iv 0) Q y2 Q Q (On (AWR.block ?_))))))
   refine AWR.loop1 (id := 0) (m_impl_SpecialStress_L1 f r3 r5) (fun s8 => ([(4,(Cc (lo 25 r3.length))),(5,(Cc (lo 29 r5.length))),(6,(Cc (lo 32 s8.2.length))),(34,(Iv ((List.replicate (f.Graph.Bars.length : Int).toNat (0 : Int)).length : Int))),(35,(Iv s8.1))],[(25,(pR 3 encInt r3)),(29,(.trow 37 30 (lensOf r5))),(30,(.pool 3 (rowsOf encInt r5))),(32,(pR 3 encInt s8.2))])) (fun b31 => ([(6,(Cc (lo 32 b31.length)))],[(32,(pR 3 encInt b31))])) ?_ (Ent.of z5 z4) Q (fun b31 _ => ?_)
   ·intro s8
    unfold m_impl_SpecialStress_L1
    refine Ws (Wr ?_)
    refine Op20 (LT.lss Q) Q Q Q Q (On (Ws ?_))
    refine AWR.cond Q (fun hc32 => ?_) (fun hc32 => ?_)
    ·refine AWR.skip (Ws (AWR.block (Ws (Wr ?_))))
     refine mv (Iv s8.1) Q Q Q Q (asg (Iv s8.1) Q Q Q Q (On (Ws (Wr ?_))))
     refine mv (Cc (lo 25 r3.length)) Q Q Q Q (mv (Iv s8.1) Q Q Q Q (Ob' fun r33 hr33 => (AOR.pure (@LT.callF Try.prog _ _ 159 _ _ [(.c (lo 25 r3.length)),(.c (iC s8.1))] _ _ [(25,(pR 3 encInt r3))] _ _ _ _ (w_slices_Index r3 s8.1 r33 hr33) Q cb159 (.cons (.c (.tloc Q Q)) (.cons (.c (.same Q)) .nil)) Q Q J) z3 z1 Q Q (asg (Iv r33) Q Q Q Q (On (Ws (Wr ?_)))))))
     refine mv (Iv r33) Q Q Q Q (Op20 (LT.geq Q) Q y2 Q Q (On (AWR.joinK (fun j38 => ([(4,(Cc (lo 25 r3.length))),(5,(Cc (lo 29 r5.length))),(6,(Cc (lo 32 j38.length))),(34,(Iv ((List.replicate (f.Graph.Bars.length : Int).toNat (0 : Int)).length : Int))),(35,(Iv s8.1))],[(25,(pR 3 encInt r3)),(29,(.trow 37 30 (lensOf r5))),(30,(.pool 3 (rowsOf encInt r5))),(32,(pR 3 encInt j38))])) ?_ (fun j38 _ => ?_))))
     ·refine AWR.cond Q (fun hc39 => ?_) (fun hc39 => ?_)
      ·refine Wr (mv (Cc (lo 32 s8.2.length)) Q Q Q Q (mv (Iv s8.1) Q Q Q Q (mv (Cc (lo 29 r5.length)) Q Q Q Q (Ob' fun x40 hx40 => (Op21 (LT.xindex Q Q el31 hx40) Q y2 Q Q Q (Op11 (LT.xload Q ag37 hx40 Q) Q Q Q Q (mv (Iv r33) Q Q Q Q (Ob' fun x41 hx41 => (Op21 (LT.tlindex Q Q el37 (idx_get hx40) hx41) Q Q Q Q Q (Op11 (LT.tlload1 (enc := encInt) (j := 0) Q ag3 (idx_get hx40) hx41 (by exact Q) (by exact Q)) Q Q Q Q (Ob' fun x42 hx42 => ?_)))))))))))
       refine Op21 (LT.tindexLoc Q Q el37 hx42) Q Q Q Q Q (Os21 (LT.tstore (k := 0) (v := (.c (iC x41))) (b' := x41) Q Q (infS inf3) sz3 (by exact Q) hx42 (by exact Q) (by exact K Q) (by exact Q)) Q Q Q Q Q (On (AWR.nil ⟨Q,Ent.of ⟨Q,Q,(congrArg (fun l1 => (some (AV.s (.c (lo 32 l1))) : Option AV)) (show s8.2.length = (s8.2.set s8.1.toNat x41).length by simp only [List.length_set])),Q,Q,J⟩ z4⟩)))
      ·refine AWR.skip (AWR.nil ⟨Q,Ent.of z5 z4⟩)
     ·refine AWR.blk (Wr ?_)
      refine Op20 (LT.add Q) Q y2 Q Q (mv (Iv (w64 (s8.1 + 1))) Q Q Q Q (On (AWR.nil ⟨Q,Ent.of z5 z4⟩)))
    ·refine AWR.exit_end Q ⟨Q,Ent.of z1 z1⟩
   ·refine Ws (Wr ?_)
    refine mv (Cc (lo 32 b31.length)) Q Q Q Q (asg (Cc (lo 32 b31.length)) Q Q Q Q (asg (Bv true) Q y2 Q Q (On (en [(2,(Cc (lo 32 b31.length))),(3,(Bv true))] [(32,(pR 3 encInt b31))] z2 z1 (AWR.ent (Ent.mv 32 0 Q Q) (en [(2,(Cc (lo 0 b31.length))),(3,(Bv true))] [(0,(pR 3 encInt b31))] z2 z1 (AWR.ret (FPost.mk (.inr Q) z2 z1 Q ⟨J,PermP.sc,J⟩ ⟨PermO.prow' perm_encInt,J⟩))))))))
theorem w_laws_FnExactSpecialStress (aF : TFramework) : ∀ t,m_laws_FnExactSpecialStress aF = some t → Fw.Fn Try.prog 7 [(.agg [(iC aF.Graph.Points),(xF encTBar aF.Graph.Bars),(xF encTPlace aF.Places)])] [] (.s (.c (bC t))) [] [] [] := by
 refine Fw.Fn.of (P := Try.prog) (X := []) (pn := []) (rs := (fun (t : Bool) => [(.c (bC t))])) (dfs := (fun (t : Bool) => [])) Try.func7 Q Try.ntmps7 (K Q) Q ?_
 intro w0 U0 R0 g0
 unfold m_laws_FnExactSpecialStress
 refine Ws (Wr ?_)
 refine Os10 (LT.box (n := 21) (v := (.agg [(iC aF.Graph.Points),(xF encTBar aF.Graph.Bars),(xF encTPlace aF.Places)])) Q sz68 (by exact Q)) Q Q Q (asg (Bv false) Q y2 Q Q (On (Ws (Wr ?_))))
 refine asg (Iv 1048576) Q y2 Q Q (On (Ws (Wr ?_)))
 refine Op11 (LT.bloadN (out := [(iC aF.Graph.Points),(xF encTBar aF.Graph.Bars),(xF encTPlace aF.Places)]) Q ag68 (infS inf68) sz68 (by exact Q) (by exact Q)) Q Q Q Q (mv (Iv 1048576) Q Q Q Q (Ob' fun r1 hr1 => (AOR.pure (@LT.callF Try.prog _ _ 68 _ _ [(.agg [(iC aF.Graph.Points),(xF encTBar aF.Graph.Bars),(xF encTPlace aF.Places)]),(.c (iC 1048576))] _ _ [] _ _ _ _ (w_laws_szFramework aF 1048576 r1 hr1) Q cb68 (.cons (.agg (.cons (.same Q) (.cons (.same Q) (.cons (.same Q) .nil)))) (.cons (.c (.same Q)) .nil)) Q Q J) z3 J Q Q (asg (Iv r1) Q Q Q Q (On (Ws (Ws (Wr ?_))))))))
 refine mv (Iv r1) Q Q Q Q (Op20 (LT.lss Q) Q y2 Q Q (On (AWR.cond Q (fun hc2 => ?_) (fun hc2 => ?_))))
 ·refine Ws (en [] [] J J (Wr (asg (Bv true) Q y2 Q Q (On (AWR.ret (FPost.mk (.inr Q) z1 J Q ⟨PermP.sc,J⟩ J))))))
 ·refine AWR.skip (Ws ?_)
  refine en [(1,(Cc (.pl 21 0)))] [(21,(.row 68 [[(iC aF.Graph.Points),(xF encTBar aF.Graph.Bars),(xF encTPlace aF.Places)]]))] z1 z1 (Wr (Op11 (LT.bloadN (out := [(iC aF.Graph.Points),(xF encTBar aF.Graph.Bars),(xF encTPlace aF.Places)]) Q ag68 (infS inf68) sz68 (by exact Q) (by exact Q)) Q Q Q Q (Ob' fun r3 hr3 => (AOR.step (@LT.callF Try.prog _ _ 70 _ _ [(.agg [(iC aF.Graph.Points),(xF encTBar aF.Graph.Bars),(xF encTPlace aF.Places)])] _ _ [] _ _ _ _ ((show Fw.Fn Try.prog 70 [(.agg [(iC aF.Graph.Points),(xF encTBar aF.Graph.Bars),(xF encTPlace aF.Places)])] [] (Ag  [(iC r3.Graph.Points),(lo 24 r3.Graph.Bars.length),(lo 25 r3.Places.length)]) [(24,(pR 62 encTBar r3.Graph.Bars)),(25,(pR 94 encTPlace r3.Places))] [] [24,25] from Fw.Fn.ren [(0,24),(1,25)] (w_laws_toFramework aF r3 hr3) Q)) Q cb70 (.cons (.agg (.cons (.same Q) (.cons (.same Q) (.cons (.same Q) .nil)))) .nil) Q Q J) z2 J Q Q (Ob' fun r4 hr4 => (AOR.step (@LT.callF Try.prog _ _ 69 _ _ [(.agg [(iC r3.Graph.Points),(lo 24 r3.Graph.Bars.length),(lo 25 r3.Places.length)])] _ _ [(24,(pR 62 encTBar r3.Graph.Bars)),(25,(pR 94 encTPlace r3.Places))] _ _ _ _ ((show Fw.Fn Try.prog 69 [(.agg [(iC r3.Graph.Points),(xF encTBar r3.Graph.Bars),(xF encTPlace r3.Places)])] [] (.tup [(.c (lo 27 r4.1.length)),(.c (bC r4.2))]) [(27,(pR 3 encInt r4.1))] [] [27] from Fw.Fn.ren [(0,27)] (w_spec_SpecialStress r3 r4 hr4) Q)) Q cb69 (.cons (.agg (.cons (.same Q) (.cons (.tloc Q Q) (.cons (.tloc Q Q) .nil)))) .nil) Q Q J) z2 z2 Q Q (mv (.tup [(.c (lo 27 r4.1.length)),(.c (bC r4.2))]) Q Q Q Q (Op10 (LT.extract (v := (.c (lo 27 r4.1.length))) Q (by exact Q)) Q Q Q (Op10 (LT.extract (v := (.c (bC r4.2))) Q (by exact Q)) Q Q Q (asg (Cc (lo 27 r4.1.length)) Q Q Q Q (asg (Bv r4.2) Q Q Q Q ?_)))))))))))
  refine On (Ws ?_)
  refine en [(1,(Cc (.pl 21 0))),(4,(Cc (lo 27 r4.1.length))),(5,(Bv r4.2))] [(21,(.row 68 [[(iC aF.Graph.Points),(xF encTBar aF.Graph.Bars),(xF encTPlace aF.Places)]])),(27,(pR 3 encInt r4.1))] z3 z2 (Wr (Op11 (LT.bloadN (out := [(iC aF.Graph.Points),(xF encTBar aF.Graph.Bars),(xF encTPlace aF.Places)]) Q ag68 (infS inf68) sz68 (by exact Q) (by exact Q)) Q Q Q Q (Ob' fun r5 hr5 => (AOR.step (@LT.callF Try.prog _ _ 70 _ _ [(.agg [(iC aF.Graph.Points),(xF encTBar aF.Graph.Bars),(xF encTPlace aF.Places)])] _ _ [] _ _ _ _ ((show Fw.Fn Try.prog 70 [(.agg [(iC aF.Graph.Points),(xF encTBar aF.Graph.Bars),(xF encTPlace aF.Places)])] [] (Ag  [(iC r5.Graph.Points),(lo 29 r5.Graph.Bars.length),(lo 30 r5.Places.length)]) [(29,(pR 62 encTBar r5.Graph.Bars)),(30,(pR 94 encTPlace r5.Places))] [] [29,30] from Fw.Fn.ren [(0,29),(1,30)] (w_laws_toFramework aF r5 hr5) Q)) Q cb70 (.cons (.agg (.cons (.same Q) (.cons (.same Q) (.cons (.same Q) .nil)))) .nil) Q Q J) z2 J Q Q (Os00 (LT.alloc (n := 31) (cells := [(iC 0),(sC nilV),(sC nilV)]) Q ti29 Q Q Q) Q Q (Os21 (LT.bstore (v := (.agg [(iC r5.Graph.Points),(lo 29 r5.Graph.Bars.length),(lo 30 r5.Places.length)])) (out := [(iC r5.Graph.Points),(lo 29 r5.Graph.Bars.length),(lo 30 r5.Places.length)]) Q Q (infS inf29) sz29 (by exact Q) (by exact K Q) (by exact Q)) Q Q Q Q Q (On (Ws (Wr ?_)))))))))
  refine Op11 (LT.bloadN (out := [(iC r5.Graph.Points),(lo 29 r5.Graph.Bars.length),(lo 30 r5.Places.length)]) Q ag29 (infS inf29) sz29 (by exact Q) (by exact Q)) Q Q Q Q (Ob' fun r6 hr6 => (AOR.step (@LT.callF Try.prog _ _ 71 _ _ [(.agg [(iC r5.Graph.Points),(lo 29 r5.Graph.Bars.length),(lo 30 r5.Places.length)])] _ _ [(29,(pR 62 encTBar r5.Graph.Bars)),(30,(pR 94 encTPlace r5.Places))] _ _ _ _ ((show Fw.Fn Try.prog 71 [(.agg [(iC r5.Graph.Points),(xF encTBar r5.Graph.Bars),(xF encTPlace r5.Places)])] [] (.tup [(.c (lo 33 r6.1.length)),(.c (bC r6.2))]) [(33,(pR 3 encInt r6.1))] [] [33] from Fw.Fn.ren [(0,33)] (w_impl_SpecialStress r5 r6 hr6) Q)) Q cb71 (.cons (.agg (.cons (.same Q) (.cons (.tloc Q Q) (.cons (.tloc Q Q) .nil)))) .nil) Q Q J) z2 z2 Q Q (mv (.tup [(.c (lo 33 r6.1.length)),(.c (bC r6.2))]) Q Q Q Q (Op10 (LT.extract (v := (.c (lo 33 r6.1.length))) Q (by exact Q)) Q Q Q (Op10 (LT.extract (v := (.c (bC r6.2))) Q (by exact Q)) Q Q Q (asg (Cc (lo 33 r6.1.length)) Q Q Q Q (asg (Bv r6.2) Q Q Q Q (On (Ws (Ws ?_))))))))))
  refine AWR.joinK (fun j9 => ([(1,(Cc (.pl 21 0))),(4,(Cc (lo 27 r4.1.length))),(5,(Bv r4.2)),(6,(Cc (.pl 31 0))),(7,(Cc (lo 33 r6.1.length))),(8,(Bv r6.2)),(40,(Bv j9))],[(21,(.row 68 [[(iC aF.Graph.Points),(xF encTBar aF.Graph.Bars),(xF encTPlace aF.Places)]])),(27,(pR 3 encInt r4.1)),(29,(pR 62 encTBar r5.Graph.Bars)),(30,(pR 94 encTPlace r5.Places)),(31,(.row 29 [[(iC r5.Graph.Points),(lo 29 r5.Graph.Bars.length),(lo 30 r5.Places.length)]])),(33,(pR 3 encInt r6.1))])) ?_ (fun j9 _ => ?_)
  ·refine en [(1,(Cc (.pl 21 0))),(4,(Cc (lo 27 r4.1.length))),(5,(Bv r4.2)),(6,(Cc (.pl 31 0))),(7,(Cc (lo 33 r6.1.length))),(8,(Bv r6.2))] [(21,(.row 68 [[(iC aF.Graph.Points),(xF encTBar aF.Graph.Bars),(xF encTPlace aF.Places)]])),(27,(pR 3 encInt r4.1)),(29,(pR 62 encTBar r5.Graph.Bars)),(30,(pR 94 encTPlace r5.Places)),(31,(.row 29 [[(iC r5.Graph.Points),(lo 29 r5.Graph.Bars.length),(lo 30 r5.Places.length)]])),(33,(pR 3 encInt r6.1))] z6 z6 (Wr (mv (Cc (lo 33 r6.1.length)) Q Q Q Q (mv (Cc (lo 27 r4.1.length)) Q Q Q Q (Ob' fun r10 hr10 => (AOR.pure (@LT.callF Try.prog _ _ 63 _ _ [(.c (lo 33 r6.1.length)),(.c (lo 27 r4.1.length))] _ _ [(33,(pR 3 encInt r6.1)),(27,(pR 3 encInt r4.1))] _ _ _ _ (w_laws_eqIntS r6.1 r4.1 r10 hr10) Q cb63 (.cons (.c (.tloc Q Q)) (.cons (.c (.tloc Q Q)) .nil)) Q Q J) z3 z2 Q Q (Op10 (LT.not Q) Q Q Q (mv (Bv (!r10)) Q Q Q Q (AOR.split (fun hb11 => ?_) (fun hb11 => ?_)))))))))
   ·refine Ok Q Q Q (by rw [hb11]; rfl) Q (Ok Q Q Q (by rw [hb11]; rfl) Q (Ok Q Q Q (by rw [hb11]; rfl) Q (Op20 (LT.pickT (v := (Bv true)) Q hb11) Q y2 Q Q (On (AWR.nil ⟨Q,Ent.of z7 z6⟩)))))
   ·refine mv (Bv r6.2) Q Q (gH hb11 Q Q) Q (mv (Bv r4.2) Q Q (gH hb11 Q Q) Q (Op20 (LT.neqB Q und4) Q Q (gH hb11 Q Q) Q (Op20 (LT.pickF (v := (Bv (r6.2 != r4.2))) Q hb11) Q Q Q Q (On (AWR.nil ⟨Q,Ent.of z7 z6⟩)))))
  ·refine AWR.cond Q (fun hc12 => ?_) (fun hc12 => ?_)
   ·refine Ws (Wr ?_)
    refine asg (Bv false) Q y2 Q Q (On (AWR.ret (FPost.mk (.inr Q) z1 J Q ⟨PermP.sc,J⟩ J)))
   ·refine AWR.skip (Ws (Ws (AWR.draw mixed ?_)))
    refine Dp11 (LT.bloadN (out := [(iC r5.Graph.Points),(lo 29 r5.Graph.Bars.length),(lo 30 r5.Places.length)]) Q ag29 (infS inf29) sz29 (by exact Q) (by exact Q)) Q Q Q Q (Dp11 (LT.bloadN (out := [(iC aF.Graph.Points),(xF encTBar aF.Graph.Bars),(xF encTPlace aF.Places)]) Q ag68 (infS inf68) sz68 (by exact Q) (by exact Q)) Q Q Q Q (AOD.bind fun r13 hr13 => (AOD.step (@LT.callF Try.prog _ _ 70 _ _ [(.agg [(iC aF.Graph.Points),(xF encTBar aF.Graph.Bars),(xF encTPlace aF.Places)])] _ _ [] _ _ _ _ ((show Fw.Fn Try.prog 70 [(.agg [(iC aF.Graph.Points),(xF encTBar aF.Graph.Bars),(xF encTPlace aF.Places)])] [] (Ag  [(iC r13.Graph.Points),(lo 36 r13.Graph.Bars.length),(lo 37 r13.Places.length)]) [(36,(pR 62 encTBar r13.Graph.Bars)),(37,(pR 94 encTPlace r13.Places))] [] [36,37] from Fw.Fn.ren [(0,36),(1,37)] (w_laws_toFramework aF r13 hr13) Q)) Q cb70 (.cons (.agg (.cons (.same Q) (.cons (.same Q) (.cons (.same Q) .nil)))) .nil) Q Q J) z2 J Q Q (AOD.bind fun r14 hr14 => (AOD.pure (@LT.callF Try.prog _ _ 37 _ _ [(.agg [(iC r5.Graph.Points),(lo 29 r5.Graph.Bars.length),(lo 30 r5.Places.length)]),(.agg [(iC r13.Graph.Points),(lo 36 r13.Graph.Bars.length),(lo 37 r13.Places.length)])] _ _ [(29,(pR 62 encTBar r5.Graph.Bars)),(30,(pR 94 encTPlace r5.Places)),(36,(pR 62 encTBar r13.Graph.Bars)),(37,(pR 94 encTPlace r13.Places))] _ _ _ _ (w_laws_eqFramework r5 r13 r14 hr14) Q cb37 (.cons (.agg (.cons (.same Q) (.cons (.tloc Q Q) (.cons (.tloc Q Q) .nil)))) (.cons (.agg (.cons (.same Q) (.cons (.tloc Q Q) (.cons (.tloc Q Q) .nil)))) .nil)) Q Q J) z3 z4 Q Q (Dp10 (LT.not Q) Q Q Q (AOD.nil (by kernel_rfl) (AWR.cond Q (fun hc15 => ?_) (fun hc15 => ?_)))))))))
    ·refine Ws (Wr ?_)
     refine asg (Bv false) Q y2 Q Q (On (AWR.ret (FPost.mk (.inr Q) z1 J Q ⟨PermP.sc,J⟩ J)))
    ·refine AWR.skip (Ws (Wr ?_))
     refine asg (Iv 1) Q y2 Q Q (On (Ws (Wr ?_)))
     refine Op11 (LT.bloadN (out := [(iC r5.Graph.Points),(lo 29 r5.Graph.Bars.length),(lo 30 r5.Places.length)]) Q ag29 (infS inf29) sz29 (by exact Q) (by exact Q)) Q Q Q Q (mv (Iv 1) Q Q Q Q (Ob' fun r16 hr16 => (AOR.step (@LT.callF Try.prog _ _ 40 _ _ [(.agg [(iC r5.Graph.Points),(lo 29 r5.Graph.Bars.length),(lo 30 r5.Places.length)]),(.c (iC 1))] _ _ [] _ _ _ _ ((show Fw.Fn Try.prog 40 [(.agg [(iC r5.Graph.Points),(lo 29 r5.Graph.Bars.length),(lo 30 r5.Places.length)]),(.c (iC 1))] [(29,(pR 62 encTBar r5.Graph.Bars)),(30,(pR 94 encTPlace r5.Places))] (Iv r16.1) [(29,(pR 62 encTBar r16.2.1)),(30,(pR 94 encTPlace r16.2.2))] [29,30] [] from Fw.Fn.ren [(0,29),(1,30)] (w_laws_markFramework r5 1 r16 hr16) Q)) Q cb40 (.cons (.agg (.cons (.same Q) (.cons (.same Q) (.cons (.same Q) .nil)))) (.cons (.c (.same Q)) .nil)) Q Q z2) z3 z2 Q Q (asg (Iv r16.1) Q Q Q Q (On (Ws (Ws ?_)))))))
     refine AWR.joinK (fun j20 => ([(1,(Cc (.pl 21 0))),(4,(Cc (lo 27 r4.1.length))),(5,(Bv r4.2)),(7,(Cc (lo 33 r6.1.length))),(61,(Bv j20))],[(21,(.row 68 [[(iC aF.Graph.Points),(xF encTBar aF.Graph.Bars),(xF encTPlace aF.Places)]])),(27,(pR 3 encInt r4.1)),(33,(pR 3 encInt r6.1))])) ?_ (fun j20 _ => ?_)
     ·refine en [(1,(Cc (.pl 21 0))),(4,(Cc (lo 27 r4.1.length))),(5,(Bv r4.2)),(7,(Cc (lo 33 r6.1.length))),(8,(Bv r6.2)),(9,(Iv r16.1))] [(21,(.row 68 [[(iC aF.Graph.Points),(xF encTBar aF.Graph.Bars),(xF encTPlace aF.Places)]])),(27,(pR 3 encInt r4.1)),(33,(pR 3 encInt r6.1))] z6 z3 (Wr (mv (Iv r16.1) Q Q Q Q (Op20 (LT.lss Q) Q y2 Q Q (mv (Bv (decide (r16.1 < 0))) Q Q Q Q (AOR.split (fun hb21 => ?_) (fun hb21 => ?_))))))
      ·refine Ok Q Q Q (by rw [hb21]; rfl) Q (Ok Q Q Q (by rw [hb21]; rfl) Q (Ok Q Q Q (by rw [hb21]; rfl) Q (Ok Q Q Q (by rw [hb21]; rfl) Q (Op20 (LT.pickT (v := (Bv true)) Q hb21) Q y2 Q Q (mv (Bv true) Q Q Q Q (Ok Q Q Q Q Q (Ok Q Q Q Q Q (Ok Q Q Q Q Q (Op20 (LT.pickT (v := (Bv true)) Q Q) Q y2 Q Q (On (AWR.nil ⟨Q,Ent.of z5 z3⟩)))))))))))
      ·refine mv (Cc (lo 33 r6.1.length)) Q Q (gH hb21 Q Q) Q (mv (Cc (lo 27 r4.1.length)) Q Q (gH hb21 Q Q) Q (Ob' fun r22 hr22 => (AOR.pure (@LT.callF Try.prog _ _ 63 _ _ [(.c (lo 33 r6.1.length)),(.c (lo 27 r4.1.length))] _ _ [(33,(pR 3 encInt r6.1)),(27,(pR 3 encInt r4.1))] _ _ _ _ (w_laws_eqIntS r6.1 r4.1 r22 hr22) Q cb63 (.cons (.c (.tloc Q Q)) (.cons (.c (.tloc Q Q)) .nil)) Q Q J) z3 z2 (gH hb21 Q Q) Q (Op10 (LT.not Q) Q (gH hb21 Q Q) Q (Op20 (LT.pickF (v := (Bv (!r22))) Q hb21) Q Q Q Q (mv (Bv (!r22)) Q Q Q Q (AOR.split (fun hb23 => ?_) (fun hb23 => ?_))))))))
       ·refine Ok Q Q Q (by rw [hb23]; rfl) Q (Ok Q Q Q (by rw [hb23]; rfl) Q (Ok Q Q Q (by rw [hb23]; rfl) Q (Op20 (LT.pickT (v := (Bv true)) Q hb23) Q y2 Q Q (On (AWR.nil ⟨Q,Ent.of z5 z3⟩)))))
       ·refine mv (Bv r6.2) Q Q (gH hb23 Q Q) Q (mv (Bv r4.2) Q Q (gH hb23 Q Q) Q (Op20 (LT.neqB Q und4) Q Q (gH hb23 Q Q) Q (Op20 (LT.pickF (v := (Bv (r6.2 != r4.2))) Q hb23) Q Q Q Q (On (AWR.nil ⟨Q,Ent.of z5 z3⟩)))))
     ·refine AWR.cond Q (fun hc24 => ?_) (fun hc24 => ?_)
      ·refine Ws (Wr ?_)
       refine asg (Bv false) Q y2 Q Q (On (AWR.ret (FPost.mk (.inr Q) z1 J Q ⟨PermP.sc,J⟩ J)))
      ·refine AWR.skip (Ws (Wr ?_))
       refine asg (Iv 1) Q y2 Q Q (On (Ws (Wr ?_)))
       refine mv (Cc (lo 33 r6.1.length)) Q Q Q Q (mv (Iv 1) Q Q Q Q (Ob' fun r25 hr25 => (AOR.step (@LT.callF Try.prog _ _ 66 _ _ [(.c (lo 33 r6.1.length)),(.c (iC 1))] _ _ [] _ _ _ _ ((show Fw.Fn Try.prog 66 [(.c (lo 33 r6.1.length)),(.c (iC 1))] [(33,(pR 3 encInt r6.1))] (Iv r25.1) [(33,(pR 3 encInt r25.2))] [33] [] from Fw.Fn.ren [(0,33)] (w_laws_markIntS r6.1 1 r25 hr25) Q)) Q cb66 (.cons (.c (.same Q)) (.cons (.c (.same Q)) .nil)) Q Q z1) z3 z1 Q Q (asg (Iv r25.1) Q Q Q Q (On (Ws (Wr ?_)))))))
       refine asg (Iv 1) Q y2 Q Q (On (Ws (Wr ?_)))
       refine mv (Cc (lo 33 r6.1.length)) Q Q Q Q (mv (Iv 1) Q Q Q Q (Ob' fun u26 hu26 => (Ob' fun r27 hr27 => (AOR.pure (@LT.callF Try.prog _ _ 67 _ _ [(.c (lo 33 r6.1.length)),(.c (iC 1))] _ _ [(33,(pR 3 encInt r25.2))] _ _ _ _ (w_laws_heldIntS r25.2 1 r27 hr27) Q cb67 (.cons (.c (.tloc (same_eq hu26) Q)) (.cons (.c (.same Q)) .nil)) Q Q J) z3 z1 Q Q (asg (Iv r27) Q Q Q Q (On (Ws (Ws ?_))))))))
       refine en [(1,(Cc (.pl 21 0))),(4,(Cc (lo 27 r4.1.length))),(5,(Bv r4.2)),(7,(Cc (lo 33 r6.1.length))),(10,(Iv r25.1)),(11,(Iv r27))] [(21,(.row 68 [[(iC aF.Graph.Points),(xF encTBar aF.Graph.Bars),(xF encTPlace aF.Places)]])),(27,(pR 3 encInt r4.1)),(33,(pR 3 encInt r25.2))] z6 z3 (Wr (mv (Iv r27) Q Q Q Q (Op20 (LT.lss Q) Q y2 Q Q (On (AWR.cond Q (fun hc28 => ?_) (fun hc28 => ?_))))))
       ·refine Ws (Wr ?_)
        refine asg (Bv false) Q y2 Q Q (On (AWR.ret (FPost.mk (.inr Q) z1 J Q ⟨PermP.sc,J⟩ J)))
       ·refine AWR.skip (Ws (Ws (Wr ?_)))
        refine mv (Iv r27) Q Q Q Q (mv (Iv r25.1) Q Q Q Q (Op20 (LT.neq Q) Q Q Q Q (On (AWR.cond Q (fun hc29 => ?_) (fun hc29 => ?_)))))
        ·refine Ws (Wr ?_)
         refine asg (Bv false) Q y2 Q Q (On (AWR.ret (FPost.mk (.inr Q) z1 J Q ⟨PermP.sc,J⟩ J)))
        ·refine AWR.skip (Ws (Wr ?_))
         refine Op11 (LT.bloadN (out := [(iC aF.Graph.Points),(xF encTBar aF.Graph.Bars),(xF encTPlace aF.Places)]) Q ag68 (infS inf68) sz68 (by exact Q) (by exact Q)) Q Q Q Q (Ob' fun r30 hr30 => (AOR.step (@LT.callF Try.prog _ _ 70 _ _ [(.agg [(iC aF.Graph.Points),(xF encTBar aF.Graph.Bars),(xF encTPlace aF.Places)])] _ _ [] _ _ _ _ ((show Fw.Fn Try.prog 70 [(.agg [(iC aF.Graph.Points),(xF encTBar aF.Graph.Bars),(xF encTPlace aF.Places)])] [] (Ag  [(iC r30.Graph.Points),(lo 44 r30.Graph.Bars.length),(lo 45 r30.Places.length)]) [(44,(pR 62 encTBar r30.Graph.Bars)),(45,(pR 94 encTPlace r30.Places))] [] [44,45] from Fw.Fn.ren [(0,44),(1,45)] (w_laws_toFramework aF r30 hr30) Q)) Q cb70 (.cons (.agg (.cons (.same Q) (.cons (.same Q) (.cons (.same Q) .nil)))) .nil) Q Q J) z2 J Q Q (Ob' fun r31 hr31 => (AOR.step (@LT.callF Try.prog _ _ 71 _ _ [(.agg [(iC r30.Graph.Points),(lo 44 r30.Graph.Bars.length),(lo 45 r30.Places.length)])] _ _ [(44,(pR 62 encTBar r30.Graph.Bars)),(45,(pR 94 encTPlace r30.Places))] _ _ _ _ ((show Fw.Fn Try.prog 71 [(.agg [(iC r30.Graph.Points),(xF encTBar r30.Graph.Bars),(xF encTPlace r30.Places)])] [] (.tup [(.c (lo 47 r31.1.length)),(.c (bC r31.2))]) [(47,(pR 3 encInt r31.1))] [] [47] from Fw.Fn.ren [(0,47)] (w_impl_SpecialStress r30 r31 hr31) Q)) Q cb71 (.cons (.agg (.cons (.same Q) (.cons (.tloc Q Q) (.cons (.tloc Q Q) .nil)))) .nil) Q Q J) z2 z2 Q Q (mv (.tup [(.c (lo 47 r31.1.length)),(.c (bC r31.2))]) Q Q Q Q (Op10 (LT.extract (v := (.c (lo 47 r31.1.length))) Q (by exact Q)) Q Q Q (Op10 (LT.extract (v := (.c (bC r31.2))) Q (by exact Q)) Q Q Q (asg (Cc (lo 47 r31.1.length)) Q Q Q Q (asg (Bv r31.2) Q Q Q Q (On (Ws (Ws ?_))))))))))))
         refine AWR.joinK (fun j34 => ([(7,(Cc (lo 33 r25.2.length))),(10,(Iv r25.1)),(87,(Bv j34))],[(33,(pR 3 encInt r25.2))])) ?_ (fun j34 _ => ?_)
         ·refine en [(4,(Cc (lo 27 r4.1.length))),(5,(Bv r4.2)),(7,(Cc (lo 33 r6.1.length))),(10,(Iv r25.1)),(12,(Cc (lo 47 r31.1.length))),(13,(Bv r31.2))] [(27,(pR 3 encInt r4.1)),(33,(pR 3 encInt r25.2)),(47,(pR 3 encInt r31.1))] z6 z3 (Wr (mv (Cc (lo 47 r31.1.length)) Q Q Q Q (mv (Cc (lo 27 r4.1.length)) Q Q Q Q (Ob' fun r35 hr35 => (AOR.pure (@LT.callF Try.prog _ _ 63 _ _ [(.c (lo 47 r31.1.length)),(.c (lo 27 r4.1.length))] _ _ [(47,(pR 3 encInt r31.1)),(27,(pR 3 encInt r4.1))] _ _ _ _ (w_laws_eqIntS r31.1 r4.1 r35 hr35) Q cb63 (.cons (.c (.tloc Q Q)) (.cons (.c (.tloc Q Q)) .nil)) Q Q J) z3 z2 Q Q (Op10 (LT.not Q) Q Q Q (mv (Bv (!r35)) Q Q Q Q (AOR.split (fun hb36 => ?_) (fun hb36 => ?_)))))))))
          ·refine Ok Q Q Q (by rw [hb36]; rfl) Q (Ok Q Q Q (by rw [hb36]; rfl) Q (Ok Q Q Q (by rw [hb36]; rfl) Q (Op20 (LT.pickT (v := (Bv true)) Q hb36) Q y2 Q Q (On (AWR.bind fun u37 hu37 => (AWR.nil ⟨Q,Ent.of ⟨(congrArg (fun l1 => (some (AV.s (.c (lo 33 l1))) : Option AV)) (same_eq hu37)),Q,Q,J⟩ z1⟩))))))
          ·refine mv (Bv r31.2) Q Q (gH hb36 Q Q) Q (mv (Bv r4.2) Q Q (gH hb36 Q Q) Q (Op20 (LT.neqB Q und4) Q Q (gH hb36 Q Q) Q (Op20 (LT.pickF (v := (Bv (r31.2 != r4.2))) Q hb36) Q Q Q Q (On (AWR.bind fun u38 hu38 => (AWR.nil ⟨Q,Ent.of ⟨(congrArg (fun l1 => (some (AV.s (.c (lo 33 l1))) : Option AV)) (same_eq hu38)),Q,Q,J⟩ z1⟩))))))
         ·refine AWR.cond Q (fun hc39 => ?_) (fun hc39 => ?_)
          ·refine Ws (Wr ?_)
           refine asg (Bv false) Q y2 Q Q (On (AWR.ret (FPost.mk (.inr Q) z1 J Q ⟨PermP.sc,J⟩ J)))
          ·refine AWR.skip (Ws (Wr ?_))
           refine asg (Iv 1) Q y2 Q Q (On (Ws (Wr ?_)))
           refine mv (Cc (lo 33 r25.2.length)) Q Q Q Q (mv (Iv 1) Q Q Q Q (Ob' fun r40 hr40 => (AOR.pure (@LT.callF Try.prog _ _ 67 _ _ [(.c (lo 33 r25.2.length)),(.c (iC 1))] _ _ [(33,(pR 3 encInt r25.2))] _ _ _ _ (w_laws_heldIntS r25.2 1 r40 hr40) Q cb67 (.cons (.c (.tloc Q Q)) (.cons (.c (.same Q)) .nil)) Q Q J) z3 z1 Q Q (asg (Iv r40) Q Q Q Q (On (Ws (Ws (Wr ?_))))))))
           refine mv (Iv r40) Q Q Q Q (Op20 (LT.lss Q) Q y2 Q Q (On (AWR.cond Q (fun hc41 => ?_) (fun hc41 => ?_))))
           ·refine Ws (Wr ?_)
            refine asg (Bv false) Q y2 Q Q (On (AWR.ret (FPost.mk (.inr Q) z1 J Q ⟨PermP.sc,J⟩ J)))
           ·refine AWR.skip (Ws (Ws (Wr ?_)))
            refine mv (Iv r40) Q Q Q Q (mv (Iv r25.1) Q Q Q Q (Op20 (LT.neq Q) Q Q Q Q (On (AWR.cond Q (fun hc42 => ?_) (fun hc42 => ?_)))))
            ·refine Ws (Wr ?_)
             refine asg (Bv false) Q y2 Q Q (On (AWR.ret (FPost.mk (.inr Q) z1 J Q ⟨PermP.sc,J⟩ J)))
            ·refine AWR.skip (Ws (Wr ?_))
             refine asg (Bv true) Q y2 Q Q (On (AWR.ret (FPost.mk (.inr Q) z1 J Q ⟨PermP.sc,J⟩ J)))
end Go.Proofs.Ytghofbijdnenoaa
end
section
set_option linter.unusedVariables false
set_option linter.unusedSimpArgs false
set_option linter.unnecessarySimpa false
namespace Go.Fw
open Go.ChangeShapes Go.WideShapes Go.ChangeAt Go.RowKit
open Go.Proofs.Ytghofbijdnenoaa (Rows.uptoBulk Rows.uptoBulkAll)
abbrev Bof (W : World) : Nat → Prop := fun b => b < W.heap.size
abbrev Rno : Nat → Prop := fun _ => False
abbrev gno : Nat → GS := fun _ => .dead
def Opn {α : Type} (P : Program) (t : TypeId) (s : Nat) (enc : α → List PV) (wt : α → Nat) (ok : α → Prop) : Prop :=
  ∀ (H : Type) (e : TypeId × Value → H) (W : World) (base : Nat) (spare : Nat → Bool) (held : Bool) (fuel : Nat) (cs : List Value) (x : DataW H × List MemPlace), DataW.trod e P W base spare held fuel t cs = some x →
    ∃ a : α, ok a ∧ wt a ≤ Go.Proofs.Ytghofbijdnenoaa.Rows.uptoBulk x.1 ∧ cs.length = s ∧ (enc a).length = s ∧ ∀ (k : Nat) p, (enc a)[k]? = some p → ∃ u, cs[k]? = some u ∧ RPV W Rno (Bof W) p u
def okI (n : Int) : Prop := -9223372036854775808 ≤ n ∧ n ≤ 9223372036854775807
def okL {α : Type} (ok : α → Prop) (xs : List α) : Prop := ∀ x ∈ xs, ok x
def wtI (_ : Int) : Nat := 1
def wtL {α : Type} (wt : α → Nat) (xs : List α) : Nat := (xs.map wt).sum + 1
section
variable {P : Program}
theorem one1 {p q : PV} {cs : List Value} {v : Value} {W : World} (hcs : cs = [v]) (h : RPV W Rno (Bof W) p v) : ∀ (k : Nat) r, [p][k]? = some r → ∃ u, cs[k]? = some u ∧ RPV W Rno (Bof W) r u := fun k r hk => by
  subst hcs
  cases k with
  | zero => simp at hk; subst hk; exact ⟨v, rfl, h⟩
  | succ k => simp at hk
theorem Opn.int {t : TypeId} (ht : P.underlying t = some (.int .i64)) : Opn P t 1 (fun n : Int => [.sc (.int .i64 n)]) wtI okI := fun H e W base spare held fuel cs x h => by
  obtain ⟨n, rfl, rfl, hw⟩ := DataW.trod_int ht h
  refine ⟨n, ?_, by simp [wtI, Go.Proofs.Ytghofbijdnenoaa.Rows.uptoBulk], rfl, rfl, one1 (q := .sc (.int .i64 n)) rfl (.sc rfl)⟩
  simp [Lit.wf, IntKind.min, IntKind.max, IntKind.signed, IntKind.bits] at hw
  exact ⟨by omega, by omega⟩
theorem list_of {α : Type} {p : Nat → α → Prop} : ∀ n : Nat, (∀ i, i < n → ∃ a, p i a) → ∃ xs : List α, xs.length = n ∧ ∀ (i : Nat) a, xs[i]? = some a → p i a
  | 0, _ => ⟨[], rfl, fun i a h => by simp at h⟩
  | n + 1, h => by
    obtain ⟨xs, h1, h2⟩ := list_of n fun i hi => h i (by omega)
    obtain ⟨a, ha⟩ := h n (by omega)
    refine ⟨xs ++ [a], by simp [h1], fun i b hb => ?_⟩
    rw [List.getElem?_append] at hb
    split at hb
    · exact h2 i b hb
    · rename_i hn
      have hi : i - xs.length = 0 := by
        have := (List.getElem?_eq_some_iff.1 hb).1
        simp at this
        omega
      rw [hi] at hb
      simp at hb
      subst hb
      have : i = n := by omega
      subst this
      exact ha
theorem bulk_sum {α : Type} {H : Type} {wt : α → Nat} {D : Nat → DataW H} : ∀ (xs : List α) (k : Nat), (∀ (i : Nat) a, xs[i]? = some a → wt a ≤ Go.Proofs.Ytghofbijdnenoaa.Rows.uptoBulk (D (k + i))) →
    (xs.map wt).sum ≤ Go.Proofs.Ytghofbijdnenoaa.Rows.uptoBulkAll ((List.range' k xs.length).map D)
  | [], _, _ => by simp [Go.Proofs.Ytghofbijdnenoaa.Rows.uptoBulkAll]
  | a :: r, k, h => by
    have h0 := h 0 a rfl
    have ih := bulk_sum r (k + 1) fun i b hb => by
      have := h (i + 1) b (by simpa using hb)
      rwa [show k + 1 + i = k + (i + 1) by omega]
    rw [Nat.add_zero] at h0
    simp only [List.map_cons, List.sum_cons, List.length_cons, List.range'_succ, Go.Proofs.Ytghofbijdnenoaa.Rows.uptoBulkAll]
    omega
theorem cell_lt {w : World} {a : Addr} {v : Value} (h : w.cell? a = some v) : a.block < w.heap.size := by
  unfold World.cell? at h
  cases hb : w.heap[a.block]? with
  | none => rw [hb] at h; simp at h
  | some o => exact (Array.getElem?_eq_some_iff.1 hb).1
theorem Opn.slice {α : Type} {t e : TypeId} {s : Nat} {enc : α → List PV} {wt : α → Nat} {ok : α → Prop} (ht : P.underlying t = some (.slice e)) (hs : P.cellsOf e = s) (hs0 : 0 < s) (he : Opn P e s enc wt ok) :
    Opn P t 1 (fun xs : List α => [.xs false (xs.map enc)]) (wtL wt) (okL ok) := fun H en W base spare held fuel cs x h => by
  rcases Go.Deep.open_slice ht h with ⟨rfl, rfl⟩ | ⟨a, len, cap, m, n, D, Pl, rfl, hb, hl, hm, hmm, rfl, hi⟩
  · refine ⟨[], ?_, ?_, rfl, rfl, one1 (q := .xs false []) rfl .emp⟩
    · intro x hx; cases hx
    · simp [wtL, Go.Proofs.Ytghofbijdnenoaa.Rows.uptoBulk]
  · have hml : len ≤ m := by rw [hmm]; split <;> omega
    obtain ⟨xs, hxl, hx⟩ := list_of (p := fun i (b : α) => ok b ∧ wt b ≤ Go.Proofs.Ytghofbijdnenoaa.Rows.uptoBulk (D i) ∧ (enc b).length = s ∧ ∀ (k : Nat) p, (enc b)[k]? = some p → ∃ u, W.cell? (a.add (i * s + k)) = some u ∧ RPV W Rno (Bof W) p u) len (fun i hil => by
      obtain ⟨cs', hc, htr⟩ := hi i (by omega)
      obtain ⟨b, h1, h2, h3, h4, h5⟩ := he _ _ _ _ _ _ _ _ _ htr
      obtain ⟨_, hcl, hat⟩ := World.cells?_some hc
      refine ⟨b, h1, h2, h4, fun k p hk => ?_⟩
      obtain ⟨u, hu, hr⟩ := h5 k p hk
      refine ⟨u, ?_, hr⟩
      have hks : k < s := by rw [← h4]; exact (List.getElem?_eq_some_iff.1 hk).1
      have := hat k (by rw [hs]; exact hks)
      rw [add_add, hs] at this
      rw [this]
      exact hu)
    refine ⟨xs, fun b hb => ?_, ?_, rfl, rfl, one1 (q := .sc undef) rfl ?_⟩
    · obtain ⟨i, hib⟩ := List.getElem?_of_mem hb
      exact (hx i b hib).1
    · have := bulk_sum (wt := wt) (D := D) xs 0 (fun i b hb => by rw [Nat.zero_add]; exact (hx i b hb).2.1)
      simp only [wtL, Go.Proofs.Ytghofbijdnenoaa.Rows.uptoBulk]
      rw [hxl, ← List.range_eq_range'] at this
      omega
    · cases hxs : xs with
      | nil =>
        have : len = 0 := by rw [← hxl, hxs]; rfl
        subst this
        exact .emp
      | cons b r =>
        rw [← hxs]
        have hget : ∀ (j k : Nat) cs p, (xs.map enc)[j]? = some cs → cs[k]? = some p → ∃ u, W.cell? (a.add (j * s + k)) = some u ∧ RPV W Rno (Bof W) p u := fun j k cs p hj hk => by
          rw [List.getElem?_map] at hj
          cases hjx : xs[j]? with
          | none => rw [hjx] at hj; cases hj
          | some c =>
            rw [hjx] at hj
            injection hj with hj
            subst hj
            exact (hx j c hjx).2.2.2 k p hk
        refine .xs (s := s) (fun j k => (W.cell? (a.add (j * s + k))).getD undef) (by simp [hxl]) ?_ (by simp [hxl]; exact hl) (fun cs hcs => ?_) (fun j k cs p hj hk => ?_) (fun j k cs p hj hk => ?_)
        · have h0 := hx 0 b (by rw [hxs]; rfl)
          have hlt : 0 < (enc b).length := by rw [h0.2.2.1]; exact hs0
          obtain ⟨u, hu, _⟩ := h0.2.2.2 0 (enc b)[0] (List.getElem?_eq_getElem hlt)
          have := cell_lt hu
          rw [add_block] at this
          exact this
        · obtain ⟨c, hc, rfl⟩ := List.mem_map.1 hcs
          obtain ⟨i, hic⟩ := List.getElem?_of_mem hc
          exact (hx i c hic).2.2.1
        · obtain ⟨u, hu, _⟩ := hget j k cs p hj hk
          rw [hu]; rfl
        · obtain ⟨u, hu, hr⟩ := hget j k cs p hj hk
          rw [hu]
          exact hr
def st2 (P : Program) (t : TypeId) : Option (Nat × Nat × Nat × Nat) := match P.underlying t with
  | some (.struct fs) => match fs.toList with
    | [f0, f1] => some (f0.type, f0.offset, f1.type, f1.offset)
    | _ => none
  | _ => none
theorem Opn.struct2 {α β γ : Type} {t t1 t2 : TypeId} {s1 s2 : Nat} {enc1 : α → List PV} {enc2 : β → List PV} {enc : γ → List PV} {wt1 : α → Nat} {wt2 : β → Nat} {wt : γ → Nat} {ok1 : α → Prop} {ok2 : β → Prop} {ok : γ → Prop} (mk : α → β → γ)
    (ht : st2 P t = some (t1, 0, t2, s1)) (hc : P.cellsOf t = s1 + s2) (hc1 : P.cellsOf t1 = s1) (hc2 : P.cellsOf t2 = s2) (h1 : Opn P t1 s1 enc1 wt1 ok1) (h2 : Opn P t2 s2 enc2 wt2 ok2)
    (he : ∀ a b, enc (mk a b) = enc1 a ++ enc2 b) (hw : ∀ a b, wt (mk a b) = wt1 a + wt2 b) (ho : ∀ a b, ok1 a → ok2 b → ok (mk a b)) : Opn P t (s1 + s2) enc wt ok := fun H e W base spare held fuel cs x h => by
  unfold st2 at ht
  split at ht
  · rename_i fs hfs
    split at ht
    · rename_i f0 f1 hfl
      obtain ⟨l⟩ := fs
      simp only at hfl
      subst hfl
      simp only [Option.some.injEq, Prod.mk.injEq] at ht
      obtain ⟨rfl, ho0, rfl, ho1⟩ := ht
      obtain ⟨y0, y1, n, rfl, hl, h3, h4⟩ := Go.ChangeShapes.trod_struct2 hfs h
      rw [ho0, hc1] at h3
      rw [ho1, hc2] at h4
      obtain ⟨a, a1, a2, a3, a4, a5⟩ := h1 _ _ _ _ _ _ _ _ _ h3
      obtain ⟨b, b1, b2, b3, b4, b5⟩ := h2 _ _ _ _ _ _ _ _ _ h4
      refine ⟨mk a b, ho a b a1 b1, ?_, by rw [hl, hc], by rw [he, List.length_append, a4, b4], fun k p hk => ?_⟩
      · rw [hw]
        simp only [Go.Proofs.Ytghofbijdnenoaa.Rows.uptoBulk, Go.Proofs.Ytghofbijdnenoaa.Rows.uptoBulkAll]
        omega
      · rw [he, List.getElem?_append] at hk
        split at hk
        · rename_i hlt
          rw [a4] at hlt
          obtain ⟨u, hu, hr⟩ := a5 k p hk
          refine ⟨u, ?_, hr⟩
          rw [List.getElem?_take, if_pos hlt, List.drop_zero] at hu
          exact hu
        · rename_i hlt
          rw [a4] at hlt hk
          obtain ⟨u, hu, hr⟩ := b5 _ p hk
          refine ⟨u, ?_, hr⟩
          rw [List.getElem?_take] at hu
          split at hu
          · rw [List.getElem?_drop] at hu
            rwa [show s1 + (k - s1) = k by omega] at hu
          · cases hu
    · cases ht
  · cases ht
theorem len_wtL {α : Type} {wt : α → Nat} (h : ∀ x, 1 ≤ wt x) (xs : List α) : xs.length ≤ wtL wt xs := by
  unfold wtL
  induction xs with
  | nil => simp
  | cons x r ih =>
    have := h x
    simp only [List.map_cons, List.sum_cons, List.length_cons] at ih ⊢
    omega
theorem Opn.argN {α : Type} {t : TypeId} {s : Nat} {enc : α → List PV} {wt : α → Nat} {ok : α → Prop} (h : Opn P t s enc wt ok) {H : Type} {e : TypeId × Value → H} {W : World} {sp : Nat → Bool} {v : Value} {d : DataW H} {ps : List MemPlace}
    (hv : ∃ cs : Array Value, v = .agg cs) (hd : DataW.Trod e P W 0 sp true t v d ps) : ∃ a : α, ok a ∧ wt a ≤ Go.Proofs.Ytghofbijdnenoaa.Rows.uptoBulk d ∧ RS P W Rno (Bof W) gno (.agg ((enc a).map .pv)) v := by
  obtain ⟨cs, rfl⟩ := hv
  obtain ⟨fuel, hf⟩ := hd
  obtain ⟨a, h1, h2, h3, h4, h5⟩ := h _ _ _ _ _ _ _ _ _ hf
  refine ⟨a, h1, h2, cs.toList, by simp, by rw [List.length_map, h4]; simpa [Value.cells] using h3, fun k x hk => ?_⟩
  rw [List.getElem?_map] at hk
  cases hp : (enc a)[k]? with
  | none => rw [hp] at hk; cases hk
  | some p =>
    rw [hp] at hk
    injection hk with hk
    subst hk
    obtain ⟨u, hu, hr⟩ := h5 k p hp
    exact ⟨u, by simpa [Value.cells] using hu, hr.oneCell, hr⟩
def ArgR (P : Program) (W : World) : List SV → List Value → Prop
  | [], [] => True
  | x :: xs, v :: vs => RS P W Rno (Bof W) gno x v ∧ ArgR P W xs vs
  | _, _ => False
theorem ArgR.spec {W : World} : ∀ {xs : List SV} {vs : List Value}, ArgR P W xs vs → vs.length = xs.length ∧ ∀ (k : Nat) x, xs[k]? = some x → ∃ u, vs[k]? = some u ∧ RS P W Rno (Bof W) gno x u
  | [], [], _ => ⟨rfl, fun k x hk => by simp at hk⟩
  | [], _ :: _, h => h.elim
  | _ :: _, [], h => h.elim
  | x :: xs, v :: vs, h => by
    obtain ⟨h1, h2⟩ := ArgR.spec h.2
    refine ⟨by simp [h1], fun k y hk => ?_⟩
    cases k with
    | zero => simp at hk; subst hk; exact ⟨v, rfl, h.1⟩
    | succ k => exact h2 k y (by simpa using hk)
theorem Fn.called {f : FuncId} {xs : List SV} (hf : Fw.Fn P f xs [] (.s (.c (bC true))) [] [] []) {W : World} {args : Array Value} (ha : ArgR P W xs args.toList) : Calls P f args W fun e W' => e = .returned (.bool true) ∧ Below W.heap.size W W' := by
  obtain ⟨h1, h2⟩ := ha.spec
  have hw : WF Rno (Bof W) gno W := ⟨fun b hb => hb.elim, fun b hb => hb, fun n b hg => hg.elim, fun n m b hg => hg.elim, fun n j k b h => (by cases h)⟩
  have := hf Rno (Bof W) gno W args.toList hw h1 h2 (fun p hp => by cases hp)
  rw [show args.toList.toArray = args from by simp] at this
  refine this.mono fun e W' hp => ?_
  obtain ⟨u, R', B', g', rfl, had, _, hv, _⟩ := hp
  have hu : u = .bool true := by
    obtain ⟨_, h3⟩ := hv
    cases h3
    rfl
  subst hu
  exact ⟨rfl, had.os, had.tape, had.output, had.size, fun k hk => had.heap k hk fun n hn => by cases hn⟩
theorem trodAll_stays {H : Type} {e : TypeId × Value → H} (hl : laidOutB P = true) {W W' : World} {sp : Nat → Bool} (hb : Below W.heap.size W W') : ∀ {ts : List TypeId} {vs : List Value} {ds : List (DataW H)} {ps : List MemPlace}, (ts.all fun t => P.readableRec t && decide (t < P.types.size)) = true →
    DataW.TrodAll e P W 0 (fun _ => true) true ts vs ds ps → (∀ p ∈ ps, p.block < W.heap.size) → (∀ p ∈ ps, sp p.block = true) → DataW.TrodAll e P W' 0 sp true ts vs ds ps
  | [], [], [], _, _, h, _, _ => h
  | t :: ts, v :: vs, d :: ds, ps, hr, h, hlt, hs => by
    obtain ⟨p, q, h1, h2, rfl⟩ := h
    simp only [List.all_cons, Bool.and_eq_true, decide_eq_true_eq] at hr
    exact ⟨p, q, Go.WideElems.Trod_stays hl hr.1.1 hr.1.2 h1 (fun x hx => hb.same (hlt x (List.mem_append_left _ hx))) (fun x hx => hs x (List.mem_append_left _ hx)), trodAll_stays hl hb hr.2 h2 (fun x hx => hlt x (List.mem_append_right _ hx)) (fun x hx => hs x (List.mem_append_right _ hx)), rfl⟩
  | [], [], _ :: _, _, _, h, _, _ => h.elim
  | [], _ :: _, _, _, _, h, _, _ => h.elim
  | _ :: _, [], _, _, _, h, _, _ => h.elim
  | _ :: _, _ :: _, [], _, _, h, _, _ => h.elim
theorem post_of_fw {H : Type} {e : TypeId × Value → H} {f : Func} {s : ChangeSpec} {apart handsOn again : Bool} {fresh : Bool} {W W' : World} {args : Array Value} {ds gs : List (DataW H)} {before : List MemPlace} {tb : TypeId} (hW : DataW.Whole e P f.params.toList s.vars apart W args.toList ds gs before) (hl : laidOutB P = true)
    (hr : (f.params.toList.all fun t => P.readableRec t && decide (t < P.types.size)) = true) (hb : Below W.heap.size W W') (hv : s.vars = []) (hf : s.fn H ds = { results := [.lit (.bool true)], args := ds }) (hrt : f.resultTypes = #[tb]) (htb : P.underlying tb = some .bool) :
    s.post e P f apart fresh handsOn again W args (.bool true) W' := by
  have hlt : ∀ p ∈ before, p.block < W.heap.size := fun p hp => hW.lt p hp
  have hW0 := hW
  obtain ⟨p, q, hA, hV, hpq, hz, hn⟩ := hW
  rw [hv] at hV
  obtain ⟨rfl, rfl⟩ : gs = [] ∧ q = [] := by
    cases gs with
    | nil => exact ⟨rfl, hV⟩
    | cons _ _ => exact hV.elim
  rw [List.append_nil] at hpq
  subst hpq
  have hargs : ∀ sp : Nat → Bool, (∀ p ∈ before, sp p.block = true) → DataW.TrodAll e P W' 0 sp true f.params.toList args.toList ds before := fun sp hs => trodAll_stays hl hb hr hA hlt hs
  have hres : ∀ (b : Nat) (sp : Nat → Bool) (hd : Bool), DataW.TrodAll e P W' b sp hd f.resultTypes.toList ((Value.bool true).resultList f.resultTypes.size) [.lit (.bool true)] [] := fun b sp hd => by
    rw [hrt]
    exact ⟨[], [], shut_bool htb _, rfl, rfl⟩
  have hfd : s.fn H (ds ++ []) = { results := [.lit (.bool true)], args := ds } := by rw [List.append_nil]; exact hf
  have hold : ∀ p ∈ before, (fun b => decide (b < W.heap.size)) p.block = true := fun p hp => by simpa using hlt p hp
  have hvs : ∀ sp : Nat → Bool, DataW.TrodVars e P W' sp s.vars [] [] := fun sp => by rw [hv]; rfl
  refine ⟨ds, [], before, [], before, [], hW0, ?_, ?_, ?_, World.keptBut_mono (fun p hp => ⟨hp, ?_⟩) (hb.frame (· ∈ before)), fun _ => ?_⟩
  · rw [hfd]; exact hres _ _ _
  · rw [hfd]; exact hargs _ hold
  · rw [hfd]; exact hvs _
  · exact Or.inr (Or.inl hp)
  · refine ⟨ok_one hrt rfl (okWide_bool_mk htb _), ?_⟩
    · refine ⟨_, _, ([] ++ before) ++ [], ⟨[] ++ before, [], trodAll_append (hargs _ (fun _ _ => rfl)) (hres _ _ _), hvs _, rfl, ?_, ?_⟩, ?_⟩
      · intro b off hp
        have hin : MemPlace.cell b off ∈ before := by simpa using hp
        rw [hb.frozen (hlt _ hin)]
        exact hz b off hin
      · intro ha
        simpa using hn ha
      · intro p hp _
        simpa using hp
end
end Go.Fw
end
section
set_option linter.unusedVariables false
set_option linter.unusedSimpArgs false
set_option linter.unnecessarySimpa false
open Go Go.Fw
namespace Go.Proofs.Ytghofbijdnenoaa
theorem oC162 : Try.prog.cellsOf 162 = 2 := by kernel_rfl
theorem oC170 : Try.prog.cellsOf 170 = 2 := by kernel_rfl
theorem oC3 : Try.prog.cellsOf 3 = 1 := by kernel_rfl
theorem oC48 : Try.prog.cellsOf 48 = 1 := by kernel_rfl
theorem oC50 : Try.prog.cellsOf 50 = 2 := by kernel_rfl
theorem oC66 : Try.prog.cellsOf 66 = 1 := by kernel_rfl
theorem oC68 : Try.prog.cellsOf 68 = 3 := by kernel_rfl
theorem oS162 : st2 Try.prog 162 = some (3, 0, 3, 1) := by kernel_rfl
theorem oS170 : st2 Try.prog 170 = some (3, 0, 3, 1) := by kernel_rfl
theorem oS50 : st2 Try.prog 50 = some (3, 0, 48, 1) := by kernel_rfl
theorem oS68 : st2 Try.prog 68 = some (50, 0, 66, 2) := by kernel_rfl
theorem oU3 : Try.prog.underlying 3 = some (.int .i64) := by kernel_rfl
theorem oU48 : Try.prog.underlying 48 = some (.slice 162) := by kernel_rfl
theorem oU66 : Try.prog.underlying 66 = some (.slice 170) := by kernel_rfl
theorem oX68 : Try.prog.underlying 68 = some (.struct (Try.prog.fieldsOf 68)) := by kernel_rfl
def e_TBar (a : TBar) : List PV := [.sc (.int .i64 a.A), .sc (.int .i64 a.B)]
def wt_TBar (a : TBar) : Nat := wtI a.A + wtI a.B
def ok_TBar (a : TBar) : Prop := okI a.A ∧ okI a.B
theorem opn_162 : Opn Try.prog 162 2 e_TBar wt_TBar ok_TBar := Opn.struct2 (enc1 := (fun n : Int => [.sc (.int .i64 n)])) (enc2 := (fun n : Int => [.sc (.int .i64 n)])) TBar.mk oS162 oC162 oC3 oC3 (Opn.int oU3) (Opn.int oU3) (fun _ _ => rfl) (fun _ _ => rfl) (fun _ _ h1 h2 => ⟨h1, h2⟩)
def e_TGraph (a : TGraph) : List PV := [.sc (.int .i64 a.Points), .xs false (a.Bars.map encTBar)]
def wt_TGraph (a : TGraph) : Nat := wtI a.Points + (wtL wt_TBar) a.Bars
def ok_TGraph (a : TGraph) : Prop := okI a.Points ∧ (okL ok_TBar) a.Bars
theorem opn_50 : Opn Try.prog 50 2 e_TGraph wt_TGraph ok_TGraph := Opn.struct2 (enc1 := (fun n : Int => [.sc (.int .i64 n)])) (enc2 := (fun xs => [.xs false (xs.map e_TBar)])) TGraph.mk oS50 oC50 oC3 oC48 (Opn.int oU3) (Opn.slice oU48 oC162 (by decide) opn_162) (fun _ _ => rfl) (fun _ _ => rfl) (fun _ _ h1 h2 => ⟨h1, h2⟩)
def e_TPlace (a : TPlace) : List PV := [.sc (.int .i64 a.X), .sc (.int .i64 a.Y)]
def wt_TPlace (a : TPlace) : Nat := wtI a.X + wtI a.Y
def ok_TPlace (a : TPlace) : Prop := okI a.X ∧ okI a.Y
theorem opn_170 : Opn Try.prog 170 2 e_TPlace wt_TPlace ok_TPlace := Opn.struct2 (enc1 := (fun n : Int => [.sc (.int .i64 n)])) (enc2 := (fun n : Int => [.sc (.int .i64 n)])) TPlace.mk oS170 oC170 oC3 oC3 (Opn.int oU3) (Opn.int oU3) (fun _ _ => rfl) (fun _ _ => rfl) (fun _ _ h1 h2 => ⟨h1, h2⟩)
def e_TFramework (a : TFramework) : List PV := [.sc (.int .i64 a.Graph.Points), .xs false (a.Graph.Bars.map encTBar), .xs false (a.Places.map encTPlace)]
def wt_TFramework (a : TFramework) : Nat := wt_TGraph a.Graph + (wtL wt_TPlace) a.Places
def ok_TFramework (a : TFramework) : Prop := ok_TGraph a.Graph ∧ (okL ok_TPlace) a.Places
theorem opn_68 : Opn Try.prog 68 3 e_TFramework wt_TFramework ok_TFramework := Opn.struct2 (enc1 := e_TGraph) (enc2 := (fun xs => [.xs false (xs.map e_TPlace)])) TFramework.mk oS68 oC68 oC50 oC66 opn_50 (Opn.slice oU66 oC170 (by decide) opn_170) (fun _ _ => rfl) (fun _ _ => rfl) (fun _ _ h1 h2 => ⟨h1, h2⟩)
def wt_TTensegrity (a : TTensegrity) : Nat := wt_TFramework a.Framework + (wtL wtI) a.Kinds
end Go.Proofs.Ytghofbijdnenoaa
end
