/- Parts of a proof that a law of the program holds: what the program computes, and why that is right. -/
import Derived.Test.YtghofbijdnenoaaRows
import Derived.ProofKit
import Derived.OpenShut
import Derived.JoinedCond
import Derived.Carry
import Derived.Deep.Slices
import Derived.ChangeSame
import Derived.Test.YtghofbijdnenoaaZFnRigidity5
section
set_option linter.unusedVariables false
set_option linter.unusedSimpArgs false
set_option linter.unnecessarySimpa false
set_option maxRecDepth 100000
set_option maxHeartbeats 8000000
open Go Go.Fw
namespace Go.Proofs.Ytghofbijdnenoaa
theorem w_spec_RankOf (g : TGraph) (k : Int) (l : Int) : ∀ t,m_spec_RankOf g k l = some t → Fw.Fn Try.prog 139 [(.agg [(iC g.Points),(xF encTBar g.Bars)]),(.c (iC k)),(.c (iC l))] [] (.s (.c (iC t))) [] [] [] := by
 refine Fw.Fn.of (P := Try.prog) (X := []) (pn := []) (rs := (fun (t : Int) => [(.c (iC t))])) (dfs := (fun (t : Int) => [])) Try.func139 Q Try.ntmps139 (K Q) Q ?_
 intro w0 U0 R0 g0
 unfold m_spec_RankOf
 refine Ws (Wr ?_)
 refine Os10 (LT.box (n := 21) (v := (.agg [(iC g.Points),(xF encTBar g.Bars)])) Q sz26 (by exact Q)) Q Q Q (asg (Iv 0) Q y2 Q Q (On (Ws (Wr ?_))))
 refine Op11 (LT.bloadN (out := [(iC g.Points),(xF encTBar g.Bars)]) Q ag26 (infS inf26) sz26 (by exact Q) (by exact Q)) Q Q Q Q (mv (Iv k) Q Q Q Q (mv (Iv l) Q Q Q Q (Ob' fun r1 hr1 => (AOR.step (@LT.callF Try.prog _ _ 216 _ _ [(.agg [(iC g.Points),(xF encTBar g.Bars)]),(.c (iC k)),(.c (iC l))] _ _ [] _ _ _ _ ((show Fw.Fn Try.prog 216 [(.agg [(iC g.Points),(xF encTBar g.Bars)]),(.c (iC k)),(.c (iC l))] [] (.tup [(.agg [(lo 23 r1.1.Free.length),(lo 24 r1.1.Tails.length),(lo 25 r1.1.Placed.length)]),(.c (bC r1.2))]) [(23,(pR 3 encInt r1.1.Free)),(24,(pR 3 encInt r1.1.Tails)),(25,(pR 3 encInt r1.1.Placed))] [] [23,24,25] from Fw.Fn.ren [(0,23),(1,24),(2,25)] (w_spec_RunPebbles g k l r1 hr1) Q)) Q cb216 (.cons (.agg (.cons (.same Q) (.cons (.same Q) .nil))) (.cons (.c (.same Q)) (.cons (.c (.same Q)) .nil))) Q Q J) z4 J Q Q (mv (.tup [(.agg [(lo 23 r1.1.Free.length),(lo 24 r1.1.Tails.length),(lo 25 r1.1.Placed.length)]),(.c (bC r1.2))]) Q Q Q Q (Op10 (LT.extract (v := (.agg [(lo 23 r1.1.Free.length),(lo 24 r1.1.Tails.length),(lo 25 r1.1.Placed.length)])) Q (by exact Q)) Q Q Q (Op10 (LT.extract (v := (.c (bC r1.2))) Q (by exact Q)) Q Q Q (Os00 (LT.alloc (n := 26) (cells := [(sC nilV),(sC nilV),(sC nilV)]) Q ti165 Q Q Q) Q Q (Os21 (LT.bstore (v := (.agg [(lo 23 r1.1.Free.length),(lo 24 r1.1.Tails.length),(lo 25 r1.1.Placed.length)])) (out := [(lo 23 r1.1.Free.length),(lo 24 r1.1.Tails.length),(lo 25 r1.1.Placed.length)]) Q Q (infS inf165) sz165 (by exact Q) (by exact K Q) (by exact Q)) Q Q Q Q Q (asg (Bv r1.2) Q Q Q Q (On (Ws (Ws ?_)))))))))))))
 refine en [(7,(Cc (.pl 26 0))),(8,(Bv r1.2))] [(23,(pR 3 encInt r1.1.Free)),(24,(pR 3 encInt r1.1.Tails)),(25,(pR 3 encInt r1.1.Placed)),(26,(.row 165 [[(lo 23 r1.1.Free.length),(lo 24 r1.1.Tails.length),(lo 25 r1.1.Placed.length)]]))] z2 z4 (Wr (mv (Bv r1.2) Q Q Q Q (Op10 (LT.not Q) Q Q Q (On (AWR.cond Q (fun hc2 => ?_) (fun hc2 => ?_))))))
 ·refine Ws (Wr ?_)
  refine asg (Iv (-1)) Q y2 Q Q (On (AWR.ret (FPost.mk (.inr Q) z1 J Q ⟨PermP.sc,J⟩ J)))
 ·refine AWR.skip (Ws (Wr ?_))
  refine Op10 (LT.fieldPl Q fo165_2) Q Q Q (Op11 (LT.bload1 (c := (lo 25 r1.1.Placed.length)) Q ag37 (by exact Q)) Q Q Q Q (Op10 (LT.lenLoc Q und37) Q Q Q (asg (Iv (r1.1.Placed.length : Int)) Q Q Q Q (On (AWR.ret (FPost.mk (.inr Q) z1 J Q ⟨PermP.sc,J⟩ J))))))
theorem w_spec_IsGenericHere (f : TFramework) : ∀ t,m_spec_IsGenericHere f = some t → Fw.Fn Try.prog 51 [(.agg [(iC f.Graph.Points),(xF encTBar f.Graph.Bars),(xF encTPlace f.Places)])] [] (.s (.c (bC t))) [] [] [] := by
 refine Fw.Fn.of (P := Try.prog) (X := []) (pn := []) (rs := (fun (t : Bool) => [(.c (bC t))])) (dfs := (fun (t : Bool) => [])) Try.func51 Q Try.ntmps51 (K Q) Q ?_
 intro w0 U0 R0 g0
 unfold m_spec_IsGenericHere
 refine Ws (Wr ?_)
 refine Os10 (LT.box (n := 21) (v := (.agg [(iC f.Graph.Points),(xF encTBar f.Graph.Bars),(xF encTPlace f.Places)])) Q sz29 (by exact Q)) Q Q Q (asg (Bv false) Q y2 Q Q (On (Ws ?_)))
 refine AWR.joinK (fun j5 => ([(2,(Bv j5))],[])) ?_ (fun j5 _ => ?_)
 ·refine AWR.draw mixed (Dp11 (LT.bloadN (out := [(iC f.Graph.Points),(xF encTBar f.Graph.Bars),(xF encTPlace f.Places)]) Q ag29 (infS inf29) sz29 (by exact Q) (by exact Q)) Q Q Q Q (AOD.bind fun r6 hr6 => (AOD.pure (@LT.callF Try.prog _ _ 15 _ _ [(.agg [(iC f.Graph.Points),(xF encTBar f.Graph.Bars),(xF encTPlace f.Places)])] _ _ [] _ _ _ _ (w_spec_IsFramework f r6 hr6) Q cb15 (.cons (.agg (.cons (.same Q) (.cons (.same Q) (.cons (.same Q) .nil)))) .nil) Q Q J) z2 J Q Q (Dp10 (LT.move (v := (Bv r6)) Q) Q Q Q (AOD.split (fun hb7 => ?_) (fun hb7 => ?_))))))
  ·refine Dp11 (LT.bloadN (out := [(iC f.Graph.Points),(xF encTBar f.Graph.Bars),(xF encTPlace f.Places)]) Q ag29 (infS inf29) sz29 (by exact Q) (by exact Q)) Q Q (gH hb7 Q Q) Q (AOD.bind fun r8 hr8 => (AOD.pure (@LT.callF Try.prog _ _ 58 _ _ [(.agg [(iC f.Graph.Points),(xF encTBar f.Graph.Bars),(xF encTPlace f.Places)])] _ _ [] _ _ _ _ (w_spec_FrameworkRank f r8 hr8) Q cb58 (.cons (.agg (.cons (.same Q) (.cons (.same Q) (.cons (.same Q) .nil)))) .nil) Q Q J) z2 J (gH hb7 Q Q) Q (Dp10 (LT.fieldPl Q fo29_0) Q (gH hb7 Q Q) Q (Dp11 (LT.bloadN (out := [(iC f.Graph.Points),(xF encTBar f.Graph.Bars)]) Q ag26 (infS inf26) sz26 (by exact Q) (by exact Q)) Q Q (gH hb7 Q Q) Q (AOD.bind fun r9 hr9 => (AOD.pure (@LT.callF Try.prog _ _ 139 _ _ [(.agg [(iC f.Graph.Points),(xF encTBar f.Graph.Bars)]),(.c (iC 2)),(.c (iC 3))] _ _ [] _ _ _ _ (w_spec_RankOf f.Graph 2 3 r9 hr9) Q cb139 (.cons (.agg (.cons (.same Q) (.cons (.same Q) .nil))) (.cons (.c (.same Q)) (.cons (.c (.same Q)) .nil))) Q Q J) ⟨Q,Q,y2,y2,J⟩ J (gH hb7 Q Q) Q (Dp20 (LT.eql Q) Q Q (gH hb7 Q Q) Q (Dp20 (LT.pickT (v := (Bv (r8 == r9))) Q hb7) Q Q Q Q (Dp10 (LT.assign (v := (Bv (r8 == r9))) Q) Q Q Q (AOD.nil (by kernel_rfl) (AWR.nil ⟨Q,Ent.of z1 J⟩)))))))))))
  ·refine AOD.skip (gH hb7 Q Q) Q (AOD.skip (gH hb7 Q Q) Q (AOD.skip (gH hb7 Q Q) Q (AOD.skip (gH hb7 Q Q) Q (AOD.skip (gH hb7 Q Q) Q (AOD.skip (gH hb7 Q Q) Q (Dp20 (LT.pickF (v := (Bv false)) Q hb7) Q y2 Q Q (Dp10 (LT.assign (v := (Bv false)) Q) Q Q Q (AOD.nil (by kernel_rfl) (AWR.nil ⟨Q,Ent.of z1 J⟩)))))))))
 ·refine AWR.ret (FPost.mk (.inr Q) z1 J Q ⟨PermP.sc,J⟩ J)
theorem w_impl_RankOf (g : TGraph) (k : Int) (l : Int) : ∀ t,m_impl_RankOf g k l = some t → Fw.Fn Try.prog 138 [(.agg [(iC g.Points),(xF encTBar g.Bars)]),(.c (iC k)),(.c (iC l))] [] (.s (.c (iC t))) [] [] [] := by
 refine Fw.Fn.of (P := Try.prog) (X := []) (pn := []) (rs := (fun (t : Int) => [(.c (iC t))])) (dfs := (fun (t : Int) => [])) Try.func138 Q Try.ntmps138 (K Q) Q ?_
 intro w0 U0 R0 g0
 unfold m_impl_RankOf
 refine Ws (Wr ?_)
 refine Os10 (LT.box (n := 21) (v := (.agg [(iC g.Points),(xF encTBar g.Bars)])) Q sz26 (by exact Q)) Q Q Q (asg (Iv 0) Q y2 Q Q (On (Ws (Wr ?_))))
 refine Op11 (LT.bloadN (out := [(iC g.Points),(xF encTBar g.Bars)]) Q ag26 (infS inf26) sz26 (by exact Q) (by exact Q)) Q Q Q Q (mv (Iv k) Q Q Q Q (mv (Iv l) Q Q Q Q (Ob' fun r1 hr1 => (AOR.step (@LT.callF Try.prog _ _ 215 _ _ [(.agg [(iC g.Points),(xF encTBar g.Bars)]),(.c (iC k)),(.c (iC l))] _ _ [] _ _ _ _ ((show Fw.Fn Try.prog 215 [(.agg [(iC g.Points),(xF encTBar g.Bars)]),(.c (iC k)),(.c (iC l))] [] (.tup [(.agg [(lo 23 r1.1.Free.length),(lo 24 r1.1.Tails.length),(lo 25 r1.1.Placed.length)]),(.c (bC r1.2))]) [(23,(pR 3 encInt r1.1.Free)),(24,(pR 3 encInt r1.1.Tails)),(25,(pR 3 encInt r1.1.Placed))] [] [23,24,25] from Fw.Fn.ren [(0,23),(1,24),(2,25)] (w_impl_RunPebbles g k l r1 hr1) Q)) Q cb215 (.cons (.agg (.cons (.same Q) (.cons (.same Q) .nil))) (.cons (.c (.same Q)) (.cons (.c (.same Q)) .nil))) Q Q J) z4 J Q Q (mv (.tup [(.agg [(lo 23 r1.1.Free.length),(lo 24 r1.1.Tails.length),(lo 25 r1.1.Placed.length)]),(.c (bC r1.2))]) Q Q Q Q (Op10 (LT.extract (v := (.agg [(lo 23 r1.1.Free.length),(lo 24 r1.1.Tails.length),(lo 25 r1.1.Placed.length)])) Q (by exact Q)) Q Q Q (Op10 (LT.extract (v := (.c (bC r1.2))) Q (by exact Q)) Q Q Q (Os00 (LT.alloc (n := 26) (cells := [(sC nilV),(sC nilV),(sC nilV)]) Q ti165 Q Q Q) Q Q (Os21 (LT.bstore (v := (.agg [(lo 23 r1.1.Free.length),(lo 24 r1.1.Tails.length),(lo 25 r1.1.Placed.length)])) (out := [(lo 23 r1.1.Free.length),(lo 24 r1.1.Tails.length),(lo 25 r1.1.Placed.length)]) Q Q (infS inf165) sz165 (by exact Q) (by exact K Q) (by exact Q)) Q Q Q Q Q (asg (Bv r1.2) Q Q Q Q (On (Ws (Ws ?_)))))))))))))
 refine en [(7,(Cc (.pl 26 0))),(8,(Bv r1.2))] [(23,(pR 3 encInt r1.1.Free)),(24,(pR 3 encInt r1.1.Tails)),(25,(pR 3 encInt r1.1.Placed)),(26,(.row 165 [[(lo 23 r1.1.Free.length),(lo 24 r1.1.Tails.length),(lo 25 r1.1.Placed.length)]]))] z2 z4 (Wr (mv (Bv r1.2) Q Q Q Q (Op10 (LT.not Q) Q Q Q (On (AWR.cond Q (fun hc2 => ?_) (fun hc2 => ?_))))))
 ·refine Ws (Wr ?_)
  refine asg (Iv (-1)) Q y2 Q Q (On (AWR.ret (FPost.mk (.inr Q) z1 J Q ⟨PermP.sc,J⟩ J)))
 ·refine AWR.skip (Ws (Wr ?_))
  refine Op10 (LT.fieldPl Q fo165_2) Q Q Q (Op11 (LT.bload1 (c := (lo 25 r1.1.Placed.length)) Q ag37 (by exact Q)) Q Q Q Q (Op10 (LT.lenLoc Q und37) Q Q Q (asg (Iv (r1.1.Placed.length : Int)) Q Q Q Q (On (AWR.ret (FPost.mk (.inr Q) z1 J Q ⟨PermP.sc,J⟩ J))))))
theorem w_impl_IsGenericHere (f : TFramework) : ∀ t,m_impl_IsGenericHere f = some t → Fw.Fn Try.prog 50 [(.agg [(iC f.Graph.Points),(xF encTBar f.Graph.Bars),(xF encTPlace f.Places)])] [] (.s (.c (bC t))) [] [] [] := by
 refine Fw.Fn.of (P := Try.prog) (X := []) (pn := []) (rs := (fun (t : Bool) => [(.c (bC t))])) (dfs := (fun (t : Bool) => [])) Try.func50 Q Try.ntmps50 (K Q) Q ?_
 intro w0 U0 R0 g0
 unfold m_impl_IsGenericHere
 refine Ws (Wr ?_)
 refine Os10 (LT.box (n := 21) (v := (.agg [(iC f.Graph.Points),(xF encTBar f.Graph.Bars),(xF encTPlace f.Places)])) Q sz29 (by exact Q)) Q Q Q (asg (Bv false) Q y2 Q Q (On (Ws ?_)))
 refine AWR.joinK (fun j5 => ([(2,(Bv j5))],[])) ?_ (fun j5 _ => ?_)
 ·refine AWR.draw mixed (Dp11 (LT.bloadN (out := [(iC f.Graph.Points),(xF encTBar f.Graph.Bars),(xF encTPlace f.Places)]) Q ag29 (infS inf29) sz29 (by exact Q) (by exact Q)) Q Q Q Q (AOD.bind fun r6 hr6 => (AOD.pure (@LT.callF Try.prog _ _ 80 _ _ [(.agg [(iC f.Graph.Points),(xF encTBar f.Graph.Bars),(xF encTPlace f.Places)])] _ _ [] _ _ _ _ (w_impl_IsFramework f r6 hr6) Q cb80 (.cons (.agg (.cons (.same Q) (.cons (.same Q) (.cons (.same Q) .nil)))) .nil) Q Q J) z2 J Q Q (Dp10 (LT.move (v := (Bv r6)) Q) Q Q Q (AOD.split (fun hb7 => ?_) (fun hb7 => ?_))))))
  ·refine Dp11 (LT.bloadN (out := [(iC f.Graph.Points),(xF encTBar f.Graph.Bars),(xF encTPlace f.Places)]) Q ag29 (infS inf29) sz29 (by exact Q) (by exact Q)) Q Q (gH hb7 Q Q) Q (AOD.bind fun r8 hr8 => (AOD.pure (@LT.callF Try.prog _ _ 57 _ _ [(.agg [(iC f.Graph.Points),(xF encTBar f.Graph.Bars),(xF encTPlace f.Places)])] _ _ [] _ _ _ _ (w_impl_FrameworkRank f r8 hr8) Q cb57 (.cons (.agg (.cons (.same Q) (.cons (.same Q) (.cons (.same Q) .nil)))) .nil) Q Q J) z2 J (gH hb7 Q Q) Q (Dp10 (LT.fieldPl Q fo29_0) Q (gH hb7 Q Q) Q (Dp11 (LT.bloadN (out := [(iC f.Graph.Points),(xF encTBar f.Graph.Bars)]) Q ag26 (infS inf26) sz26 (by exact Q) (by exact Q)) Q Q (gH hb7 Q Q) Q (AOD.bind fun r9 hr9 => (AOD.pure (@LT.callF Try.prog _ _ 138 _ _ [(.agg [(iC f.Graph.Points),(xF encTBar f.Graph.Bars)]),(.c (iC 2)),(.c (iC 3))] _ _ [] _ _ _ _ (w_impl_RankOf f.Graph 2 3 r9 hr9) Q cb138 (.cons (.agg (.cons (.same Q) (.cons (.same Q) .nil))) (.cons (.c (.same Q)) (.cons (.c (.same Q)) .nil))) Q Q J) ⟨Q,Q,y2,y2,J⟩ J (gH hb7 Q Q) Q (Dp20 (LT.eql Q) Q Q (gH hb7 Q Q) Q (Dp20 (LT.pickT (v := (Bv (r8 == r9))) Q hb7) Q Q Q Q (Dp10 (LT.assign (v := (Bv (r8 == r9))) Q) Q Q Q (AOD.nil (by kernel_rfl) (AWR.nil ⟨Q,Ent.of z1 J⟩)))))))))))
  ·refine AOD.skip (gH hb7 Q Q) Q (AOD.skip (gH hb7 Q Q) Q (AOD.skip (gH hb7 Q Q) Q (AOD.skip (gH hb7 Q Q) Q (AOD.skip (gH hb7 Q Q) Q (AOD.skip (gH hb7 Q Q) Q (Dp20 (LT.pickF (v := (Bv false)) Q hb7) Q y2 Q Q (Dp10 (LT.assign (v := (Bv false)) Q) Q Q Q (AOD.nil (by kernel_rfl) (AWR.nil ⟨Q,Ent.of z1 J⟩)))))))))
 ·refine AWR.ret (FPost.mk (.inr Q) z1 J Q ⟨PermP.sc,J⟩ J)
end Go.Proofs.Ytghofbijdnenoaa
end
section
set_option linter.unusedVariables false
set_option linter.unusedSimpArgs false
set_option linter.unnecessarySimpa false
set_option maxRecDepth 100000
set_option maxHeartbeats 8000000
open Go Go.Fw
namespace Go.Proofs.Ytghofbijdnenoaa
theorem w_spec_DrawFrameworkFreedom (code : (List Int)) : ∀ t,m_spec_DrawFrameworkFreedom code = some t → Fw.Fn Try.prog 42 [(.c (xT encInt_u8 code))] [] (.s (.agg [(iC t.Graph.Points),(lo 0 t.Graph.Bars.length),(xT encTPlace t.Places)])) [(0,(pR 62 encTBar t.Graph.Bars))] [] [0] := by
 refine Fw.Fn.of (P := Try.prog) (X := [0]) (pn := []) (rs := (fun (t : TFramework) => [(.agg [(iC t.Graph.Points),(lo 0 t.Graph.Bars.length),(xT encTPlace t.Places)])])) (dfs := (fun (t : TFramework) => [(0,(pR 62 encTBar t.Graph.Bars))])) Try.func42 Q Try.ntmps42 (K Q) Q ?_
 intro w0 U0 R0 g0
 unfold m_spec_DrawFrameworkFreedom
 refine Ws (Wr ?_)
 refine Os00 (LT.alloc (n := 21) (cells := [(iC 0),(sC nilV),(sC nilV)]) Q ti29 Q Q Q) Q Q (On (Ws (Wr ?_)))
 refine mv (Cc (xT encInt_u8 code)) Q Q Q Q (Ob' fun r1 hr1 => (AOR.step (@LT.callF Try.prog _ _ 104 _ _ [(.c (xT encInt_u8 code))] _ _ [] _ _ _ _ ((show Fw.Fn Try.prog 104 [(.c (xT encInt_u8 code))] [] (Cc (.pl 23 0)) [(23,(.row 155 [[(xT encInt_u8 r1.b),(iC r1.i),(iC r1.h)]]))] [] [23] from Fw.Fn.ren [(0,23)] (w_spec_l1New code r1 hr1) Q)) Q cb104 (.cons (.c (.same Q)) .nil) Q Q J) z2 J Q Q (Ob' fun r2 hr2 => (AOR.step (@LT.callF Try.prog _ _ 103 _ _ [(.c (.pl 23 0))] _ _ [] _ _ _ _ ((show Fw.Fn Try.prog 103 [(.c (.pl 23 0))] [(23,(.row 155 [[(xT encInt_u8 r1.b),(iC r1.i),(iC r1.h)]]))] (Ag  [(iC r2.1.Graph.Points),(lo 25 r2.1.Graph.Bars.length),(xT encTPlace r2.1.Places)]) [(23,(.row 155 [[(xT encInt_u8 r2.2.b),(iC r2.2.i),(iC r2.2.h)]])),(25,(pR 62 encTBar r2.1.Graph.Bars))] [23] [25] from Fw.Fn.ren [(0,23),(1,25)] (w_spec_l10Any r1 r2 hr2) Q)) Q cb103 (.cons (.c (.same Q)) .nil) Q Q z1) z2 z1 Q Q (Os21 (LT.bstore (v := (.agg [(iC r2.1.Graph.Points),(lo 25 r2.1.Graph.Bars.length),(xT encTPlace r2.1.Places)])) (out := [(iC r2.1.Graph.Points),(lo 25 r2.1.Graph.Bars.length),(xT encTPlace r2.1.Places)]) Q Q (infS inf29) sz29 (by exact Q) (by exact K Q) (by exact Q)) Q Q Q Q Q (On (en [(2,(Cc (.pl 21 0)))] [(21,(.row 29 [[(iC r2.1.Graph.Points),(lo 25 r2.1.Graph.Bars.length),(xT encTPlace r2.1.Places)]])),(25,(pR 62 encTBar r2.1.Graph.Bars))] z1 z2 (AWR.ent (Ent.mv 25 0 Q Q) (en [(2,(Cc (.pl 21 0)))] [(0,(pR 62 encTBar r2.1.Graph.Bars)),(21,(.row 29 [[(iC r2.1.Graph.Points),(lo 0 r2.1.Graph.Bars.length),(xT encTPlace r2.1.Places)]]))] z1 z2 (AWR.ret (FPost.mk (.inr Q) ⟨⟨_,_,_,Q,Q,Q,ag29,sz29,_,(infS inf29)⟩,J⟩ z1 Q ⟨⟨PermP.sc,J,(permC_xs perm_encTPlace),J⟩,J⟩ ⟨PermO.prow' perm_encTBar,J⟩)))))))))))
theorem w_impl_FrameworkFreedom (f : TFramework) : ∀ t,m_impl_FrameworkFreedom f = some t → Fw.Fn Try.prog 43 [(.agg [(iC f.Graph.Points),(xF encTBar f.Graph.Bars),(xF encTPlace f.Places)])] [] (.s (.c (iC t))) [] [] [] := by
 refine Fw.Fn.of (P := Try.prog) (X := []) (pn := []) (rs := (fun (t : Int) => [(.c (iC t))])) (dfs := (fun (t : Int) => [])) Try.func43 Q Try.ntmps43 (K Q) Q ?_
 intro w0 U0 R0 g0
 unfold m_impl_FrameworkFreedom
 refine Ws (Wr ?_)
 refine Os10 (LT.box (n := 21) (v := (.agg [(iC f.Graph.Points),(xF encTBar f.Graph.Bars),(xF encTPlace f.Places)])) Q sz29 (by exact Q)) Q Q Q (asg (Iv 0) Q y2 Q Q (On (Ws (Ws (Wr ?_)))))
 refine Op11 (LT.bloadN (out := [(iC f.Graph.Points),(xF encTBar f.Graph.Bars),(xF encTPlace f.Places)]) Q ag29 (infS inf29) sz29 (by exact Q) (by exact Q)) Q Q Q Q (Ob' fun r1 hr1 => (AOR.pure (@LT.callF Try.prog _ _ 80 _ _ [(.agg [(iC f.Graph.Points),(xF encTBar f.Graph.Bars),(xF encTPlace f.Places)])] _ _ [] _ _ _ _ (w_impl_IsFramework f r1 hr1) Q cb80 (.cons (.agg (.cons (.same Q) (.cons (.same Q) (.cons (.same Q) .nil)))) .nil) Q Q J) z2 J Q Q (Op10 (LT.not Q) Q Q Q (On (AWR.cond Q (fun hc2 => ?_) (fun hc2 => ?_))))))
 ·refine Ws (Wr ?_)
  refine asg (Iv (-1)) Q y2 Q Q (On (AWR.ret (FPost.mk (.inr Q) z1 J Q ⟨PermP.sc,J⟩ J)))
 ·refine AWR.skip (Ws (Wr ?_))
  refine asg (Iv 3) Q y2 Q Q (On (Ws (Wr ?_)))
  refine asg (Bv true) Q y2 Q Q (On (Ws (Ws (Wr ?_))))
  refine Op10 (LT.fieldPl Q fo29_1) Q Q Q (Op11 (LT.bload1 (c := (xF encTPlace f.Places)) Q ag27 (by exact Q)) Q Q Q Q (Op10 (LT.tlenRO Q und27) Q Q Q (mv (Iv 0) Q y2 Q Q (On (AWR.block ?_)))))
  refine AWR.loop1 (id := 0) (m_impl_FrameworkFreedom_L1 f) (fun s3 => ([(1,(Cc (.pl 21 0))),(3,(Iv 3)),(4,(Bv s3.1)),(11,(Cc (xF encTPlace f.Places))),(12,(Iv (f.Places.length : Int))),(13,(Iv s3.2))],[(21,(.row 29 [[(iC f.Graph.Points),(xF encTBar f.Graph.Bars),(xF encTPlace f.Places)]]))])) (fun b15 => ([(1,(Cc (.pl 21 0))),(3,(Iv 3)),(4,(Bv b15))],[(21,(.row 29 [[(iC f.Graph.Points),(xF encTBar f.Graph.Bars),(xF encTPlace f.Places)]]))])) ?_ (Ent.of z6 z1) Q (fun b15 _ => ?_)
  ·intro s3
   unfold m_impl_FrameworkFreedom_L1
   refine Ws (Wr ?_)
   refine Op20 (LT.lss Q) Q Q Q Q (On (Ws ?_))
   refine AWR.cond Q (fun hc16 => ?_) (fun hc16 => ?_)
   ·refine AWR.skip (Ws (AWR.block (Ws (Wr ?_))))
    refine Ob' fun x17 hx17 => (Op20 (LT.tindexRO (enc := encTPlace) Q el27 hx17 sz94) Q Q Q Q (Op10 (LT.loadPxN Q ag94 (infS inf94) (by exact sz94.symm)) Q Q Q (Os00 (LT.alloc (n := 23) (cells := [(iC 0),(iC 0)]) Q ti94 Q Q Q) Q Q (Os21 (LT.bstore (v := (.agg [(iC x17.X),(iC x17.Y)])) (out := [(iC x17.X),(iC x17.Y)]) Q Q (infS inf94) sz94 (by exact Q) (by exact K Q) (by exact Q)) Q Q Q Q Q (On (AWR.joinK (fun j20 => ([(1,(Cc (.pl 21 0))),(3,(Iv 3)),(4,(Bv j20)),(11,(Cc (xF encTPlace f.Places))),(12,(Iv (f.Places.length : Int))),(13,(Iv s3.2))],[(21,(.row 29 [[(iC f.Graph.Points),(xF encTBar f.Graph.Bars),(xF encTPlace f.Places)]]))])) ?_ (fun j20 _ => ?_)))))))
    ·refine AWR.draw mixed (Dp10 (LT.move (v := (Bv s3.1)) Q) Q Q Q (Dp10 (LT.move (v := (Bv s3.1)) Q) Q Q Q (AOD.split (fun hb21 => ?_) (fun hb21 => ?_))))
     ·refine Dp11 (LT.bloadN (out := [(iC x17.X),(iC x17.Y)]) Q ag94 (infS inf94) sz94 (by exact Q) (by exact Q)) Q Q (gH hb21 Q Q) Q (Dp10 (LT.fieldPl Q fo29_1) Q (gH hb21 Q Q) Q (Dp11 (LT.bload1 (c := (xF encTPlace f.Places)) Q ag27 (by exact Q)) Q Q (gH hb21 Q Q) Q (AOD.bind fun x22 hx22 => (Dp20 (LT.tindexRO (enc := encTPlace) Q el27 hx22 sz94) Q y2 (gH hb21 Q Q) Q (Dp10 (LT.loadPxN Q ag94 (infS inf94) (by exact sz94.symm)) Q (gH hb21 Q Q) Q (Dp20 (LT.eqlStruct [x17.X,x17.Y] [x22.X,x22.Y] Q ist94 Q Q) Q Q (gH hb21 Q Q) Q (Dp20 (LT.pickT (v := (Bv (eqI [x17.X,x17.Y] [x22.X,x22.Y]))) Q hb21) Q Q Q Q (Dp10 (LT.assign (v := (Bv (eqI [x17.X,x17.Y] [x22.X,x22.Y]))) Q) Q Q Q (AOD.nil (by kernel_rfl) (AWR.nil ⟨Q,Ent.of z6 z1⟩))))))))))
     ·refine AOD.skip (gH hb21 Q Q) Q (AOD.skip (gH hb21 Q Q) Q (AOD.skip (gH hb21 Q Q) Q (AOD.skip (gH hb21 Q Q) Q (AOD.skip (gH hb21 Q Q) Q (AOD.skip (gH hb21 Q Q) Q (Dp20 (LT.pickF (v := (Bv false)) Q hb21) Q y2 Q Q (Dp10 (LT.assign (v := (Bv false)) Q) Q Q Q (AOD.nil (by kernel_rfl) (AWR.nil ⟨Q,Ent.of z6 z1⟩)))))))))
    ·refine AWR.blk (Wr ?_)
     refine Op20 (LT.add Q) Q y2 Q Q (mv (Iv (w64 (s3.2 + 1))) Q Q Q Q (On (AWR.nil ⟨Q,Ent.of z6 z1⟩)))
   ·refine AWR.exit_end Q ⟨Q,Ent.of z3 z1⟩
  ·refine Ws (Ws (Wr ?_))
   refine mv (Bv b15) Q Q Q Q (On (AWR.joinK (fun j24 => ([(1,(Cc (.pl 21 0))),(3,(Iv j24))],[(21,(.row 29 [[(iC f.Graph.Points),(xF encTBar f.Graph.Bars),(xF encTPlace f.Places)]]))])) ?_ (fun j24 _ => ?_)))
   ·refine AWR.cond Q (fun hc25 => ?_) (fun hc25 => ?_)
    ·refine Wr (asg (Iv 2) Q y2 Q Q (On (AWR.nil ⟨Q,Ent.of z2 z1⟩)))
    ·refine AWR.skip (AWR.nil ⟨Q,Ent.of z2 z1⟩)
   ·refine Ws (AWR.draw mixed ?_)
    refine Dp10 (LT.fieldPl Q fo29_0) Q Q Q (Dp10 (LT.fieldPl Q fo26_0) Q Q Q (Dp11 (LT.bload1 (c := (iC f.Graph.Points)) Q ag3 (by exact Q)) Q Q Q Q (Dp20 (LT.mul Q) y2 Q Q Q (Dp10 (LT.move (v := (Iv j24)) Q) Q Q Q (Dp20 (LT.sub Q) Q Q Q Q (Dp11 (LT.bloadN (out := [(iC f.Graph.Points),(xF encTBar f.Graph.Bars),(xF encTPlace f.Places)]) Q ag29 (infS inf29) sz29 (by exact Q) (by exact Q)) Q Q Q Q (AOD.bind fun r26 hr26 => (AOD.pure (@LT.callF Try.prog _ _ 57 _ _ [(.agg [(iC f.Graph.Points),(xF encTBar f.Graph.Bars),(xF encTPlace f.Places)])] _ _ [] _ _ _ _ (w_impl_FrameworkRank f r26 hr26) Q cb57 (.cons (.agg (.cons (.same Q) (.cons (.same Q) (.cons (.same Q) .nil)))) .nil) Q Q J) z2 J Q Q (Dp20 (LT.sub Q) Q Q Q Q (Dp10 (LT.assign (v := (Iv (w64 ((w64 ((w64 (2 * f.Graph.Points)) - j24)) - r26)))) Q) Q Q Q (AOD.nil (by kernel_rfl) ?_)))))))))))
    refine AWR.ret (FPost.mk (.inr Q) z1 J Q ⟨PermP.sc,J⟩ J)
theorem w_impl_IsStiff (f : TFramework) : ∀ t,m_impl_IsStiff f = some t → Fw.Fn Try.prog 47 [(.agg [(iC f.Graph.Points),(xF encTBar f.Graph.Bars),(xF encTPlace f.Places)])] [] (.s (.c (bC t))) [] [] [] := by
 refine Fw.Fn.of (P := Try.prog) (X := []) (pn := []) (rs := (fun (t : Bool) => [(.c (bC t))])) (dfs := (fun (t : Bool) => [])) Try.func47 Q Try.ntmps47 (K Q) Q ?_
 intro w0 U0 R0 g0
 unfold m_impl_IsStiff
 refine Ws (Wr ?_)
 refine Os10 (LT.box (n := 21) (v := (.agg [(iC f.Graph.Points),(xF encTBar f.Graph.Bars),(xF encTPlace f.Places)])) Q sz29 (by exact Q)) Q Q Q (asg (Bv false) Q y2 Q Q (On (Ws (Wr ?_))))
 refine Op11 (LT.bloadN (out := [(iC f.Graph.Points),(xF encTBar f.Graph.Bars),(xF encTPlace f.Places)]) Q ag29 (infS inf29) sz29 (by exact Q) (by exact Q)) Q Q Q Q (Ob' fun r1 hr1 => (AOR.pure (@LT.callF Try.prog _ _ 43 _ _ [(.agg [(iC f.Graph.Points),(xF encTBar f.Graph.Bars),(xF encTPlace f.Places)])] _ _ [] _ _ _ _ (w_impl_FrameworkFreedom f r1 hr1) Q cb43 (.cons (.agg (.cons (.same Q) (.cons (.same Q) (.cons (.same Q) .nil)))) .nil) Q Q J) z2 J Q Q (Op20 (LT.eql Q) Q y2 Q Q (asg (Bv (r1 == 0)) Q Q Q Q (On (AWR.ret (FPost.mk (.inr Q) z1 J Q ⟨PermP.sc,J⟩ J)))))))
theorem w_impl_IsIndependentFramework (f : TFramework) : ∀ t,m_impl_IsIndependentFramework f = some t → Fw.Fn Try.prog 48 [(.agg [(iC f.Graph.Points),(xF encTBar f.Graph.Bars),(xF encTPlace f.Places)])] [] (.s (.c (bC t))) [] [] [] := by
 refine Fw.Fn.of (P := Try.prog) (X := []) (pn := []) (rs := (fun (t : Bool) => [(.c (bC t))])) (dfs := (fun (t : Bool) => [])) Try.func48 Q Try.ntmps48 (K Q) Q ?_
 intro w0 U0 R0 g0
 unfold m_impl_IsIndependentFramework
 refine Ws (Wr ?_)
 refine Os10 (LT.box (n := 21) (v := (.agg [(iC f.Graph.Points),(xF encTBar f.Graph.Bars),(xF encTPlace f.Places)])) Q sz29 (by exact Q)) Q Q Q (asg (Bv false) Q y2 Q Q (On (Ws ?_)))
 refine AWR.joinK (fun j4 => ([(2,(Bv j4))],[])) ?_ (fun j4 _ => ?_)
 ·refine AWR.draw mixed (Dp11 (LT.bloadN (out := [(iC f.Graph.Points),(xF encTBar f.Graph.Bars),(xF encTPlace f.Places)]) Q ag29 (infS inf29) sz29 (by exact Q) (by exact Q)) Q Q Q Q (AOD.bind fun r5 hr5 => (AOD.pure (@LT.callF Try.prog _ _ 80 _ _ [(.agg [(iC f.Graph.Points),(xF encTBar f.Graph.Bars),(xF encTPlace f.Places)])] _ _ [] _ _ _ _ (w_impl_IsFramework f r5 hr5) Q cb80 (.cons (.agg (.cons (.same Q) (.cons (.same Q) (.cons (.same Q) .nil)))) .nil) Q Q J) z2 J Q Q (Dp10 (LT.move (v := (Bv r5)) Q) Q Q Q (AOD.split (fun hb6 => ?_) (fun hb6 => ?_))))))
  ·refine Dp11 (LT.bloadN (out := [(iC f.Graph.Points),(xF encTBar f.Graph.Bars),(xF encTPlace f.Places)]) Q ag29 (infS inf29) sz29 (by exact Q) (by exact Q)) Q Q (gH hb6 Q Q) Q (AOD.bind fun r7 hr7 => (AOD.pure (@LT.callF Try.prog _ _ 57 _ _ [(.agg [(iC f.Graph.Points),(xF encTBar f.Graph.Bars),(xF encTPlace f.Places)])] _ _ [] _ _ _ _ (w_impl_FrameworkRank f r7 hr7) Q cb57 (.cons (.agg (.cons (.same Q) (.cons (.same Q) (.cons (.same Q) .nil)))) .nil) Q Q J) z2 J (gH hb6 Q Q) Q (Dp10 (LT.fieldPl Q fo29_0) Q (gH hb6 Q Q) Q (Dp10 (LT.fieldPl Q fo26_1) Q (gH hb6 Q Q) Q (Dp11 (LT.bload1 (c := (xF encTBar f.Graph.Bars)) Q ag24 (by exact Q)) Q Q (gH hb6 Q Q) Q (Dp10 (LT.tlenRO Q und24) Q (gH hb6 Q Q) Q (Dp20 (LT.eql Q) Q Q (gH hb6 Q Q) Q (Dp20 (LT.pickT (v := (Bv (r7 == (f.Graph.Bars.length : Int)))) Q hb6) Q Q Q Q (Dp10 (LT.assign (v := (Bv (r7 == (f.Graph.Bars.length : Int)))) Q) Q Q Q (AOD.nil (by kernel_rfl) (AWR.nil ⟨Q,Ent.of z1 J⟩)))))))))))
  ·refine AOD.skip (gH hb6 Q Q) Q (AOD.skip (gH hb6 Q Q) Q (AOD.skip (gH hb6 Q Q) Q (AOD.skip (gH hb6 Q Q) Q (AOD.skip (gH hb6 Q Q) Q (AOD.skip (gH hb6 Q Q) Q (AOD.skip (gH hb6 Q Q) Q (Dp20 (LT.pickF (v := (Bv false)) Q hb6) Q y2 Q Q (Dp10 (LT.assign (v := (Bv false)) Q) Q Q Q (AOD.nil (by kernel_rfl) (AWR.nil ⟨Q,Ent.of z1 J⟩))))))))))
 ·refine AWR.ret (FPost.mk (.inr Q) z1 J Q ⟨PermP.sc,J⟩ J)
theorem w_spec_IsIndependentFramework (f : TFramework) : ∀ t,m_spec_IsIndependentFramework f = some t → Fw.Fn Try.prog 49 [(.agg [(iC f.Graph.Points),(xF encTBar f.Graph.Bars),(xF encTPlace f.Places)])] [] (.s (.c (bC t))) [] [] [] := by
 refine Fw.Fn.of (P := Try.prog) (X := []) (pn := []) (rs := (fun (t : Bool) => [(.c (bC t))])) (dfs := (fun (t : Bool) => [])) Try.func49 Q Try.ntmps49 (K Q) Q ?_
 intro w0 U0 R0 g0
 unfold m_spec_IsIndependentFramework
 refine Ws (Wr ?_)
 refine Os10 (LT.box (n := 21) (v := (.agg [(iC f.Graph.Points),(xF encTBar f.Graph.Bars),(xF encTPlace f.Places)])) Q sz29 (by exact Q)) Q Q Q (asg (Bv false) Q y2 Q Q (On (Ws ?_)))
 refine AWR.joinK (fun j4 => ([(2,(Bv j4))],[])) ?_ (fun j4 _ => ?_)
 ·refine AWR.draw mixed (Dp11 (LT.bloadN (out := [(iC f.Graph.Points),(xF encTBar f.Graph.Bars),(xF encTPlace f.Places)]) Q ag29 (infS inf29) sz29 (by exact Q) (by exact Q)) Q Q Q Q (AOD.bind fun r5 hr5 => (AOD.pure (@LT.callF Try.prog _ _ 15 _ _ [(.agg [(iC f.Graph.Points),(xF encTBar f.Graph.Bars),(xF encTPlace f.Places)])] _ _ [] _ _ _ _ (w_spec_IsFramework f r5 hr5) Q cb15 (.cons (.agg (.cons (.same Q) (.cons (.same Q) (.cons (.same Q) .nil)))) .nil) Q Q J) z2 J Q Q (Dp10 (LT.move (v := (Bv r5)) Q) Q Q Q (AOD.split (fun hb6 => ?_) (fun hb6 => ?_))))))
  ·refine Dp11 (LT.bloadN (out := [(iC f.Graph.Points),(xF encTBar f.Graph.Bars),(xF encTPlace f.Places)]) Q ag29 (infS inf29) sz29 (by exact Q) (by exact Q)) Q Q (gH hb6 Q Q) Q (AOD.bind fun r7 hr7 => (AOD.pure (@LT.callF Try.prog _ _ 58 _ _ [(.agg [(iC f.Graph.Points),(xF encTBar f.Graph.Bars),(xF encTPlace f.Places)])] _ _ [] _ _ _ _ (w_spec_FrameworkRank f r7 hr7) Q cb58 (.cons (.agg (.cons (.same Q) (.cons (.same Q) (.cons (.same Q) .nil)))) .nil) Q Q J) z2 J (gH hb6 Q Q) Q (Dp10 (LT.fieldPl Q fo29_0) Q (gH hb6 Q Q) Q (Dp10 (LT.fieldPl Q fo26_1) Q (gH hb6 Q Q) Q (Dp11 (LT.bload1 (c := (xF encTBar f.Graph.Bars)) Q ag24 (by exact Q)) Q Q (gH hb6 Q Q) Q (Dp10 (LT.tlenRO Q und24) Q (gH hb6 Q Q) Q (Dp20 (LT.eql Q) Q Q (gH hb6 Q Q) Q (Dp20 (LT.pickT (v := (Bv (r7 == (f.Graph.Bars.length : Int)))) Q hb6) Q Q Q Q (Dp10 (LT.assign (v := (Bv (r7 == (f.Graph.Bars.length : Int)))) Q) Q Q Q (AOD.nil (by kernel_rfl) (AWR.nil ⟨Q,Ent.of z1 J⟩)))))))))))
  ·refine AOD.skip (gH hb6 Q Q) Q (AOD.skip (gH hb6 Q Q) Q (AOD.skip (gH hb6 Q Q) Q (AOD.skip (gH hb6 Q Q) Q (AOD.skip (gH hb6 Q Q) Q (AOD.skip (gH hb6 Q Q) Q (AOD.skip (gH hb6 Q Q) Q (Dp20 (LT.pickF (v := (Bv false)) Q hb6) Q y2 Q Q (Dp10 (LT.assign (v := (Bv false)) Q) Q Q Q (AOD.nil (by kernel_rfl) (AWR.nil ⟨Q,Ent.of z1 J⟩))))))))))
 ·refine AWR.ret (FPost.mk (.inr Q) z1 J Q ⟨PermP.sc,J⟩ J)
theorem w_impl_AreCollinear (a : TPlace) (b : TPlace) (c : TPlace) : ∀ t,m_impl_AreCollinear a b c = some t → Fw.Fn Try.prog 100 [(.agg [(iC a.X),(iC a.Y)]),(.agg [(iC b.X),(iC b.Y)]),(.agg [(iC c.X),(iC c.Y)])] [] (.s (.c (bC t))) [] [] [] := by
 refine Fw.Fn.of (P := Try.prog) (X := []) (pn := []) (rs := (fun (t : Bool) => [(.c (bC t))])) (dfs := (fun (t : Bool) => [])) Try.func100 Q Try.ntmps100 (K Q) Q ?_
 intro w0 U0 R0 g0
 unfold m_impl_AreCollinear
 refine Ws (Wr ?_)
 refine Os10 (LT.box (n := 21) (v := (.agg [(iC a.X),(iC a.Y)])) Q sz94 (by exact Q)) Q Q Q (Os10 (LT.box (n := 22) (v := (.agg [(iC b.X),(iC b.Y)])) Q sz94 (by exact Q)) Q Q Q (Os10 (LT.box (n := 23) (v := (.agg [(iC c.X),(iC c.Y)])) Q sz94 (by exact Q)) Q Q Q (asg (Bv false) Q y2 Q Q (On (Ws ?_)))))
 refine AWR.joinK (fun j7 => ([(6,(Bv j7))],[])) ?_ (fun j7 _ => ?_)
 ·refine Wr (Op11 (LT.bloadN (out := [(iC a.X),(iC a.Y)]) Q ag94 (infS inf94) sz94 (by exact Q) (by exact Q)) Q Q Q Q (Ob' fun r8 hr8 => (AOR.pure (@LT.callF Try.prog _ _ 174 _ _ [(.agg [(iC a.X),(iC a.Y)])] _ _ [] _ _ _ _ (w_impl_isPlace a r8 hr8) Q cb174 (.cons (.agg (.cons (.same Q) (.cons (.same Q) .nil))) .nil) Q Q J) z2 J Q Q (mv (Bv r8) Q Q Q Q (AOR.split (fun hb9 => ?_) (fun hb9 => ?_))))))
  ·refine Op11 (LT.bloadN (out := [(iC b.X),(iC b.Y)]) Q ag94 (infS inf94) sz94 (by exact Q) (by exact Q)) Q Q (gH hb9 Q Q) Q (Ob' fun r10 hr10 => (AOR.pure (@LT.callF Try.prog _ _ 174 _ _ [(.agg [(iC b.X),(iC b.Y)])] _ _ [] _ _ _ _ (w_impl_isPlace b r10 hr10) Q cb174 (.cons (.agg (.cons (.same Q) (.cons (.same Q) .nil))) .nil) Q Q J) z2 J (gH hb9 Q Q) Q (Op20 (LT.pickT (v := (Bv r10)) Q hb9) Q Q Q Q (mv (Bv r10) Q Q Q Q (AOR.split (fun hb11 => ?_) (fun hb11 => ?_))))))
   ·refine Op11 (LT.bloadN (out := [(iC c.X),(iC c.Y)]) Q ag94 (infS inf94) sz94 (by exact Q) (by exact Q)) Q Q (gH hb11 Q Q) Q (Ob' fun r12 hr12 => (AOR.pure (@LT.callF Try.prog _ _ 174 _ _ [(.agg [(iC c.X),(iC c.Y)])] _ _ [] _ _ _ _ (w_impl_isPlace c r12 hr12) Q cb174 (.cons (.agg (.cons (.same Q) (.cons (.same Q) .nil))) .nil) Q Q J) z2 J (gH hb11 Q Q) Q (Op20 (LT.pickT (v := (Bv r12)) Q hb11) Q Q Q Q (mv (Bv r12) Q Q Q Q (AOR.split (fun hb13 => ?_) (fun hb13 => ?_))))))
    ·refine Op10 (LT.fieldPl Q fo94_0) Q (gH hb13 Q Q) Q (Op11 (LT.bload1 (c := (iC b.X)) Q ag3 (by exact Q)) Q Q (gH hb13 Q Q) Q (Op10 (LT.fieldPl Q fo94_0) Q (gH hb13 Q Q) Q (Op11 (LT.bload1 (c := (iC a.X)) Q ag3 (by exact Q)) Q Q (gH hb13 Q Q) Q (Op20 (LT.sub Q) Q Q (gH hb13 Q Q) Q (Op10 (LT.fieldPl Q fo94_1) Q (gH hb13 Q Q) Q (Op11 (LT.bload1 (c := (iC c.Y)) Q ag3 (by exact Q)) Q Q (gH hb13 Q Q) Q (Op10 (LT.fieldPl Q fo94_1) Q (gH hb13 Q Q) Q (Op11 (LT.bload1 (c := (iC a.Y)) Q ag3 (by exact Q)) Q Q (gH hb13 Q Q) Q (Op20 (LT.sub Q) Q Q (gH hb13 Q Q) Q (Op20 (LT.mul Q) Q Q (gH hb13 Q Q) Q (Op10 (LT.fieldPl Q fo94_0) Q (gH hb13 Q Q) Q ?_)))))))))))
     refine Op11 (LT.bload1 (c := (iC c.X)) Q ag3 (by exact Q)) Q Q (gH hb13 Q Q) Q (Op10 (LT.fieldPl Q fo94_0) Q (gH hb13 Q Q) Q (Op11 (LT.bload1 (c := (iC a.X)) Q ag3 (by exact Q)) Q Q (gH hb13 Q Q) Q (Op20 (LT.sub Q) Q Q (gH hb13 Q Q) Q (Op10 (LT.fieldPl Q fo94_1) Q (gH hb13 Q Q) Q (Op11 (LT.bload1 (c := (iC b.Y)) Q ag3 (by exact Q)) Q Q (gH hb13 Q Q) Q (Op10 (LT.fieldPl Q fo94_1) Q (gH hb13 Q Q) Q (Op11 (LT.bload1 (c := (iC a.Y)) Q ag3 (by exact Q)) Q Q (gH hb13 Q Q) Q (Op20 (LT.sub Q) Q Q (gH hb13 Q Q) Q (Op20 (LT.mul Q) Q Q (gH hb13 Q Q) Q (Op20 (LT.eql Q) Q Q (gH hb13 Q Q) Q (Op20 (LT.pickT (v := (Bv ((w64 ((w64 (b.X - a.X)) * (w64 (c.Y - a.Y)))) == (w64 ((w64 (c.X - a.X)) * (w64 (b.Y - a.Y))))))) Q hb13) Q Q Q Q ?_)))))))))))
     refine asg (Bv ((w64 ((w64 (b.X - a.X)) * (w64 (c.Y - a.Y)))) == (w64 ((w64 (c.X - a.X)) * (w64 (b.Y - a.Y)))))) Q Q Q Q (On (AWR.nil ⟨Q,Ent.of z1 J⟩))
    ·refine Ok Q Q Q (by rw [hb13]; rfl) Q (Ok Q Q Q (by rw [hb13]; rfl) Q (Ok Q Q Q (by rw [hb13]; rfl) Q (Ok Q Q Q (by rw [hb13]; rfl) Q (Ok Q Q Q (by rw [hb13]; rfl) Q (Ok Q Q Q (by rw [hb13]; rfl) Q (Ok Q Q Q (by rw [hb13]; rfl) Q (Ok Q Q Q (by rw [hb13]; rfl) Q (Ok Q Q Q (by rw [hb13]; rfl) Q (Ok Q Q Q (by rw [hb13]; rfl) Q (Ok Q Q Q (by rw [hb13]; rfl) Q (Ok Q Q Q (by rw [hb13]; rfl) Q ?_)))))))))))
     refine Ok Q Q Q (by rw [hb13]; rfl) Q (Ok Q Q Q (by rw [hb13]; rfl) Q (Ok Q Q Q (by rw [hb13]; rfl) Q (Ok Q Q Q (by rw [hb13]; rfl) Q (Ok Q Q Q (by rw [hb13]; rfl) Q (Ok Q Q Q (by rw [hb13]; rfl) Q (Ok Q Q Q (by rw [hb13]; rfl) Q (Ok Q Q Q (by rw [hb13]; rfl) Q (Ok Q Q Q (by rw [hb13]; rfl) Q (Ok Q Q Q (by rw [hb13]; rfl) Q (Ok Q Q Q (by rw [hb13]; rfl) Q (Op20 (LT.pickF (v := (Bv false)) Q hb13) Q y2 Q Q ?_)))))))))))
     refine asg (Bv false) Q Q Q Q (On (AWR.nil ⟨Q,Ent.of z1 J⟩))
   ·refine Ok Q Q Q (by rw [hb11]; rfl) Q (Ok Q Q Q (by rw [hb11]; rfl) Q (Op20 (LT.pickF (v := (Bv false)) Q hb11) Q y2 Q Q (mv (Bv false) Q Q Q Q (Ok Q Q Q Q Q (Ok Q Q Q Q Q (Ok Q Q Q Q Q (Ok Q Q Q Q Q (Ok Q Q Q Q Q (Ok Q Q Q Q Q (Ok Q Q Q Q Q (Ok Q Q Q Q Q ?_)))))))))))
    refine Ok Q Q Q Q Q (Ok Q Q Q Q Q (Ok Q Q Q Q Q (Ok Q Q Q Q Q (Ok Q Q Q Q Q (Ok Q Q Q Q Q (Ok Q Q Q Q Q (Ok Q Q Q Q Q (Ok Q Q Q Q Q (Ok Q Q Q Q Q (Ok Q Q Q Q Q (Ok Q Q Q Q Q ?_)))))))))))
    refine Ok Q Q Q Q Q (Ok Q Q Q Q Q (Ok Q Q Q Q Q (Op20 (LT.pickF (v := (Bv false)) Q Q) Q y2 Q Q (asg (Bv false) Q Q Q Q (On (AWR.nil ⟨Q,Ent.of z1 J⟩))))))
  ·refine Ok Q Q Q (by rw [hb9]; rfl) Q (Ok Q Q Q (by rw [hb9]; rfl) Q (Op20 (LT.pickF (v := (Bv false)) Q hb9) Q y2 Q Q (mv (Bv false) Q Q Q Q (Ok Q Q Q Q Q (Ok Q Q Q Q Q (Op20 (LT.pickF (v := (Bv false)) Q Q) Q y2 Q Q (mv (Bv false) Q Q Q Q (Ok Q Q Q Q Q (Ok Q Q Q Q Q (Ok Q Q Q Q Q (Ok Q Q Q Q Q ?_)))))))))))
   refine Ok Q Q Q Q Q (Ok Q Q Q Q Q (Ok Q Q Q Q Q (Ok Q Q Q Q Q (Ok Q Q Q Q Q (Ok Q Q Q Q Q (Ok Q Q Q Q Q (Ok Q Q Q Q Q (Ok Q Q Q Q Q (Ok Q Q Q Q Q (Ok Q Q Q Q Q (Ok Q Q Q Q Q ?_)))))))))))
   refine Ok Q Q Q Q Q (Ok Q Q Q Q Q (Ok Q Q Q Q Q (Ok Q Q Q Q Q (Ok Q Q Q Q Q (Ok Q Q Q Q Q (Ok Q Q Q Q Q (Op20 (LT.pickF (v := (Bv false)) Q Q) Q y2 Q Q (asg (Bv false) Q Q Q Q (On (AWR.nil ⟨Q,Ent.of z1 J⟩))))))))))
 ·refine AWR.ret (FPost.mk (.inr Q) z1 J Q ⟨PermP.sc,J⟩ J)
theorem w_impl_FlatSets (f : TFramework) : ∀ t,m_impl_FlatSets f = some t → Fw.Fn Try.prog 52 [(.agg [(iC f.Graph.Points),(xF encTBar f.Graph.Bars),(xF encTPlace f.Places)])] [] (.s (.c (lo 0 t.length))) [(0,(.trow 37 1 (lensOf t))),(1,(.pool 3 (rowsOf encInt t)))] [] [0,1] := by
 refine Fw.Fn.of (P := Try.prog) (X := [0,1]) (pn := []) (rs := (fun (t : (List (List Int))) => [(.c (lo 0 t.length))])) (dfs := (fun (t : (List (List Int))) => [(0,(.trow 37 1 (lensOf t))),(1,(.pool 3 (rowsOf encInt t)))])) Try.func52 Q Try.ntmps52 (K Q) Q ?_
 intro w0 U0 R0 g0
 unfold m_impl_FlatSets
 refine Ws (Wr ?_)
 refine Os10 (LT.box (n := 21) (v := (.agg [(iC f.Graph.Points),(xF encTBar f.Graph.Bars),(xF encTPlace f.Places)])) Q sz29 (by exact Q)) Q Q Q (asg (Cc (sC nilV)) Q y2 Q Q (On (Ws (Wr ?_))))
 refine Os00 (LT.buildSlice (n := 22) (els := []) [] Q Q und31 ti37 Q Q Q Q (by decide) Q Q) Q Q (asg (Cc (lo 22 0)) Q Q Q Q (On (AWR.ent (Ent.poolE 23 3 Q) (AWR.ent (Ent.trow (n := 22) (p := 23) (lens := lensOf ([] : List (List Int))) (List.append_nil _) Q) (Ws (Ws (Wr ?_)))))))
 refine Op11 (LT.bloadN (out := [(iC f.Graph.Points),(xF encTBar f.Graph.Bars),(xF encTPlace f.Places)]) Q ag29 (infS inf29) sz29 (by exact Q) (by exact Q)) Q Q Q Q (Ob' fun r1 hr1 => (AOR.pure (@LT.callF Try.prog _ _ 80 _ _ [(.agg [(iC f.Graph.Points),(xF encTBar f.Graph.Bars),(xF encTPlace f.Places)])] _ _ [] _ _ _ _ (w_impl_IsFramework f r1 hr1) Q cb80 (.cons (.agg (.cons (.same Q) (.cons (.same Q) (.cons (.same Q) .nil)))) .nil) Q Q J) z2 J Q Q (Op10 (LT.not Q) Q Q Q (On (AWR.cond Q (fun hc2 => ?_) (fun hc2 => ?_))))))
 ·refine Ws (Wr ?_)
  refine mv (Cc (lo 22 0)) Q Q Q Q (asg (Cc (lo 22 0)) Q Q Q Q (On (en [(2,(Cc (lo 22 0)))] [(22,(.trow 37 23 (lensOf ([] : List (List Int))))),(23,(.pool 3 (rowsOf encInt ([] : List (List Int)))))] z1 z2 (AWR.ent (Ent.mv 22 0 Q Q) (AWR.ent (Ent.mv 23 1 Q Q) (en [(2,(Cc (lo 0 (([] : List (List Int)).length))))] [(0,(.trow 37 1 (lensOf ([] : List (List Int))))),(1,(.pool 3 (rowsOf encInt ([] : List (List Int)))))] z1 z2 (AWR.ret (FPost.mk (.inr Q) z1 z2 Q ⟨J,J⟩ ⟨J,PermO.poolR perm_encInt _,J⟩))))))))
 ·refine AWR.skip (Ws (Ws (Wr ?_)))
  refine Op10 (LT.fieldPl Q fo29_1) Q Q Q (Op11 (LT.bload1 (c := (xF encTPlace f.Places)) Q ag27 (by exact Q)) Q Q Q Q (Op10 (LT.tlenRO Q und27) Q Q Q (mv (Iv 0) Q y2 Q Q (On (AWR.block ?_)))))
  refine AWR.loop1 (id := 0) (m_impl_FlatSets_L7 f) (fun s3 => ([(1,(Cc (.pl 21 0))),(3,(Cc (lo 22 s3.2.length))),(14,(Iv (f.Places.length : Int))),(15,(Iv s3.1))],[(21,(.row 29 [[(iC f.Graph.Points),(xF encTBar f.Graph.Bars),(xF encTPlace f.Places)]])),(22,(.trow 37 23 (lensOf s3.2))),(23,(.pool 3 (rowsOf encInt s3.2)))])) (fun b102 => ([(3,(Cc (lo 22 b102.length)))],[(22,(.trow 37 23 (lensOf b102))),(23,(.pool 3 (rowsOf encInt b102)))])) ?_ (Ent.of z4 z3) Q (fun b102 _ => ?_)
  ·intro s3
   unfold m_impl_FlatSets_L7
   refine Ws (Wr ?_)
   refine Op20 (LT.lss Q) Q Q Q Q (On (Ws ?_))
   refine AWR.cond Q (fun hc103 => ?_) (fun hc103 => ?_)
   ·refine AWR.skip (Ws (AWR.block (Ws (Wr ?_))))
    refine mv (Iv s3.1) Q Q Q Q (asg (Iv s3.1) Q Q Q Q (On (Ws (Wr ?_))))
    refine mv (Iv s3.1) Q Q Q Q (Op20 (LT.add Q) Q y2 Q Q (asg (Iv (w64 (s3.1 + 1))) Q Q Q Q (On (AWR.block ?_))))
    refine AWR.loop1 (id := 2) (m_impl_FlatSets_L10 f) (fun s104 => ([(1,(Cc (.pl 21 0))),(3,(Cc (lo 22 s104.2.2.2.length))),(4,(Iv s104.1)),(5,(Iv s104.2.1)),(14,(Iv (f.Places.length : Int))),(15,(Iv s104.2.2.1))],[(21,(.row 29 [[(iC f.Graph.Points),(xF encTBar f.Graph.Bars),(xF encTPlace f.Places)]])),(22,(.trow 37 23 (lensOf s104.2.2.2))),(23,(.pool 3 (rowsOf encInt s104.2.2.2)))])) (fun b151 => ([(1,(Cc (.pl 21 0))),(3,(Cc (lo 22 b151.2.length))),(14,(Iv (f.Places.length : Int))),(15,(Iv b151.1))],[(21,(.row 29 [[(iC f.Graph.Points),(xF encTBar f.Graph.Bars),(xF encTPlace f.Places)]])),(22,(.trow 37 23 (lensOf b151.2))),(23,(.pool 3 (rowsOf encInt b151.2)))])) ?_ (Ent.of z6 z3) Q (fun b151 _ => ?_)
    ·intro s104
     unfold m_impl_FlatSets_L10
     refine Ws (Ws (Wr ?_))
     refine mv (Iv s104.2.1) Q Q Q Q (Op10 (LT.fieldPl Q fo29_1) Q Q Q (Op11 (LT.bload1 (c := (xF encTPlace f.Places)) Q ag27 (by exact Q)) Q Q Q Q (Op10 (LT.tlenRO Q und27) Q Q Q (Op20 (LT.lss Q) Q Q Q Q (On (AWR.cond Q (fun hc152 => ?_) (fun hc152 => ?_)))))))
     ·refine AWR.skip (Ws (AWR.block (Ws (Wr ?_))))
      refine mv (Iv s104.2.1) Q Q Q Q (Op20 (LT.add Q) Q y2 Q Q (asg (Iv (w64 (s104.2.1 + 1))) Q Q Q Q (On (AWR.block ?_))))
      refine AWR.loop1 (id := 4) (m_impl_FlatSets_L11 f s104) (fun s153 => ([(1,(Cc (.pl 21 0))),(3,(Cc (lo 22 s153.2.length))),(4,(Iv s104.1)),(5,(Iv s104.2.1)),(6,(Iv s153.1)),(14,(Iv (f.Places.length : Int))),(15,(Iv s104.2.2.1))],[(21,(.row 29 [[(iC f.Graph.Points),(xF encTBar f.Graph.Bars),(xF encTPlace f.Places)]])),(22,(.trow 37 23 (lensOf s153.2))),(23,(.pool 3 (rowsOf encInt s153.2)))])) (fun b174 => ([(1,(Cc (.pl 21 0))),(3,(Cc (lo 22 b174.2.2.2.length))),(4,(Iv b174.1)),(5,(Iv b174.2.1)),(14,(Iv (f.Places.length : Int))),(15,(Iv b174.2.2.1))],[(21,(.row 29 [[(iC f.Graph.Points),(xF encTBar f.Graph.Bars),(xF encTPlace f.Places)]])),(22,(.trow 37 23 (lensOf b174.2.2.2))),(23,(.pool 3 (rowsOf encInt b174.2.2.2)))])) ?_ (Ent.of z7 z3) Q (fun b174 _ => ?_)
      ·intro s153
       unfold m_impl_FlatSets_L11
       refine Ws (Ws (Wr ?_))
       refine mv (Iv s153.1) Q Q Q Q (Op10 (LT.fieldPl Q fo29_1) Q Q Q (Op11 (LT.bload1 (c := (xF encTPlace f.Places)) Q ag27 (by exact Q)) Q Q Q Q (Op10 (LT.tlenRO Q und27) Q Q Q (Op20 (LT.lss Q) Q Q Q Q (On (AWR.cond Q (fun hc175 => ?_) (fun hc175 => ?_)))))))
       ·refine AWR.skip (Ws (AWR.block (Ws (AWR.draw mixed ?_))))
        refine Dp10 (LT.fieldPl Q fo29_1) Q Q Q (Dp11 (LT.bload1 (c := (xF encTPlace f.Places)) Q ag27 (by exact Q)) Q Q Q Q (Dp10 (LT.move (v := (Iv s104.1)) Q) Q Q Q (AOD.bind fun x176 hx176 => (Dp20 (LT.tindexRO (enc := encTPlace) Q el27 hx176 sz94) Q Q Q Q (Dp10 (LT.loadPxN Q ag94 (infS inf94) (by exact sz94.symm)) Q Q Q (Dp10 (LT.fieldPl Q fo29_1) Q Q Q (Dp11 (LT.bload1 (c := (xF encTPlace f.Places)) Q ag27 (by exact Q)) Q Q Q Q (Dp10 (LT.move (v := (Iv s104.2.1)) Q) Q Q Q (AOD.bind fun x177 hx177 => (Dp20 (LT.tindexRO (enc := encTPlace) Q el27 hx177 sz94) Q Q Q Q (Dp10 (LT.loadPxN Q ag94 (infS inf94) (by exact sz94.symm)) Q Q Q ?_)))))))))))
        refine Dp10 (LT.fieldPl Q fo29_1) Q Q Q (Dp11 (LT.bload1 (c := (xF encTPlace f.Places)) Q ag27 (by exact Q)) Q Q Q Q (Dp10 (LT.move (v := (Iv s153.1)) Q) Q Q Q (AOD.bind fun x178 hx178 => (Dp20 (LT.tindexRO (enc := encTPlace) Q el27 hx178 sz94) Q Q Q Q (Dp10 (LT.loadPxN Q ag94 (infS inf94) (by exact sz94.symm)) Q Q Q (AOD.bind fun r179 hr179 => (AOD.pure (@LT.callF Try.prog _ _ 100 _ _ [(.agg [(iC x176.X),(iC x176.Y)]),(.agg [(iC x177.X),(iC x177.Y)]),(.agg [(iC x178.X),(iC x178.Y)])] _ _ [] _ _ _ _ (w_impl_AreCollinear x176 x177 x178 r179 hr179) Q cb100 (.cons (.agg (.cons (.same Q) (.cons (.same Q) .nil))) (.cons (.agg (.cons (.same Q) (.cons (.same Q) .nil))) (.cons (.agg (.cons (.same Q) (.cons (.same Q) .nil))) .nil))) Q Q J) z4 J Q Q (AOD.nil (by kernel_rfl) (AWR.joinK (fun j182 => ([(1,(Cc (.pl 21 0))),(3,(Cc (lo 22 j182.length))),(4,(Iv s104.1)),(5,(Iv s104.2.1)),(6,(Iv s153.1)),(14,(Iv (f.Places.length : Int))),(15,(Iv s104.2.2.1))],[(21,(.row 29 [[(iC f.Graph.Points),(xF encTBar f.Graph.Bars),(xF encTPlace f.Places)]])),(22,(.trow 37 23 (lensOf j182))),(23,(.pool 3 (rowsOf encInt j182)))])) ?_ (fun j182 _ => ?_))))))))))
        ·refine AWR.cond Q (fun hc183 => ?_) (fun hc183 => ?_)
         ·refine en [(1,(Cc (.pl 21 0))),(3,(Cc (lo 22 s153.2.length))),(4,(Iv s104.1)),(5,(Iv s104.2.1)),(6,(Iv s153.1)),(14,(Iv (f.Places.length : Int))),(15,(Iv s104.2.2.1))] [(21,(.row 29 [[(iC f.Graph.Points),(xF encTBar f.Graph.Bars),(xF encTPlace f.Places)]])),(22,(.trow 37 23 (lensOf s153.2))),(23,(.pool 3 (rowsOf encInt s153.2)))] z7 z3 (Wr (mv (Cc (lo 22 s153.2.length)) Q Q Q Q (mv (Iv s104.1) Q Q Q Q (mv (Iv s104.2.1) Q Q Q Q (mv (Iv s153.1) Q Q Q Q (Os30 (LT.tbuildSlice (n := 26) (enc := encInt) [(0,.tmp 53,(.c (iC s104.1))),(1,.tmp 54,(.c (iC s104.2.1))),(2,.tmp 55,(.c (iC s153.1)))] ([s104.1,s104.2.1,s153.1] : List Int) Q Q und37 ti3 Q Q Q Q (by decide) (fun _ => Q) Q) Q Q Q Q Q (Os10 (LT.buildSlice (n := 27) (els := [[(lo 26 (([s104.1,s104.2.1,s153.1] : List Int).length))]]) [(0,.tmp 56,(.c (lo 26 (([s104.1,s104.2.1,s153.1] : List Int).length))))] Q Q und31 ti37 Q Q Q Q (by decide) Q Q) Q Q Q (Ob' fun u184 hu184 => (Os22 (LT.xapp Q Q Q und31 ti37 Q (by decide) (by decide) Q (lim_le hu184)) Q Q Q Q Q Q (asg (Cc (lo 22 (s153.2.length + 1))) Q Q Q Q (On ?_)))))))))))
          refine AWR.ent (Ent.tadopt (enc := encInt) (n := 22) (m := 26) (p := 23) (rows := s153.2) (r := ([s104.1,s104.2.1,s153.1] : List Int)) (rest := []) Q Q Q Q Q Q) (AWR.ent (Ent.trow (n := 22) (p := 23) (lens := lensOf (s153.2 ++ [([s104.1,s104.2.1,s153.1] : List Int)])) (List.append_nil _) Q) (AWR.nil ⟨Q,Ent.of ⟨Q,(congrArg (fun l1 => (some (AV.s (.c (lo 22 l1))) : Option AV)) (show (s153.2.length + 1) = (s153.2 ++ [([s104.1,s104.2.1,s153.1] : List Int)]).length from len_snoc)),Q,Q,Q,Q,Q,J⟩ z3⟩))
         ·refine AWR.skip (AWR.nil ⟨Q,Ent.of z7 z3⟩)
        ·refine AWR.blk (Wr ?_)
         refine mv (Iv s153.1) Q Q Q Q (Op20 (LT.add Q) Q y2 Q Q (asg (Iv (w64 (s153.1 + 1))) Q Q Q Q (On (AWR.nil ⟨Q,Ent.of z7 z3⟩))))
       ·refine AWR.exit_end Q ⟨Q,Ent.of z6 z3⟩
      ·refine AWR.blk (Wr ?_)
       refine mv (Iv b174.2.1) Q Q Q Q (Op20 (LT.add Q) Q y2 Q Q (asg (Iv (w64 (b174.2.1 + 1))) Q Q Q Q (On (AWR.nil ⟨Q,Ent.of z6 z3⟩))))
     ·refine AWR.exit_end Q ⟨Q,Ent.of z4 z3⟩
    ·refine AWR.blk (Wr ?_)
     refine Op20 (LT.add Q) Q y2 Q Q (mv (Iv (w64 (b151.1 + 1))) Q Q Q Q (On (AWR.nil ⟨Q,Ent.of z4 z3⟩)))
   ·refine AWR.exit_end Q ⟨Q,Ent.of z1 z2⟩
  ·refine Ws (Wr ?_)
   refine mv (Cc (lo 22 b102.length)) Q Q Q Q (asg (Cc (lo 22 b102.length)) Q Q Q Q (On (en [(2,(Cc (lo 22 b102.length)))] [(22,(.trow 37 23 (lensOf b102))),(23,(.pool 3 (rowsOf encInt b102)))] z1 z2 (AWR.ent (Ent.mv 22 0 Q Q) (AWR.ent (Ent.mv 23 1 Q Q) (en [(2,(Cc (lo 0 b102.length)))] [(0,(.trow 37 1 (lensOf b102))),(1,(.pool 3 (rowsOf encInt b102)))] z1 z2 (AWR.ret (FPost.mk (.inr Q) z1 z2 Q ⟨J,J⟩ ⟨J,PermO.poolR perm_encInt _,J⟩))))))))
theorem w_spec_l10On (p : TPlace) : ∀ t,m_spec_l10On p = some t → Fw.Fn Try.prog 199 [(.agg [(iC p.X),(iC p.Y)])] [] (.s (.c (bC t))) [] [] [] := by
 refine Fw.Fn.of (P := Try.prog) (X := []) (pn := []) (rs := (fun (t : Bool) => [(.c (bC t))])) (dfs := (fun (t : Bool) => [])) Try.func199 Q Try.ntmps199 (K Q) Q ?_
 intro w0 U0 R0 g0
 unfold m_spec_l10On
 refine Ws (Wr ?_)
 refine Os10 (LT.box (n := 21) (v := (.agg [(iC p.X),(iC p.Y)])) Q sz94 (by exact Q)) Q Q Q (asg (Bv false) Q y2 Q Q (On (Ws ?_)))
 refine AWR.joinK (fun j4 => ([(2,(Bv j4))],[])) ?_ (fun j4 _ => ?_)
 ·refine Wr (Op10 (LT.fieldPl Q fo94_0) Q Q Q (Op11 (LT.bload1 (c := (iC p.X)) Q ag3 (by exact Q)) Q Q Q Q (Ob' fun r5 hr5 => (AOR.pure (@LT.callF Try.prog _ _ 110 _ _ [(.c (iC p.X)),(.c (iC 0)),(.c (iC 4))] _ _ [] _ _ _ _ (w_spec_l1In p.X 0 4 r5 hr5) Q cb110 (.cons (.c (.same Q)) (.cons (.c (.same Q)) (.cons (.c (.same Q)) .nil))) Q Q J) ⟨Q,Q,y2,y2,J⟩ J Q Q (mv (Bv r5) Q Q Q Q (AOR.split (fun hb6 => ?_) (fun hb6 => ?_)))))))
  ·refine Op10 (LT.fieldPl Q fo94_1) Q (gH hb6 Q Q) Q (Op11 (LT.bload1 (c := (iC p.Y)) Q ag3 (by exact Q)) Q Q (gH hb6 Q Q) Q (Ob' fun r7 hr7 => (AOR.pure (@LT.callF Try.prog _ _ 110 _ _ [(.c (iC p.Y)),(.c (iC 0)),(.c (iC 4))] _ _ [] _ _ _ _ (w_spec_l1In p.Y 0 4 r7 hr7) Q cb110 (.cons (.c (.same Q)) (.cons (.c (.same Q)) (.cons (.c (.same Q)) .nil))) Q Q J) ⟨Q,Q,y2,y2,J⟩ J (gH hb6 Q Q) Q (Op20 (LT.pickT (v := (Bv r7)) Q hb6) Q Q Q Q (asg (Bv r7) Q Q Q Q (On (AWR.nil ⟨Q,Ent.of z1 J⟩)))))))
  ·refine Ok Q Q Q (by rw [hb6]; rfl) Q (Ok Q Q Q (by rw [hb6]; rfl) Q (Ok Q Q Q (by rw [hb6]; rfl) Q (Op20 (LT.pickF (v := (Bv false)) Q hb6) Q y2 Q Q (asg (Bv false) Q Q Q Q (On (AWR.nil ⟨Q,Ent.of z1 J⟩))))))
 ·refine AWR.ret (FPost.mk (.inr Q) z1 J Q ⟨PermP.sc,J⟩ J)
end Go.Proofs.Ytghofbijdnenoaa
end
section
set_option linter.unusedVariables false
set_option linter.unusedSimpArgs false
set_option linter.unnecessarySimpa false
set_option maxRecDepth 100000
set_option maxHeartbeats 8000000
open Go Go.Fw
namespace Go.Proofs.Ytghofbijdnenoaa
theorem w_spec_AreCollinear (a : TPlace) (b : TPlace) (c : TPlace) : ∀ t,m_spec_AreCollinear a b c = some t → Fw.Fn Try.prog 101 [(.agg [(iC a.X),(iC a.Y)]),(.agg [(iC b.X),(iC b.Y)]),(.agg [(iC c.X),(iC c.Y)])] [] (.s (.c (bC t))) [] [] [] := by
 refine Fw.Fn.of (P := Try.prog) (X := []) (pn := []) (rs := (fun (t : Bool) => [(.c (bC t))])) (dfs := (fun (t : Bool) => [])) Try.func101 Q Try.ntmps101 (K Q) Q ?_
 intro w0 U0 R0 g0
 unfold m_spec_AreCollinear
 refine Ws (Wr ?_)
 refine Os10 (LT.box (n := 21) (v := (.agg [(iC a.X),(iC a.Y)])) Q sz94 (by exact Q)) Q Q Q (Os10 (LT.box (n := 22) (v := (.agg [(iC b.X),(iC b.Y)])) Q sz94 (by exact Q)) Q Q Q (Os10 (LT.box (n := 23) (v := (.agg [(iC c.X),(iC c.Y)])) Q sz94 (by exact Q)) Q Q Q (asg (Bv false) Q y2 Q Q (On (Ws (Ws ?_))))))
 refine AWR.joinK (fun j6 => ([(3,(Cc (.pl 21 0))),(4,(Cc (.pl 22 0))),(5,(Cc (.pl 23 0))),(19,(Bv j6))],[(21,(.row 94 [[(iC a.X),(iC a.Y)]])),(22,(.row 94 [[(iC b.X),(iC b.Y)]])),(23,(.row 94 [[(iC c.X),(iC c.Y)]]))])) ?_ (fun j6 _ => ?_)
 ·refine Wr (Op11 (LT.bloadN (out := [(iC a.X),(iC a.Y)]) Q ag94 (infS inf94) sz94 (by exact Q) (by exact Q)) Q Q Q Q (Ob' fun r7 hr7 => (AOR.pure (@LT.callF Try.prog _ _ 199 _ _ [(.agg [(iC a.X),(iC a.Y)])] _ _ [] _ _ _ _ (w_spec_l10On a r7 hr7) Q cb199 (.cons (.agg (.cons (.same Q) (.cons (.same Q) .nil))) .nil) Q Q J) z2 J Q Q (Op10 (LT.not Q) Q Q Q (mv (Bv (!r7)) Q Q Q Q (AOR.split (fun hb8 => ?_) (fun hb8 => ?_)))))))
  ·refine Ok Q Q Q (by rw [hb8]; rfl) Q (Ok Q Q Q (by rw [hb8]; rfl) Q (Ok Q Q Q (by rw [hb8]; rfl) Q (Op20 (LT.pickT (v := (Bv true)) Q hb8) Q y2 Q Q (mv (Bv true) Q Q Q Q (Ok Q Q Q Q Q (Ok Q Q Q Q Q (Ok Q Q Q Q Q (Op20 (LT.pickT (v := (Bv true)) Q Q) Q y2 Q Q (On (AWR.nil ⟨Q,Ent.of z4 z3⟩))))))))))
  ·refine Op11 (LT.bloadN (out := [(iC b.X),(iC b.Y)]) Q ag94 (infS inf94) sz94 (by exact Q) (by exact Q)) Q Q (gH hb8 Q Q) Q (Ob' fun r9 hr9 => (AOR.pure (@LT.callF Try.prog _ _ 199 _ _ [(.agg [(iC b.X),(iC b.Y)])] _ _ [] _ _ _ _ (w_spec_l10On b r9 hr9) Q cb199 (.cons (.agg (.cons (.same Q) (.cons (.same Q) .nil))) .nil) Q Q J) z2 J (gH hb8 Q Q) Q (Op10 (LT.not Q) Q (gH hb8 Q Q) Q (Op20 (LT.pickF (v := (Bv (!r9))) Q hb8) Q Q Q Q (mv (Bv (!r9)) Q Q Q Q (AOR.split (fun hb10 => ?_) (fun hb10 => ?_)))))))
   ·refine Ok Q Q Q (by rw [hb10]; rfl) Q (Ok Q Q Q (by rw [hb10]; rfl) Q (Ok Q Q Q (by rw [hb10]; rfl) Q (Op20 (LT.pickT (v := (Bv true)) Q hb10) Q y2 Q Q (On (AWR.nil ⟨Q,Ent.of z4 z3⟩)))))
   ·refine Op11 (LT.bloadN (out := [(iC c.X),(iC c.Y)]) Q ag94 (infS inf94) sz94 (by exact Q) (by exact Q)) Q Q (gH hb10 Q Q) Q (Ob' fun r11 hr11 => (AOR.pure (@LT.callF Try.prog _ _ 199 _ _ [(.agg [(iC c.X),(iC c.Y)])] _ _ [] _ _ _ _ (w_spec_l10On c r11 hr11) Q cb199 (.cons (.agg (.cons (.same Q) (.cons (.same Q) .nil))) .nil) Q Q J) z2 J (gH hb10 Q Q) Q (Op10 (LT.not Q) Q (gH hb10 Q Q) Q (Op20 (LT.pickF (v := (Bv (!r11))) Q hb10) Q Q Q Q (On (AWR.nil ⟨Q,Ent.of z4 z3⟩))))))
 ·refine AWR.cond Q (fun hc12 => ?_) (fun hc12 => ?_)
  ·refine Ws (Wr ?_)
   refine asg (Bv false) Q y2 Q Q (On (AWR.ret (FPost.mk (.inr Q) z1 J Q ⟨PermP.sc,J⟩ J)))
  ·refine AWR.skip (Ws (Wr ?_))
   refine Op10 (LT.fieldPl Q fo94_0) Q Q Q (Op11 (LT.bload1 (c := (iC b.X)) Q ag3 (by exact Q)) Q Q Q Q (Op10 (LT.fieldPl Q fo94_0) Q Q Q (Op11 (LT.bload1 (c := (iC a.X)) Q ag3 (by exact Q)) Q Q Q Q (Op20 (LT.sub Q) Q Q Q Q (Op10 (LT.fieldPl Q fo94_1) Q Q Q (Op11 (LT.bload1 (c := (iC c.Y)) Q ag3 (by exact Q)) Q Q Q Q (Op10 (LT.fieldPl Q fo94_1) Q Q Q (Op11 (LT.bload1 (c := (iC a.Y)) Q ag3 (by exact Q)) Q Q Q Q (Op20 (LT.sub Q) Q Q Q Q (Op20 (LT.mul Q) Q Q Q Q (Op10 (LT.fieldPl Q fo94_1) Q Q Q ?_)))))))))))
   refine Op11 (LT.bload1 (c := (iC b.Y)) Q ag3 (by exact Q)) Q Q Q Q (Op10 (LT.fieldPl Q fo94_1) Q Q Q (Op11 (LT.bload1 (c := (iC a.Y)) Q ag3 (by exact Q)) Q Q Q Q (Op20 (LT.sub Q) Q Q Q Q (Op10 (LT.fieldPl Q fo94_0) Q Q Q (Op11 (LT.bload1 (c := (iC c.X)) Q ag3 (by exact Q)) Q Q Q Q (Op10 (LT.fieldPl Q fo94_0) Q Q Q (Op11 (LT.bload1 (c := (iC a.X)) Q ag3 (by exact Q)) Q Q Q Q (Op20 (LT.sub Q) Q Q Q Q (Op20 (LT.mul Q) Q Q Q Q (Op20 (LT.eql Q) Q Q Q Q (asg (Bv ((w64 ((w64 (b.X - a.X)) * (w64 (c.Y - a.Y)))) == (w64 ((w64 (b.Y - a.Y)) * (w64 (c.X - a.X)))))) Q Q Q Q ?_)))))))))))
   refine On (AWR.ret (FPost.mk (.inr Q) z1 J Q ⟨PermP.sc,J⟩ J))
theorem w_spec_FlatSets (f : TFramework) : ∀ t,m_spec_FlatSets f = some t → Fw.Fn Try.prog 53 [(.agg [(iC f.Graph.Points),(xF encTBar f.Graph.Bars),(xF encTPlace f.Places)])] [] (.s (.c (lo 0 t.length))) [(0,(pR 37 (encLInt true) t))] [] [0] := by
 refine Fw.Fn.ofU (P := Try.prog) (X := [0]) (pn := []) (rs := (fun (t : (List (List Int))) => [(.c (lo 0 t.length))])) (dfs := (fun (t : (List (List Int))) => [(0,(pR 37 (encLInt true) t))])) Try.func53 Q Try.ntmps53 (K Q) Q ?_
 intro w0 U0 R0 g0 hU
 unfold m_spec_FlatSets
 refine Ws (Wr ?_)
 refine Os10 (LT.box (n := 21) (v := (.agg [(iC f.Graph.Points),(xF encTBar f.Graph.Bars),(xF encTPlace f.Places)])) Q sz29 (by exact Q)) Q Q Q (asg (Cc (sC nilV)) Q y2 Q Q (On (Ws (Wr ?_))))
 refine Os00 (LT.tbuildSlice (n := 22) (enc := (encLInt true)) [] ([] : List (List Int)) Q Q und31 ti37 Q Q Q Q (by decide) (fun _ => Q) Q) Q Q (asg (Cc (lo 22 (([] : List (List Int)).length))) Q Q Q Q (On (Ws (Ws (Wr ?_)))))
 refine asg (Iv 0) Q y2 Q Q (On (AWR.block ?_))
 refine AWR.loop1 (id := 0) (m_spec_FlatSets_L7 f) (fun s1 => ([(1,(Cc (.pl 21 0))),(3,(Cc (lo 22 s1.2.length))),(4,(Iv s1.1))],[(21,(.row 29 [[(iC f.Graph.Points),(xF encTBar f.Graph.Bars),(xF encTPlace f.Places)]])),(22,(pR 37 (encLInt true) s1.2))])) (fun b110 => ([(3,(Cc (lo 22 b110.length)))],[(22,(pR 37 (encLInt true) b110))])) ?_ (Ent.of z3 z2) Q (fun b110 _ => ?_)
 ·intro s1
  unfold m_spec_FlatSets_L7
  refine Ws (Ws ?_)
  refine AWR.joinK (fun j113 => ([(1,(Cc (.pl 21 0))),(3,(Cc (lo 22 s1.2.length))),(4,(Iv s1.1)),(16,(Bv j113))],[(21,(.row 29 [[(iC f.Graph.Points),(xF encTBar f.Graph.Bars),(xF encTPlace f.Places)]])),(22,(pR 37 (encLInt true) s1.2))])) ?_ (fun j113 _ => ?_)
  ·refine Wr (mv (Iv s1.1) Q Q Q Q (Op10 (LT.fieldPl Q fo29_1) Q Q Q (Op11 (LT.bload1 (c := (xF encTPlace f.Places)) Q ag27 (by exact Q)) Q Q Q Q (Op10 (LT.tlenRO Q und27) Q Q Q (Op20 (LT.lss Q) Q Q Q Q (mv (Bv (decide (s1.1 < (f.Places.length : Int)))) Q Q Q Q (AOR.split (fun hb114 => ?_) (fun hb114 => ?_))))))))
   ·refine Op11 (LT.bloadN (out := [(iC f.Graph.Points),(xF encTBar f.Graph.Bars),(xF encTPlace f.Places)]) Q ag29 (infS inf29) sz29 (by exact Q) (by exact Q)) Q Q (gH hb114 Q Q) Q (Ob' fun r115 hr115 => (AOR.pure (@LT.callF Try.prog _ _ 15 _ _ [(.agg [(iC f.Graph.Points),(xF encTBar f.Graph.Bars),(xF encTPlace f.Places)])] _ _ [] _ _ _ _ (w_spec_IsFramework f r115 hr115) Q cb15 (.cons (.agg (.cons (.same Q) (.cons (.same Q) (.cons (.same Q) .nil)))) .nil) Q Q J) z2 J (gH hb114 Q Q) Q (Op20 (LT.pickT (v := (Bv r115)) Q hb114) Q Q Q Q (On (AWR.nil ⟨Q,Ent.of z4 z2⟩)))))
   ·refine Ok Q Q Q (by rw [hb114]; rfl) Q (Ok Q Q Q (by rw [hb114]; rfl) Q (Op20 (LT.pickF (v := (Bv false)) Q hb114) Q y2 Q Q (On (AWR.nil ⟨Q,Ent.of z4 z2⟩))))
  ·refine AWR.cond Q (fun hc116 => ?_) (fun hc116 => ?_)
   ·refine AWR.skip (Ws (AWR.block (Ws (Wr ?_))))
    refine mv (Iv s1.1) Q Q Q Q (Op20 (LT.add Q) Q y2 Q Q (asg (Iv (w64 (s1.1 + 1))) Q Q Q Q (On (AWR.block ?_))))
    refine AWR.loop1 (id := 2) (m_spec_FlatSets_L10 f) (fun s117 => ([(1,(Cc (.pl 21 0))),(3,(Cc (lo 22 s117.2.2.length))),(4,(Iv s117.1)),(5,(Iv s117.2.1))],[(21,(.row 29 [[(iC f.Graph.Points),(xF encTBar f.Graph.Bars),(xF encTPlace f.Places)]])),(22,(pR 37 (encLInt true) s117.2.2))])) (fun b164 => ([(1,(Cc (.pl 21 0))),(3,(Cc (lo 22 b164.2.length))),(4,(Iv b164.1))],[(21,(.row 29 [[(iC f.Graph.Points),(xF encTBar f.Graph.Bars),(xF encTPlace f.Places)]])),(22,(pR 37 (encLInt true) b164.2))])) ?_ (Ent.of z4 z2) Q (fun b164 _ => ?_)
    ·intro s117
     unfold m_spec_FlatSets_L10
     refine Ws (Ws (Wr ?_))
     refine mv (Iv s117.2.1) Q Q Q Q (Op10 (LT.fieldPl Q fo29_1) Q Q Q (Op11 (LT.bload1 (c := (xF encTPlace f.Places)) Q ag27 (by exact Q)) Q Q Q Q (Op10 (LT.tlenRO Q und27) Q Q Q (Op20 (LT.lss Q) Q Q Q Q (On (AWR.cond Q (fun hc165 => ?_) (fun hc165 => ?_)))))))
     ·refine AWR.skip (Ws (AWR.block (Ws (Wr ?_))))
      refine mv (Iv s117.2.1) Q Q Q Q (Op20 (LT.add Q) Q y2 Q Q (asg (Iv (w64 (s117.2.1 + 1))) Q Q Q Q (On (AWR.block ?_))))
      refine AWR.loop1 (id := 4) (m_spec_FlatSets_L11 f s117) (fun s166 => ([(1,(Cc (.pl 21 0))),(3,(Cc (lo 22 s166.2.length))),(4,(Iv s117.1)),(5,(Iv s117.2.1)),(6,(Iv s166.1))],[(21,(.row 29 [[(iC f.Graph.Points),(xF encTBar f.Graph.Bars),(xF encTPlace f.Places)]])),(22,(pR 37 (encLInt true) s166.2))])) (fun b187 => ([(1,(Cc (.pl 21 0))),(3,(Cc (lo 22 b187.2.2.length))),(4,(Iv b187.1)),(5,(Iv b187.2.1))],[(21,(.row 29 [[(iC f.Graph.Points),(xF encTBar f.Graph.Bars),(xF encTPlace f.Places)]])),(22,(pR 37 (encLInt true) b187.2.2))])) ?_ (Ent.of z5 z2) Q (fun b187 _ => ?_)
      ·intro s166
       unfold m_spec_FlatSets_L11
       refine Ws (Ws (Wr ?_))
       refine mv (Iv s166.1) Q Q Q Q (Op10 (LT.fieldPl Q fo29_1) Q Q Q (Op11 (LT.bload1 (c := (xF encTPlace f.Places)) Q ag27 (by exact Q)) Q Q Q Q (Op10 (LT.tlenRO Q und27) Q Q Q (Op20 (LT.lss Q) Q Q Q Q (On (AWR.cond Q (fun hc188 => ?_) (fun hc188 => ?_)))))))
       ·refine AWR.skip (Ws (AWR.block (Ws (AWR.draw mixed ?_))))
        refine Dp10 (LT.fieldPl Q fo29_1) Q Q Q (Dp11 (LT.bload1 (c := (xF encTPlace f.Places)) Q ag27 (by exact Q)) Q Q Q Q (Dp10 (LT.move (v := (Iv s117.1)) Q) Q Q Q (AOD.bind fun x189 hx189 => (Dp20 (LT.tindexRO (enc := encTPlace) Q el27 hx189 sz94) Q Q Q Q (Dp10 (LT.loadPxN Q ag94 (infS inf94) (by exact sz94.symm)) Q Q Q (Dp10 (LT.fieldPl Q fo29_1) Q Q Q (Dp11 (LT.bload1 (c := (xF encTPlace f.Places)) Q ag27 (by exact Q)) Q Q Q Q (Dp10 (LT.move (v := (Iv s117.2.1)) Q) Q Q Q (AOD.bind fun x190 hx190 => (Dp20 (LT.tindexRO (enc := encTPlace) Q el27 hx190 sz94) Q Q Q Q (Dp10 (LT.loadPxN Q ag94 (infS inf94) (by exact sz94.symm)) Q Q Q ?_)))))))))))
        refine Dp10 (LT.fieldPl Q fo29_1) Q Q Q (Dp11 (LT.bload1 (c := (xF encTPlace f.Places)) Q ag27 (by exact Q)) Q Q Q Q (Dp10 (LT.move (v := (Iv s166.1)) Q) Q Q Q (AOD.bind fun x191 hx191 => (Dp20 (LT.tindexRO (enc := encTPlace) Q el27 hx191 sz94) Q Q Q Q (Dp10 (LT.loadPxN Q ag94 (infS inf94) (by exact sz94.symm)) Q Q Q (AOD.bind fun r192 hr192 => (AOD.pure (@LT.callF Try.prog _ _ 101 _ _ [(.agg [(iC x189.X),(iC x189.Y)]),(.agg [(iC x190.X),(iC x190.Y)]),(.agg [(iC x191.X),(iC x191.Y)])] _ _ [] _ _ _ _ (w_spec_AreCollinear x189 x190 x191 r192 hr192) Q cb101 (.cons (.agg (.cons (.same Q) (.cons (.same Q) .nil))) (.cons (.agg (.cons (.same Q) (.cons (.same Q) .nil))) (.cons (.agg (.cons (.same Q) (.cons (.same Q) .nil))) .nil))) Q Q J) z4 J Q Q (AOD.nil (by kernel_rfl) (AWR.joinK (fun j195 => ([(1,(Cc (.pl 21 0))),(3,(Cc (lo 22 j195.length))),(4,(Iv s117.1)),(5,(Iv s117.2.1)),(6,(Iv s166.1))],[(21,(.row 29 [[(iC f.Graph.Points),(xF encTBar f.Graph.Bars),(xF encTPlace f.Places)]])),(22,(pR 37 (encLInt true) j195))])) ?_ (fun j195 _ => ?_))))))))))
        ·refine AWR.cond Q (fun hc196 => ?_) (fun hc196 => ?_)
         ·refine en [(1,(Cc (.pl 21 0))),(3,(Cc (lo 22 s166.2.length))),(4,(Iv s117.1)),(5,(Iv s117.2.1)),(6,(Iv s166.1))] [(21,(.row 29 [[(iC f.Graph.Points),(xF encTBar f.Graph.Bars),(xF encTPlace f.Places)]])),(22,(pR 37 (encLInt true) s166.2))] z5 z2 (Wr (mv (Cc (lo 22 s166.2.length)) Q Q Q Q (mv (Iv s117.1) Q Q Q Q (mv (Iv s117.2.1) Q Q Q Q (mv (Iv s166.1) Q Q Q Q (Os30 (LT.tbuildSlice (n := 25) (enc := encInt) [(0,.tmp 54,(.c (iC s117.1))),(1,.tmp 55,(.c (iC s117.2.1))),(2,.tmp 56,(.c (iC s166.1)))] ([s117.1,s117.2.1,s166.1] : List Int) Q Q und37 ti3 Q Q Q Q (by decide) (fun _ => Q) Q) Q Q Q Q Q (AOR.ent (Ent.freezeS (enc := encInt) 57 25 hU Q Q Q Q) (Os10 (LT.tbuildSlice (n := 26) (enc := (encLInt true)) [(0,.tmp 57,(.c (xT encInt ([s117.1,s117.2.1,s166.1] : List Int))))] [([s117.1,s117.2.1,s166.1] : List Int)] Q Q und31 ti37 Q Q Q Q (by decide) (fun _ => Q) Q) Q Q Q (Ob' fun u197 hu197 => (Os22 (LT.tappP (enc := (encLInt true)) Q Q Q und31 ti37 Q (by decide) (by decide) (fun _ => Q) (lim_le hu197)) Q Q Q Q Q Q (asg (Cc (lo 22 ((s166.2 ++ [([s117.1,s117.2.1,s166.1] : List Int)]).length))) Q Q Q Q ?_)))))))))))
          refine On (AWR.nil ⟨Q,Ent.of z5 z2⟩)
         ·refine AWR.skip (AWR.nil ⟨Q,Ent.of z5 z2⟩)
        ·refine AWR.blk (Wr ?_)
         refine mv (Iv s166.1) Q Q Q Q (Op20 (LT.add Q) Q y2 Q Q (asg (Iv (w64 (s166.1 + 1))) Q Q Q Q (On (AWR.nil ⟨Q,Ent.of z5 z2⟩))))
       ·refine AWR.exit_end Q ⟨Q,Ent.of z4 z2⟩
      ·refine AWR.blk (Wr ?_)
       refine mv (Iv b187.2.1) Q Q Q Q (Op20 (LT.add Q) Q y2 Q Q (asg (Iv (w64 (b187.2.1 + 1))) Q Q Q Q (On (AWR.nil ⟨Q,Ent.of z4 z2⟩))))
     ·refine AWR.exit_end Q ⟨Q,Ent.of z3 z2⟩
    ·refine AWR.blk (Wr ?_)
     refine mv (Iv b164.1) Q Q Q Q (Op20 (LT.add Q) Q y2 Q Q (asg (Iv (w64 (b164.1 + 1))) Q Q Q Q (On (AWR.nil ⟨Q,Ent.of z3 z2⟩))))
   ·refine AWR.exit_end Q ⟨Q,Ent.of z1 z1⟩
 ·refine Ws (Wr ?_)
  refine mv (Cc (lo 22 b110.length)) Q Q Q Q (asg (Cc (lo 22 b110.length)) Q Q Q Q (On (en [(2,(Cc (lo 22 b110.length)))] [(22,(pR 37 (encLInt true) b110))] z1 z1 (AWR.ent (Ent.mv 22 0 Q Q) (en [(2,(Cc (lo 0 b110.length)))] [(0,(pR 37 (encLInt true) b110))] z1 z1 (AWR.ret (FPost.mk (.inr Q) z1 z1 Q ⟨J,J⟩ ⟨PermO.prow' perm_encLInt,J⟩)))))))
theorem w_spec_CountBar (g : TGraph) (a : Int) (b : Int) : ∀ t,m_spec_CountBar g a b = some t → Fw.Fn Try.prog 140 [(.agg [(iC g.Points),(xF encTBar g.Bars)]),(.c (iC a)),(.c (iC b))] [] (.s (.c (iC t))) [] [] [] := by
 refine Fw.Fn.of (P := Try.prog) (X := []) (pn := []) (rs := (fun (t : Int) => [(.c (iC t))])) (dfs := (fun (t : Int) => [])) Try.func140 Q Try.ntmps140 (K Q) Q ?_
 intro w0 U0 R0 g0
 unfold m_spec_CountBar
 refine Ws (Wr ?_)
 refine Os10 (LT.box (n := 21) (v := (.agg [(iC g.Points),(xF encTBar g.Bars)])) Q sz26 (by exact Q)) Q Q Q (asg (Iv 0) Q y2 Q Q (On (Ws (Wr ?_))))
 refine asg (Iv 0) Q y2 Q Q (On (Ws (Ws (Wr ?_))))
 refine asg (Iv 0) Q y2 Q Q (On (AWR.block ?_))
 refine AWR.loop1 (id := 0) (m_spec_CountBar_L1 g a b) (fun s1 => ([(1,(Iv a)),(2,(Iv b)),(3,(Cc (.pl 21 0))),(7,(Iv s1.1)),(8,(Iv s1.2))],[(21,(.row 26 [[(iC g.Points),(xF encTBar g.Bars)]]))])) (fun b52 => ([(7,(Iv b52))],[])) ?_ (Ent.of z5 z1) Q (fun b52 _ => ?_)
 ·intro s1
  unfold m_spec_CountBar_L1
  refine Ws (Ws (Wr ?_))
  refine mv (Iv s1.2) Q Q Q Q (Op10 (LT.fieldPl Q fo26_1) Q Q Q (Op11 (LT.bload1 (c := (xF encTBar g.Bars)) Q ag24 (by exact Q)) Q Q Q Q (Op10 (LT.tlenRO Q und24) Q Q Q (Op20 (LT.lss Q) Q Q Q Q (On (AWR.cond Q (fun hc53 => ?_) (fun hc53 => ?_)))))))
  ·refine AWR.skip (Ws (AWR.block (Ws ?_)))
   refine AWR.joinK (fun j64 => ([(1,(Iv a)),(2,(Iv b)),(3,(Cc (.pl 21 0))),(7,(Iv s1.1)),(8,(Iv s1.2)),(53,(Bv j64))],[(21,(.row 26 [[(iC g.Points),(xF encTBar g.Bars)]]))])) ?_ (fun j64 _ => ?_)
   ·refine Wr (Op10 (LT.fieldPl Q fo26_1) Q Q Q (Op11 (LT.bload1 (c := (xF encTBar g.Bars)) Q ag24 (by exact Q)) Q Q Q Q (mv (Iv s1.2) Q Q Q Q (Ob' fun x65 hx65 => (Op20 (LT.tindexRO (enc := encTBar) Q el24 hx65 sz62) Q Q Q Q (Op10 (LT.fieldPx Q fo62_0) Q Q Q (Op10 (LT.loadPx1 Q ag3) Q Q Q (mv (Iv a) Q Q Q Q (Op20 (LT.eql Q) Q Q Q Q (mv (Bv (x65.A == a)) Q Q Q Q (AOR.split (fun hb66 => ?_) (fun hb66 => ?_))))))))))))
    ·refine Op10 (LT.fieldPl Q fo26_1) Q (gH hb66 Q Q) Q (Op11 (LT.bload1 (c := (xF encTBar g.Bars)) Q ag24 (by exact Q)) Q Q (gH hb66 Q Q) Q (mv (Iv s1.2) Q Q (gH hb66 Q Q) Q (Ob' fun x67 hx67 => (Op20 (LT.tindexRO (enc := encTBar) Q el24 hx67 sz62) Q Q (gH hb66 Q Q) Q (Op10 (LT.fieldPx Q fo62_1) Q (gH hb66 Q Q) Q (Op10 (LT.loadPx1 Q ag3) Q (gH hb66 Q Q) Q (mv (Iv b) Q Q (gH hb66 Q Q) Q (Op20 (LT.eql Q) Q Q (gH hb66 Q Q) Q (Op20 (LT.pickT (v := (Bv (x67.B == b))) Q hb66) Q Q Q Q (mv (Bv (x67.B == b)) Q Q Q Q (AOR.split (fun hb68 => ?_) (fun hb68 => ?_))))))))))))
     ·refine Ok Q Q Q (by rw [hb68]; rfl) Q (Ok Q Q Q (by rw [hb68]; rfl) Q (Ok Q Q Q (by rw [hb68]; rfl) Q (Ok Q Q Q (by rw [hb68]; rfl) Q (Ok Q Q Q (by rw [hb68]; rfl) Q (Ok Q Q Q (by rw [hb68]; rfl) Q (Ok Q Q Q (by rw [hb68]; rfl) Q (Ok Q Q Q (by rw [hb68]; rfl) Q (Ok Q Q Q (by rw [hb68]; rfl) Q (Oj Q Q Q Q (Oj Q Q Q Q (Oj Q Q Q Q ?_)))))))))))
      refine Oj Q Q Q Q (Oj Q Q Q Q (Oj Q Q Q Q (Oj Q Q Q Q (Oj Q Q Q Q (Ok Q Q Q (by rw [hb68]; rfl) Q (Op20 (LT.pickT (v := (Bv true)) Q hb68) Q y2 Q Q (On (AWR.nil ⟨Q,Ent.of z6 z1⟩))))))))
     ·refine Op10 (LT.fieldPl Q fo26_1) Q (gH hb68 Q Q) Q (Op11 (LT.bload1 (c := (xF encTBar g.Bars)) Q ag24 (by exact Q)) Q Q (gH hb68 Q Q) Q (mv (Iv s1.2) Q Q (gH hb68 Q Q) Q (Ob' fun x69 hx69 => (Op20 (LT.tindexRO (enc := encTBar) Q el24 hx69 sz62) Q Q (gH hb68 Q Q) Q (Op10 (LT.fieldPx Q fo62_0) Q (gH hb68 Q Q) Q (Op10 (LT.loadPx1 Q ag3) Q (gH hb68 Q Q) Q (mv (Iv b) Q Q (gH hb68 Q Q) Q (Op20 (LT.eql Q) Q Q (gH hb68 Q Q) Q (mv (Bv (x69.A == b)) Q Q (gH hb68 Q Q) Q (AOR.split (fun hb70 => ?_) (fun hb70 => ?_)))))))))))
      ·refine Op10 (LT.fieldPl Q fo26_1) Q (gH hb70 Q Q) Q (Op11 (LT.bload1 (c := (xF encTBar g.Bars)) Q ag24 (by exact Q)) Q Q (gH hb70 Q Q) Q (mv (Iv s1.2) Q Q (gH hb70 Q Q) Q (Ob' fun x71 hx71 => (Op20 (LT.tindexRO (enc := encTBar) Q el24 hx71 sz62) Q Q (gH hb70 Q Q) Q (Op10 (LT.fieldPx Q fo62_1) Q (gH hb70 Q Q) Q (Op10 (LT.loadPx1 Q ag3) Q (gH hb70 Q Q) Q (mv (Iv a) Q Q (gH hb70 Q Q) Q (Op20 (LT.eql Q) Q Q (gH hb70 Q Q) Q (Op20 (LT.pickT (v := (Bv (x71.B == a))) Q hb70) Q Q (gH hb68 Q Q) Q (Op20 (LT.pickF (v := (Bv (x71.B == a))) Q hb68) Q Q Q Q (On ?_)))))))))))
       refine AWR.nil ⟨Q,Ent.of z6 z1⟩
      ·refine Ok Q Q Q (by rw [hb70]; rfl) Q (Ok Q Q Q (by rw [hb70]; rfl) Q (Ok Q Q Q (by rw [hb70]; rfl) Q (Ok Q Q Q (by rw [hb70]; rfl) Q (Ok Q Q Q (by rw [hb70]; rfl) Q (Ok Q Q Q (by rw [hb70]; rfl) Q (Ok Q Q Q (by rw [hb70]; rfl) Q (Ok Q Q Q (by rw [hb70]; rfl) Q (Op20 (LT.pickF (v := (Bv false)) Q hb70) Q y2 (gH hb68 Q Q) Q (Op20 (LT.pickF (v := (Bv false)) Q hb68) Q Q Q Q (On (AWR.nil ⟨Q,Ent.of z6 z1⟩)))))))))))
    ·refine Ok Q Q Q (by rw [hb66]; rfl) Q (Ok Q Q Q (by rw [hb66]; rfl) Q (Ok Q Q Q (by rw [hb66]; rfl) Q (Ok Q Q Q (by rw [hb66]; rfl) Q (Ok Q Q Q (by rw [hb66]; rfl) Q (Ok Q Q Q (by rw [hb66]; rfl) Q (Ok Q Q Q (by rw [hb66]; rfl) Q (Ok Q Q Q (by rw [hb66]; rfl) Q (Op20 (LT.pickF (v := (Bv false)) Q hb66) Q y2 Q Q (mv (Bv false) Q Q Q Q (Op10 (LT.fieldPl Q fo26_1) Q (gS Q Q) Q (Op11 (LT.bload1 (c := (xF encTBar g.Bars)) Q ag24 (by exact Q)) Q Q (gS Q Q) Q ?_)))))))))))
     refine mv (Iv s1.2) Q Q (gS Q Q) Q (Ob' fun x72 hx72 => (Op20 (LT.tindexRO (enc := encTBar) Q el24 hx72 sz62) Q Q (gS Q Q) Q (Op10 (LT.fieldPx Q fo62_0) Q (gS Q Q) Q (Op10 (LT.loadPx1 Q ag3) Q (gS Q Q) Q (mv (Iv b) Q Q (gS Q Q) Q (Op20 (LT.eql Q) Q Q (gS Q Q) Q (mv (Bv (x72.A == b)) Q Q (gS Q Q) Q (AOR.split (fun hb73 => ?_) (fun hb73 => ?_)))))))))
     ·refine Op10 (LT.fieldPl Q fo26_1) Q (gH hb73 Q Q) Q (Op11 (LT.bload1 (c := (xF encTBar g.Bars)) Q ag24 (by exact Q)) Q Q (gH hb73 Q Q) Q (mv (Iv s1.2) Q Q (gH hb73 Q Q) Q (Ob' fun x74 hx74 => (Op20 (LT.tindexRO (enc := encTBar) Q el24 hx74 sz62) Q Q (gH hb73 Q Q) Q (Op10 (LT.fieldPx Q fo62_1) Q (gH hb73 Q Q) Q (Op10 (LT.loadPx1 Q ag3) Q (gH hb73 Q Q) Q (mv (Iv a) Q Q (gH hb73 Q Q) Q (Op20 (LT.eql Q) Q Q (gH hb73 Q Q) Q (Op20 (LT.pickT (v := (Bv (x74.B == a))) Q hb73) Q Q (gS Q Q) Q (Op20 (LT.pickF (v := (Bv (x74.B == a))) Q Q) Q Q Q Q (On ?_)))))))))))
      refine AWR.nil ⟨Q,Ent.of z6 z1⟩
     ·refine Ok Q Q Q (by rw [hb73]; rfl) Q (Ok Q Q Q (by rw [hb73]; rfl) Q (Ok Q Q Q (by rw [hb73]; rfl) Q (Ok Q Q Q (by rw [hb73]; rfl) Q (Ok Q Q Q (by rw [hb73]; rfl) Q (Ok Q Q Q (by rw [hb73]; rfl) Q (Ok Q Q Q (by rw [hb73]; rfl) Q (Ok Q Q Q (by rw [hb73]; rfl) Q (Op20 (LT.pickF (v := (Bv false)) Q hb73) Q y2 (gS Q Q) Q (Op20 (LT.pickF (v := (Bv false)) Q Q) Q Q Q Q (On (AWR.nil ⟨Q,Ent.of z6 z1⟩)))))))))))
   ·refine AWR.joinK (fun j76 => ([(1,(Iv a)),(2,(Iv b)),(3,(Cc (.pl 21 0))),(7,(Iv j76)),(8,(Iv s1.2))],[(21,(.row 26 [[(iC g.Points),(xF encTBar g.Bars)]]))])) ?_ (fun j76 _ => ?_)
    ·refine AWR.cond Q (fun hc77 => ?_) (fun hc77 => ?_)
     ·refine Wr (mv (Iv s1.1) Q Q Q Q (Op20 (LT.add Q) Q y2 Q Q (asg (Iv (w64 (s1.1 + 1))) Q Q Q Q (On (AWR.nil ⟨Q,Ent.of z5 z1⟩)))))
     ·refine AWR.skip (AWR.nil ⟨Q,Ent.of z5 z1⟩)
    ·refine AWR.blk (Wr ?_)
     refine mv (Iv s1.2) Q Q Q Q (Op20 (LT.add Q) Q y2 Q Q (asg (Iv (w64 (s1.2 + 1))) Q Q Q Q (On (AWR.nil ⟨Q,Ent.of z5 z1⟩))))
  ·refine AWR.exit_end Q ⟨Q,Ent.of z1 J⟩
 ·refine Ws (Wr ?_)
  refine mv (Iv b52) Q Q Q Q (asg (Iv b52) Q Q Q Q (On (AWR.ret (FPost.mk (.inr Q) z1 J Q ⟨PermP.sc,J⟩ J))))
theorem w_spec_MissingBars (g : TGraph) : ∀ t,m_spec_MissingBars g = some t → Fw.Fn Try.prog 54 [(.agg [(iC g.Points),(xF encTBar g.Bars)])] [] (.s (.c (lo 0 t.length))) [(0,(pR 62 encTBar t))] [] [0] := by
 refine Fw.Fn.of (P := Try.prog) (X := [0]) (pn := []) (rs := (fun (t : (List TBar)) => [(.c (lo 0 t.length))])) (dfs := (fun (t : (List TBar)) => [(0,(pR 62 encTBar t))])) Try.func54 Q Try.ntmps54 (K Q) Q ?_
 intro w0 U0 R0 g0
 unfold m_spec_MissingBars
 refine Ws (Wr ?_)
 refine Os10 (LT.box (n := 21) (v := (.agg [(iC g.Points),(xF encTBar g.Bars)])) Q sz26 (by exact Q)) Q Q Q (asg (Cc (sC nilV)) Q y2 Q Q (On (Ws (Wr ?_))))
 refine Os00 (LT.tbuildSlice (n := 22) (enc := encTBar) [] ([] : List TBar) Q Q und24 ti62 Q Q Q Q (by decide) (fun _ => Q) Q) Q Q (asg (Cc (lo 22 (([] : List TBar).length))) Q Q Q Q (On (Ws (Ws (Wr ?_)))))
 refine asg (Iv 0) Q y2 Q Q (On (AWR.block ?_))
 refine AWR.loop1 (id := 0) (m_spec_MissingBars_L3 g) (fun s1 => ([(1,(Cc (.pl 21 0))),(3,(Cc (lo 22 s1.2.length))),(4,(Iv s1.1))],[(21,(.row 26 [[(iC g.Points),(xF encTBar g.Bars)]])),(22,(pR 62 encTBar s1.2))])) (fun b46 => ([(3,(Cc (lo 22 b46.length)))],[(22,(pR 62 encTBar b46))])) ?_ (Ent.of z3 z2) Q (fun b46 _ => ?_)
 ·intro s1
  unfold m_spec_MissingBars_L3
  refine Ws (Ws ?_)
  refine AWR.joinK (fun j49 => ([(1,(Cc (.pl 21 0))),(3,(Cc (lo 22 s1.2.length))),(4,(Iv s1.1)),(14,(Bv j49))],[(21,(.row 26 [[(iC g.Points),(xF encTBar g.Bars)]])),(22,(pR 62 encTBar s1.2))])) ?_ (fun j49 _ => ?_)
  ·refine Wr (mv (Iv s1.1) Q Q Q Q (Op10 (LT.fieldPl Q fo26_0) Q Q Q (Op11 (LT.bload1 (c := (iC g.Points)) Q ag3 (by exact Q)) Q Q Q Q (Op20 (LT.lss Q) Q Q Q Q (mv (Bv (decide (s1.1 < g.Points))) Q Q Q Q (AOR.split (fun hb50 => ?_) (fun hb50 => ?_)))))))
   ·refine Op11 (LT.bloadN (out := [(iC g.Points),(xF encTBar g.Bars)]) Q ag26 (infS inf26) sz26 (by exact Q) (by exact Q)) Q Q (gH hb50 Q Q) Q (Ob' fun r51 hr51 => (AOR.pure (@LT.callF Try.prog _ _ 109 _ _ [(.agg [(iC g.Points),(xF encTBar g.Bars)])] _ _ [] _ _ _ _ (w_spec_IsGraph g r51 hr51) Q cb109 (.cons (.agg (.cons (.same Q) (.cons (.same Q) .nil))) .nil) Q Q J) z2 J (gH hb50 Q Q) Q (Op20 (LT.pickT (v := (Bv r51)) Q hb50) Q Q Q Q (On (AWR.nil ⟨Q,Ent.of z4 z2⟩)))))
   ·refine Ok Q Q Q (by rw [hb50]; rfl) Q (Ok Q Q Q (by rw [hb50]; rfl) Q (Op20 (LT.pickF (v := (Bv false)) Q hb50) Q y2 Q Q (On (AWR.nil ⟨Q,Ent.of z4 z2⟩))))
  ·refine AWR.cond Q (fun hc52 => ?_) (fun hc52 => ?_)
   ·refine AWR.skip (Ws (AWR.block (Ws (Wr ?_))))
    refine mv (Iv s1.1) Q Q Q Q (Op20 (LT.add Q) Q y2 Q Q (asg (Iv (w64 (s1.1 + 1))) Q Q Q Q (On (AWR.block ?_))))
    refine AWR.loop1 (id := 2) (m_spec_MissingBars_L4 g s1) (fun s53 => ([(1,(Cc (.pl 21 0))),(3,(Cc (lo 22 s53.2.length))),(4,(Iv s1.1)),(5,(Iv s53.1))],[(21,(.row 26 [[(iC g.Points),(xF encTBar g.Bars)]])),(22,(pR 62 encTBar s53.2))])) (fun b68 => ([(1,(Cc (.pl 21 0))),(3,(Cc (lo 22 b68.2.length))),(4,(Iv b68.1))],[(21,(.row 26 [[(iC g.Points),(xF encTBar g.Bars)]])),(22,(pR 62 encTBar b68.2))])) ?_ (Ent.of z4 z2) Q (fun b68 _ => ?_)
    ·intro s53
     unfold m_spec_MissingBars_L4
     refine Ws (Ws (Wr ?_))
     refine mv (Iv s53.1) Q Q Q Q (Op10 (LT.fieldPl Q fo26_0) Q Q Q (Op11 (LT.bload1 (c := (iC g.Points)) Q ag3 (by exact Q)) Q Q Q Q (Op20 (LT.lss Q) Q Q Q Q (On (AWR.cond Q (fun hc69 => ?_) (fun hc69 => ?_))))))
     ·refine AWR.skip (Ws (AWR.block (Ws (Wr ?_))))
      refine Op11 (LT.bloadN (out := [(iC g.Points),(xF encTBar g.Bars)]) Q ag26 (infS inf26) sz26 (by exact Q) (by exact Q)) Q Q Q Q (mv (Iv s1.1) Q Q Q Q (mv (Iv s53.1) Q Q Q Q (Ob' fun r70 hr70 => (AOR.pure (@LT.callF Try.prog _ _ 140 _ _ [(.agg [(iC g.Points),(xF encTBar g.Bars)]),(.c (iC s1.1)),(.c (iC s53.1))] _ _ [] _ _ _ _ (w_spec_CountBar g s1.1 s53.1 r70 hr70) Q cb140 (.cons (.agg (.cons (.same Q) (.cons (.same Q) .nil))) (.cons (.c (.same Q)) (.cons (.c (.same Q)) .nil))) Q Q J) z4 J Q Q (Op20 (LT.eql Q) Q y2 Q Q (On (AWR.joinK (fun j73 => ([(1,(Cc (.pl 21 0))),(3,(Cc (lo 22 j73.length))),(4,(Iv s1.1)),(5,(Iv s53.1))],[(21,(.row 26 [[(iC g.Points),(xF encTBar g.Bars)]])),(22,(pR 62 encTBar j73))])) ?_ (fun j73 _ => ?_))))))))
      ·refine AWR.cond Q (fun hc74 => ?_) (fun hc74 => ?_)
       ·refine Wr (mv (Cc (lo 22 s53.2.length)) Q Q Q Q (mv (Iv s1.1) Q Q Q Q (mv (Iv s53.1) Q Q Q Q (Op20 (LT.build [(0,.tmp 31,(.c (iC s1.1))),(1,.tmp 32,(.c (iC s53.1)))] Q Q pl62 ti62 Q Q Q) Q Q Q Q (Os10 (LT.tbuildSlice (n := 25) (enc := encTBar) [(0,.tmp 33,(.agg [(iC s1.1),(iC s53.1)]))] [(TBar.mk s1.1 s53.1)] Q Q und24 ti62 Q Q Q Q (by decide) (fun _ => Q) Q) Q Q Q (Ob' fun u75 hu75 => (Os22 (LT.tappP (enc := encTBar) Q Q Q und24 ti62 Q (by decide) (by decide) (fun _ => Q) (lim_le hu75)) Q Q Q Q Q Q (asg (Cc (lo 22 ((s53.2 ++ [(TBar.mk s1.1 s53.1)]).length))) Q Q Q Q (On (AWR.nil ⟨Q,Ent.of z4 z2⟩))))))))))
       ·refine AWR.skip (AWR.nil ⟨Q,Ent.of z4 z2⟩)
      ·refine AWR.blk (Wr ?_)
       refine mv (Iv s53.1) Q Q Q Q (Op20 (LT.add Q) Q y2 Q Q (asg (Iv (w64 (s53.1 + 1))) Q Q Q Q (On (AWR.nil ⟨Q,Ent.of z4 z2⟩))))
     ·refine AWR.exit_end Q ⟨Q,Ent.of z3 z2⟩
    ·refine AWR.blk (Wr ?_)
     refine mv (Iv b68.1) Q Q Q Q (Op20 (LT.add Q) Q y2 Q Q (asg (Iv (w64 (b68.1 + 1))) Q Q Q Q (On (AWR.nil ⟨Q,Ent.of z3 z2⟩))))
   ·refine AWR.exit_end Q ⟨Q,Ent.of z1 z1⟩
 ·refine Ws (Wr ?_)
  refine mv (Cc (lo 22 b46.length)) Q Q Q Q (asg (Cc (lo 22 b46.length)) Q Q Q Q (On (en [(2,(Cc (lo 22 b46.length)))] [(22,(pR 62 encTBar b46))] z1 z1 (AWR.ent (Ent.mv 22 0 Q Q) (en [(2,(Cc (lo 0 b46.length)))] [(0,(pR 62 encTBar b46))] z1 z1 (AWR.ret (FPost.mk (.inr Q) z1 z1 Q ⟨J,J⟩ ⟨PermO.prow' perm_encTBar,J⟩)))))))
theorem w_laws_at (code : (List Int)) (i : Int) : ∀ t,m_laws_at code i = some t → Fw.Fn Try.prog 55 [(.c (xF encInt_u8 code)),(.c (iC i))] [] (.s (.c (iC t))) [] [] [] := by
 refine Fw.Fn.of (P := Try.prog) (X := []) (pn := []) (rs := (fun (t : Int) => [(.c (iC t))])) (dfs := (fun (t : Int) => [])) Try.func55 Q Try.ntmps55 (K Q) Q ?_
 intro w0 U0 R0 g0
 unfold m_laws_at
 refine Ws (Wr ?_)
 refine asg (Iv 0) Q y2 Q Q (On (Ws (Ws (Wr ?_))))
 refine mv (Iv i) Q Q Q Q (mv (Cc (xF encInt_u8 code)) Q Q Q Q (Op10 (LT.tlenRO Q und22) Q Q Q (Op20 (LT.lss Q) Q Q Q Q (On (AWR.cond Q (fun hc1 => ?_) (fun hc1 => ?_))))))
 ·refine Ws (Wr ?_)
  refine mv (Cc (xF encInt_u8 code)) Q Q Q Q (mv (Iv i) Q Q Q Q (Ob' fun x2 hx2 => (Op20 (LT.tindexRO (enc := encInt_u8) Q el22 hx2 sz5) Q Q Q Q (Op10 (LT.loadPx1 Q ag5) Q Q Q (Op10 (LT.convInt Q undS5 und3) Q Q Q (asg (Iv (w64 x2)) Q Q Q Q (On (AWR.ret (FPost.mk (.inr Q) z1 J Q ⟨PermP.sc,J⟩ J)))))))))
 ·refine AWR.skip (Ws (Wr ?_))
  refine mv (Iv i) Q Q Q Q (Op20 (LT.mul Q) Q y2 Q Q (mv (Cc (xF encInt_u8 code)) Q Q Q Q (Op10 (LT.tlenRO Q und22) Q Q Q (Op20 (LT.mul Q) Q y2 Q Q (Op20 (LT.add Q) Q Q Q Q (Op20 (LT.rem Q (by decide)) Q y2 Q Q (asg (Iv (Int.tmod (w64 ((w64 (i * 37)) + (w64 ((code.length : Int) * 11)))) 256)) Q Q Q Q (On (AWR.ret (FPost.mk (.inr Q) z1 J Q ⟨PermP.sc,J⟩ J))))))))))
theorem w_laws_FnRigidity (code : (List Int)) : ∀ t,m_laws_FnRigidity code = some t → Fw.Fn Try.prog 5 [(.c (xT encInt_u8 code))] [] (.s (.c (bC t))) [] [] [] := by
 refine Fw.Fn.of (P := Try.prog) (X := []) (pn := []) (rs := (fun (t : Bool) => [(.c (bC t))])) (dfs := (fun (t : Bool) => [])) Try.func5 Q Try.ntmps5 (K Q) Q ?_
 intro w0 U0 R0 g0
 unfold m_laws_FnRigidity
 refine Ws (Wr ?_)
 refine asg (Bv false) Q y2 Q Q (On (Ws (Ws (Wr ?_))))
 refine mv (Cc (xT encInt_u8 code)) Q Q Q Q (Ob' fun r1 hr1 => (AOR.pure (@LT.callF Try.prog _ _ 10 _ _ [(.c (xT encInt_u8 code))] _ _ [] _ _ _ _ (w_laws_big code r1 hr1) Q cb10 (.cons (.c (.weak (.same Q) (QW.xsm qw_encInt_u8 (fun h => by cases h) _))) .nil) Q Q J) z2 J Q Q (On (AWR.cond Q (fun hc2 => ?_) (fun hc2 => ?_)))))
 ·refine Ws (Wr ?_)
  refine asg (Bv true) Q y2 Q Q (On (AWR.ret (FPost.mk (.inr Q) z1 J Q ⟨PermP.sc,J⟩ J)))
 ·refine AWR.skip (Ws (Wr ?_))
  refine mv (Cc (xT encInt_u8 code)) Q Q Q Q (Ob' fun r3 hr3 => (AOR.step (@LT.callF Try.prog _ _ 42 _ _ [(.c (xT encInt_u8 code))] _ _ [] _ _ _ _ ((show Fw.Fn Try.prog 42 [(.c (xT encInt_u8 code))] [] (Ag  [(iC r3.Graph.Points),(lo 23 r3.Graph.Bars.length),(xT encTPlace r3.Places)]) [(23,(pR 62 encTBar r3.Graph.Bars))] [] [23] from Fw.Fn.ren [(0,23)] (w_spec_DrawFrameworkFreedom code r3 hr3) Q)) Q cb42 (.cons (.c (.same Q)) .nil) Q Q J) z2 J Q Q (Os00 (LT.alloc (n := 24) (cells := [(iC 0),(sC nilV),(sC nilV)]) Q ti29 Q Q Q) Q Q (Os21 (LT.bstore (v := (.agg [(iC r3.Graph.Points),(lo 23 r3.Graph.Bars.length),(xT encTPlace r3.Places)])) (out := [(iC r3.Graph.Points),(lo 23 r3.Graph.Bars.length),(xT encTPlace r3.Places)]) Q Q (infS inf29) sz29 (by exact Q) (by exact K Q) (by exact Q)) Q Q Q Q Q (On (Ws ?_))))))
  refine en [(0,(Cc (xT encInt_u8 code))),(3,(Cc (.pl 24 0)))] [(23,(pR 62 encTBar r3.Graph.Bars)),(24,(.row 29 [[(iC r3.Graph.Points),(lo 23 r3.Graph.Bars.length),(xT encTPlace r3.Places)]]))] z2 z2 (Wr (Op11 (LT.bloadN (out := [(iC r3.Graph.Points),(lo 23 r3.Graph.Bars.length),(xT encTPlace r3.Places)]) Q ag29 (infS inf29) sz29 (by exact Q) (by exact Q)) Q Q Q Q (Ob' fun r4 hr4 => (AOR.pure (@LT.callF Try.prog _ _ 43 _ _ [(.agg [(iC r3.Graph.Points),(lo 23 r3.Graph.Bars.length),(xT encTPlace r3.Places)])] _ _ [(23,(pR 62 encTBar r3.Graph.Bars))] _ _ _ _ (w_impl_FrameworkFreedom r3 r4 hr4) Q cb43 (.cons (.agg (.cons (.same Q) (.cons (.tloc Q Q) (.cons (.weak (.same Q) (QW.xsm qw_encTPlace (fun h => by cases h) _)) .nil)))) .nil) Q Q J) z2 z1 Q Q (asg (Iv r4) Q Q Q Q (On (Ws (Wr ?_))))))))
  refine Op11 (LT.bloadN (out := [(iC r3.Graph.Points),(lo 23 r3.Graph.Bars.length),(xT encTPlace r3.Places)]) Q ag29 (infS inf29) sz29 (by exact Q) (by exact Q)) Q Q Q Q (Ob' fun r5 hr5 => (AOR.step (@LT.callF Try.prog _ _ 44 _ _ [(.agg [(iC r3.Graph.Points),(lo 23 r3.Graph.Bars.length),(xT encTPlace r3.Places)])] _ _ [(23,(pR 62 encTBar r3.Graph.Bars))] _ _ _ _ ((show Fw.Fn Try.prog 44 [(.agg [(iC r3.Graph.Points),(xF encTBar r3.Graph.Bars),(xF encTPlace r3.Places)])] [] (Cc (lo 27 r5.length)) [(27,(.trow 37 28 (lensOf r5))),(28,(.pool 3 (rowsOf encInt r5)))] [] [27,28] from Fw.Fn.ren [(0,27),(1,28)] (w_impl_RigidityMatrix r3 r5 hr5) Q)) Q cb44 (.cons (.agg (.cons (.same Q) (.cons (.tloc Q Q) (.cons (.weak (.same Q) (QW.xsm qw_encTPlace (fun h => by cases h) _)) .nil)))) .nil) Q Q J) z2 z1 Q Q (asg (Cc (lo 27 r5.length)) Q Q Q Q (On (Ws (Ws ?_))))))
  refine AWR.joinK (fun j22 => ([(0,(Cc (xT encInt_u8 code))),(3,(Cc (.pl 24 0))),(4,(Iv r4)),(59,(Bv j22))],[(23,(pR 62 encTBar r3.Graph.Bars)),(24,(.row 29 [[(iC r3.Graph.Points),(lo 23 r3.Graph.Bars.length),(xT encTPlace r3.Places)]]))])) ?_ (fun j22 _ => ?_)
  ·refine AWR.draw mixed (Dp10 (LT.move (v := (Iv r4)) Q) Q Q Q (Dp11 (LT.bloadN (out := [(iC r3.Graph.Points),(lo 23 r3.Graph.Bars.length),(xT encTPlace r3.Places)]) Q ag29 (infS inf29) sz29 (by exact Q) (by exact Q)) Q Q Q Q (AOD.bind fun r23 hr23 => (AOD.pure (@LT.callF Try.prog _ _ 45 _ _ [(.agg [(iC r3.Graph.Points),(lo 23 r3.Graph.Bars.length),(xT encTPlace r3.Places)])] _ _ [(23,(pR 62 encTBar r3.Graph.Bars))] _ _ _ _ (w_spec_FrameworkFreedom r3 r23 hr23) Q cb45 (.cons (.agg (.cons (.same Q) (.cons (.tloc Q Q) (.cons (.weak (.same Q) (QW.xsm qw_encTPlace (fun h => by cases h) _)) .nil)))) .nil) Q Q J) z2 z1 Q Q (Dp20 (LT.neq Q) Q Q Q Q (Dp10 (LT.move (v := (Bv (r4 != r23))) Q) Q Q Q (AOD.split (fun hb24 => ?_) (fun hb24 => ?_))))))))
   ·refine AOD.skip (gH hb24 Q Q) Q (AOD.skip (gH hb24 Q Q) Q (AOD.skip (gH hb24 Q Q) Q (AOD.skip (gH hb24 Q Q) Q (AOD.skip (gH hb24 Q Q) Q (Dp20 (LT.pickT (v := (Bv true)) Q hb24) Q y2 Q Q (Dp10 (LT.move (v := (Bv true)) Q) Q Q Q (AOD.skip (gS Q Q) Q (AOD.skip (gS Q Q) Q (AOD.skip (gS Q Q) Q (AOD.skip (gS Q Q) Q (AOD.skip (gS Q Q) Q ?_)))))))))))
    refine Dp20 (LT.pickT (v := (Bv true)) Q Q) Q y2 Q Q (Dp10 (LT.move (v := (Bv true)) Q) Q Q Q (AOD.skip (gS Q Q) Q (AOD.skip (gS Q Q) Q (AOD.skip (gS Q Q) Q (AOD.skip (gS Q Q) Q (AOD.skip (gS Q Q) Q (Dp20 (LT.pickT (v := (Bv true)) Q Q) Q y2 Q Q (Dp10 (LT.move (v := (Bv true)) Q) Q Q Q (AOD.skip (gS Q Q) Q (AOD.skip (gS Q Q) Q (AOD.skip (gS Q Q) Q ?_)))))))))))
    refine AOD.skip (gS Q Q) Q (AOD.skip (gS Q Q) Q (Dp20 (LT.pickT (v := (Bv true)) Q Q) Q y2 Q Q (Dp10 (LT.move (v := (Bv true)) Q) Q Q Q (AOD.skip (gS Q Q) Q (AOD.skip (gS Q Q) Q (AOD.skip (gS Q Q) Q (AOD.skip (gS Q Q) Q (AOD.skip (gS Q Q) Q (AOD.skip (gS Q Q) Q (Dp20 (LT.pickT (v := (Bv true)) Q Q) Q y2 Q Q (AOD.nil (by kernel_rfl) ?_)))))))))))
    refine AWR.nil ⟨Q,Ent.of z4 z2⟩
   ·refine Dp10 (LT.move (v := (Cc (lo 27 r5.length))) Q) Q (gH hb24 Q Q) Q (Dp11 (LT.bloadN (out := [(iC r3.Graph.Points),(lo 23 r3.Graph.Bars.length),(xT encTPlace r3.Places)]) Q ag29 (infS inf29) sz29 (by exact Q) (by exact Q)) Q Q (gH hb24 Q Q) Q (AOD.bind fun r25 hr25 => (AOD.step (@LT.callF Try.prog _ _ 46 _ _ [(.agg [(iC r3.Graph.Points),(lo 23 r3.Graph.Bars.length),(xT encTPlace r3.Places)])] _ _ [(23,(pR 62 encTBar r3.Graph.Bars))] _ _ _ _ ((show Fw.Fn Try.prog 46 [(.agg [(iC r3.Graph.Points),(xF encTBar r3.Graph.Bars),(xF encTPlace r3.Places)])] [] (Cc (lo 31 r25.length)) [(31,(pR 37 (encLInt true) r25))] [] [31] from Fw.Fn.ren [(0,31)] (w_spec_RigidityMatrix r3 r25 hr25) Q)) Q cb46 (.cons (.agg (.cons (.same Q) (.cons (.tloc Q Q) (.cons (.weak (.same Q) (QW.xsm qw_encTPlace (fun h => by cases h) _)) .nil)))) .nil) Q Q J) z2 z1 (gH hb24 Q Q) Q (AOD.bind fun r26 hr26 => (AOD.pure (@LT.callF Try.prog _ _ 13 _ _ [(.c (lo 27 r5.length)),(.c (lo 31 r25.length))] _ _ [(27,(.trow 37 28 (lensOf r5))),(28,(.pool 3 (rowsOf encInt r5))),(31,(pR 37 (encLInt true) r25))] _ _ _ _ (w_laws_sameSets r5 r25 r26 hr26) Q cb13 (.cons (.c (.ttrow Q Q Q (fun _ => Q))) (.cons (.c (.weak (.tloc (enc := encLInt true) Q Q) (QW.xsm qw_encLInt (fun h => h) _))) .nil)) Q Q J) z3 z3 (gH hb24 Q Q) Q (Dp10 (LT.not Q) Q (gH hb24 Q Q) Q (Dp20 (LT.pickF (v := (Bv (!r26))) Q hb24) Q Q Q Q (Dp10 (LT.move (v := (Bv (!r26))) Q) Q Q Q (AOD.split (fun hb27 => ?_) (fun hb27 => ?_))))))))))
    ·refine AOD.skip (gH hb27 Q Q) Q (AOD.skip (gH hb27 Q Q) Q (AOD.skip (gH hb27 Q Q) Q (AOD.skip (gH hb27 Q Q) Q (AOD.skip (gH hb27 Q Q) Q (Dp20 (LT.pickT (v := (Bv true)) Q hb27) Q y2 Q Q (Dp10 (LT.move (v := (Bv true)) Q) Q Q Q (AOD.skip (gS Q Q) Q (AOD.skip (gS Q Q) Q (AOD.skip (gS Q Q) Q (AOD.skip (gS Q Q) Q (AOD.skip (gS Q Q) Q ?_)))))))))))
     refine Dp20 (LT.pickT (v := (Bv true)) Q Q) Q y2 Q Q (Dp10 (LT.move (v := (Bv true)) Q) Q Q Q (AOD.skip (gS Q Q) Q (AOD.skip (gS Q Q) Q (AOD.skip (gS Q Q) Q (AOD.skip (gS Q Q) Q (AOD.skip (gS Q Q) Q (Dp20 (LT.pickT (v := (Bv true)) Q Q) Q y2 Q Q (Dp10 (LT.move (v := (Bv true)) Q) Q Q Q (AOD.skip (gS Q Q) Q (AOD.skip (gS Q Q) Q (AOD.skip (gS Q Q) Q ?_)))))))))))
     refine AOD.skip (gS Q Q) Q (AOD.skip (gS Q Q) Q (AOD.skip (gS Q Q) Q (Dp20 (LT.pickT (v := (Bv true)) Q Q) Q y2 Q Q (AOD.nil (by kernel_rfl) (AWR.nil ⟨Q,Ent.of z4 z2⟩)))))
    ·refine Dp11 (LT.bloadN (out := [(iC r3.Graph.Points),(lo 23 r3.Graph.Bars.length),(xT encTPlace r3.Places)]) Q ag29 (infS inf29) sz29 (by exact Q) (by exact Q)) Q Q (gH hb27 Q Q) Q (AOD.bind fun r28 hr28 => (AOD.pure (@LT.callF Try.prog _ _ 47 _ _ [(.agg [(iC r3.Graph.Points),(lo 23 r3.Graph.Bars.length),(xT encTPlace r3.Places)])] _ _ [(23,(pR 62 encTBar r3.Graph.Bars))] _ _ _ _ (w_impl_IsStiff r3 r28 hr28) Q cb47 (.cons (.agg (.cons (.same Q) (.cons (.tloc Q Q) (.cons (.weak (.same Q) (QW.xsm qw_encTPlace (fun h => by cases h) _)) .nil)))) .nil) Q Q J) z2 z1 (gH hb27 Q Q) Q (Dp10 (LT.move (v := (Iv r4)) Q) Q (gH hb27 Q Q) Q (Dp20 (LT.eql Q) Q y2 (gH hb27 Q Q) Q (Dp20 (LT.neqB Q und4) Q Q (gH hb27 Q Q) Q (Dp20 (LT.pickF (v := (Bv (r28 != (r4 == 0)))) Q hb27) Q Q Q Q (Dp10 (LT.move (v := (Bv (r28 != (r4 == 0)))) Q) Q Q Q (AOD.split (fun hb29 => ?_) (fun hb29 => ?_)))))))))
     ·refine AOD.skip (gH hb29 Q Q) Q (AOD.skip (gH hb29 Q Q) Q (AOD.skip (gH hb29 Q Q) Q (AOD.skip (gH hb29 Q Q) Q (AOD.skip (gH hb29 Q Q) Q (Dp20 (LT.pickT (v := (Bv true)) Q hb29) Q y2 Q Q (Dp10 (LT.move (v := (Bv true)) Q) Q Q Q (AOD.skip (gS Q Q) Q (AOD.skip (gS Q Q) Q (AOD.skip (gS Q Q) Q (AOD.skip (gS Q Q) Q (AOD.skip (gS Q Q) Q ?_)))))))))))
      refine Dp20 (LT.pickT (v := (Bv true)) Q Q) Q y2 Q Q (Dp10 (LT.move (v := (Bv true)) Q) Q Q Q (AOD.skip (gS Q Q) Q (AOD.skip (gS Q Q) Q (AOD.skip (gS Q Q) Q (AOD.skip (gS Q Q) Q (AOD.skip (gS Q Q) Q (AOD.skip (gS Q Q) Q (Dp20 (LT.pickT (v := (Bv true)) Q Q) Q y2 Q Q (AOD.nil (by kernel_rfl) (AWR.nil ⟨Q,Ent.of z4 z2⟩))))))))))
     ·refine Dp11 (LT.bloadN (out := [(iC r3.Graph.Points),(lo 23 r3.Graph.Bars.length),(xT encTPlace r3.Places)]) Q ag29 (infS inf29) sz29 (by exact Q) (by exact Q)) Q Q (gH hb29 Q Q) Q (AOD.bind fun r30 hr30 => (AOD.pure (@LT.callF Try.prog _ _ 48 _ _ [(.agg [(iC r3.Graph.Points),(lo 23 r3.Graph.Bars.length),(xT encTPlace r3.Places)])] _ _ [(23,(pR 62 encTBar r3.Graph.Bars))] _ _ _ _ (w_impl_IsIndependentFramework r3 r30 hr30) Q cb48 (.cons (.agg (.cons (.same Q) (.cons (.tloc Q Q) (.cons (.weak (.same Q) (QW.xsm qw_encTPlace (fun h => by cases h) _)) .nil)))) .nil) Q Q J) z2 z1 (gH hb29 Q Q) Q (Dp11 (LT.bloadN (out := [(iC r3.Graph.Points),(lo 23 r3.Graph.Bars.length),(xT encTPlace r3.Places)]) Q ag29 (infS inf29) sz29 (by exact Q) (by exact Q)) Q Q (gH hb29 Q Q) Q (AOD.bind fun r31 hr31 => (AOD.pure (@LT.callF Try.prog _ _ 49 _ _ [(.agg [(iC r3.Graph.Points),(lo 23 r3.Graph.Bars.length),(xT encTPlace r3.Places)])] _ _ [(23,(pR 62 encTBar r3.Graph.Bars))] _ _ _ _ (w_spec_IsIndependentFramework r3 r31 hr31) Q cb49 (.cons (.agg (.cons (.same Q) (.cons (.tloc Q Q) (.cons (.weak (.same Q) (QW.xsm qw_encTPlace (fun h => by cases h) _)) .nil)))) .nil) Q Q J) z2 z1 (gH hb29 Q Q) Q (Dp20 (LT.neqB Q und4) Q Q (gH hb29 Q Q) Q (Dp20 (LT.pickF (v := (Bv (r30 != r31))) Q hb29) Q Q Q Q (Dp10 (LT.move (v := (Bv (r30 != r31))) Q) Q Q Q (AOD.split (fun hb32 => ?_) (fun hb32 => ?_))))))))))
      ·refine AOD.skip (gH hb32 Q Q) Q (AOD.skip (gH hb32 Q Q) Q (AOD.skip (gH hb32 Q Q) Q (AOD.skip (gH hb32 Q Q) Q (AOD.skip (gH hb32 Q Q) Q (Dp20 (LT.pickT (v := (Bv true)) Q hb32) Q y2 Q Q (Dp10 (LT.move (v := (Bv true)) Q) Q Q Q (AOD.skip (gS Q Q) Q (AOD.skip (gS Q Q) Q (AOD.skip (gS Q Q) Q (AOD.skip (gS Q Q) Q (AOD.skip (gS Q Q) Q ?_)))))))))))
       refine AOD.skip (gS Q Q) Q (Dp20 (LT.pickT (v := (Bv true)) Q Q) Q y2 Q Q (AOD.nil (by kernel_rfl) (AWR.nil ⟨Q,Ent.of z4 z2⟩)))
      ·refine Dp11 (LT.bloadN (out := [(iC r3.Graph.Points),(lo 23 r3.Graph.Bars.length),(xT encTPlace r3.Places)]) Q ag29 (infS inf29) sz29 (by exact Q) (by exact Q)) Q Q (gH hb32 Q Q) Q (AOD.bind fun r33 hr33 => (AOD.pure (@LT.callF Try.prog _ _ 50 _ _ [(.agg [(iC r3.Graph.Points),(lo 23 r3.Graph.Bars.length),(xT encTPlace r3.Places)])] _ _ [(23,(pR 62 encTBar r3.Graph.Bars))] _ _ _ _ (w_impl_IsGenericHere r3 r33 hr33) Q cb50 (.cons (.agg (.cons (.same Q) (.cons (.tloc Q Q) (.cons (.weak (.same Q) (QW.xsm qw_encTPlace (fun h => by cases h) _)) .nil)))) .nil) Q Q J) z2 z1 (gH hb32 Q Q) Q (Dp11 (LT.bloadN (out := [(iC r3.Graph.Points),(lo 23 r3.Graph.Bars.length),(xT encTPlace r3.Places)]) Q ag29 (infS inf29) sz29 (by exact Q) (by exact Q)) Q Q (gH hb32 Q Q) Q (AOD.bind fun r34 hr34 => (AOD.pure (@LT.callF Try.prog _ _ 51 _ _ [(.agg [(iC r3.Graph.Points),(lo 23 r3.Graph.Bars.length),(xT encTPlace r3.Places)])] _ _ [(23,(pR 62 encTBar r3.Graph.Bars))] _ _ _ _ (w_spec_IsGenericHere r3 r34 hr34) Q cb51 (.cons (.agg (.cons (.same Q) (.cons (.tloc Q Q) (.cons (.weak (.same Q) (QW.xsm qw_encTPlace (fun h => by cases h) _)) .nil)))) .nil) Q Q J) z2 z1 (gH hb32 Q Q) Q (Dp20 (LT.neqB Q und4) Q Q (gH hb32 Q Q) Q (Dp20 (LT.pickF (v := (Bv (r33 != r34))) Q hb32) Q Q Q Q (Dp10 (LT.move (v := (Bv (r33 != r34))) Q) Q Q Q (AOD.split (fun hb35 => ?_) (fun hb35 => ?_))))))))))
       ·refine AOD.skip (gH hb35 Q Q) Q (AOD.skip (gH hb35 Q Q) Q (AOD.skip (gH hb35 Q Q) Q (AOD.skip (gH hb35 Q Q) Q (AOD.skip (gH hb35 Q Q) Q (AOD.skip (gH hb35 Q Q) Q (Dp20 (LT.pickT (v := (Bv true)) Q hb35) Q y2 Q Q (AOD.nil (by kernel_rfl) (AWR.nil ⟨Q,Ent.of z4 z2⟩))))))))
       ·refine Dp11 (LT.bloadN (out := [(iC r3.Graph.Points),(lo 23 r3.Graph.Bars.length),(xT encTPlace r3.Places)]) Q ag29 (infS inf29) sz29 (by exact Q) (by exact Q)) Q Q (gH hb35 Q Q) Q (AOD.bind fun r36 hr36 => (AOD.step (@LT.callF Try.prog _ _ 52 _ _ [(.agg [(iC r3.Graph.Points),(lo 23 r3.Graph.Bars.length),(xT encTPlace r3.Places)])] _ _ [(23,(pR 62 encTBar r3.Graph.Bars))] _ _ _ _ ((show Fw.Fn Try.prog 52 [(.agg [(iC r3.Graph.Points),(xF encTBar r3.Graph.Bars),(xF encTPlace r3.Places)])] [] (Cc (lo 39 r36.length)) [(39,(.trow 37 40 (lensOf r36))),(40,(.pool 3 (rowsOf encInt r36)))] [] [39,40] from Fw.Fn.ren [(0,39),(1,40)] (w_impl_FlatSets r3 r36 hr36) Q)) Q cb52 (.cons (.agg (.cons (.same Q) (.cons (.tloc Q Q) (.cons (.weak (.same Q) (QW.xsm qw_encTPlace (fun h => by cases h) _)) .nil)))) .nil) Q Q J) z2 z1 (gH hb35 Q Q) Q (Dp11 (LT.bloadN (out := [(iC r3.Graph.Points),(lo 23 r3.Graph.Bars.length),(xT encTPlace r3.Places)]) Q ag29 (infS inf29) sz29 (by exact Q) (by exact Q)) Q Q (gH hb35 Q Q) Q (AOD.bind fun r37 hr37 => (AOD.step (@LT.callF Try.prog _ _ 53 _ _ [(.agg [(iC r3.Graph.Points),(lo 23 r3.Graph.Bars.length),(xT encTPlace r3.Places)])] _ _ [(23,(pR 62 encTBar r3.Graph.Bars))] _ _ _ _ ((show Fw.Fn Try.prog 53 [(.agg [(iC r3.Graph.Points),(xF encTBar r3.Graph.Bars),(xF encTPlace r3.Places)])] [] (Cc (lo 42 r37.length)) [(42,(pR 37 (encLInt true) r37))] [] [42] from Fw.Fn.ren [(0,42)] (w_spec_FlatSets r3 r37 hr37) Q)) Q cb53 (.cons (.agg (.cons (.same Q) (.cons (.tloc Q Q) (.cons (.weak (.same Q) (QW.xsm qw_encTPlace (fun h => by cases h) _)) .nil)))) .nil) Q Q J) z2 z1 (gH hb35 Q Q) Q (AOD.bind fun r38 hr38 => (AOD.pure (@LT.callF Try.prog _ _ 13 _ _ [(.c (lo 39 r36.length)),(.c (lo 42 r37.length))] _ _ [(39,(.trow 37 40 (lensOf r36))),(40,(.pool 3 (rowsOf encInt r36))),(42,(pR 37 (encLInt true) r37))] _ _ _ _ (w_laws_sameSets r36 r37 r38 hr38) Q cb13 (.cons (.c (.ttrow Q Q Q (fun _ => Q))) (.cons (.c (.weak (.tloc (enc := encLInt true) Q Q) (QW.xsm qw_encLInt (fun h => h) _))) .nil)) Q Q J) z3 z3 (gH hb35 Q Q) Q (Dp10 (LT.not Q) Q (gH hb35 Q Q) Q (Dp20 (LT.pickF (v := (Bv (!r38))) Q hb35) Q Q Q Q (AOD.nil (by kernel_rfl) (AWR.nil ⟨Q,Ent.of z4 z2⟩)))))))))))
  ·refine AWR.cond Q (fun hc39 => ?_) (fun hc39 => ?_)
   ·refine Ws (Wr ?_)
    refine asg (Bv false) Q y2 Q Q (On (AWR.ret (FPost.mk (.inr Q) z1 J Q ⟨PermP.sc,J⟩ J)))
   ·refine AWR.skip (Ws (Ws (Wr ?_)))
    refine Op11 (LT.bloadN (out := [(iC r3.Graph.Points),(lo 23 r3.Graph.Bars.length),(xT encTPlace r3.Places)]) Q ag29 (infS inf29) sz29 (by exact Q) (by exact Q)) Q Q Q Q (Ob' fun r40 hr40 => (AOR.pure (@LT.callF Try.prog _ _ 15 _ _ [(.agg [(iC r3.Graph.Points),(lo 23 r3.Graph.Bars.length),(xT encTPlace r3.Places)])] _ _ [(23,(pR 62 encTBar r3.Graph.Bars))] _ _ _ _ (w_spec_IsFramework r3 r40 hr40) Q cb15 (.cons (.agg (.cons (.same Q) (.cons (.tloc Q Q) (.cons (.weak (.same Q) (QW.xsm qw_encTPlace (fun h => by cases h) _)) .nil)))) .nil) Q Q J) z2 z1 Q Q (Op10 (LT.not Q) Q Q Q (On (AWR.cond Q (fun hc41 => ?_) (fun hc41 => ?_))))))
    ·refine Ws (Wr ?_)
     refine mv (Iv r4) Q Q Q Q (Op20 (LT.eql Q) Q y2 Q Q (asg (Bv (r4 == (-1))) Q Q Q Q (On (AWR.ret (FPost.mk (.inr Q) z1 J Q ⟨PermP.sc,J⟩ J)))))
    ·refine AWR.skip (Ws (Ws ?_))
     refine AWR.joinK (fun j45 => ([(0,(Cc (xT encInt_u8 code))),(3,(Cc (.pl 24 0))),(74,(Bv j45))],[(23,(pR 62 encTBar r3.Graph.Bars)),(24,(.row 29 [[(iC r3.Graph.Points),(lo 23 r3.Graph.Bars.length),(xT encTPlace r3.Places)]]))])) ?_ (fun j45 _ => ?_)
     ·refine AWR.draw mixed (Dp10 (LT.move (v := (Iv r4)) Q) Q Q Q (Dp20 (LT.lss Q) Q y2 Q Q (Dp10 (LT.move (v := (Bv (decide (r4 < 0)))) Q) Q Q Q (AOD.split (fun hb46 => ?_) (fun hb46 => ?_)))))
      ·refine AOD.skip (gH hb46 Q Q) Q (AOD.skip (gH hb46 Q Q) Q (AOD.skip (gH hb46 Q Q) Q (AOD.skip (gH hb46 Q Q) Q (AOD.skip (gH hb46 Q Q) Q (AOD.skip (gH hb46 Q Q) Q (Dp20 (LT.pickT (v := (Bv true)) Q hb46) Q y2 Q Q (AOD.nil (by kernel_rfl) (AWR.nil ⟨Q,Ent.of z3 z2⟩))))))))
      ·refine Dp11 (LT.bloadN (out := [(iC r3.Graph.Points),(lo 23 r3.Graph.Bars.length),(xT encTPlace r3.Places)]) Q ag29 (infS inf29) sz29 (by exact Q) (by exact Q)) Q Q (gH hb46 Q Q) Q (AOD.bind fun r47 hr47 => (AOD.pure (@LT.callF Try.prog _ _ 48 _ _ [(.agg [(iC r3.Graph.Points),(lo 23 r3.Graph.Bars.length),(xT encTPlace r3.Places)])] _ _ [(23,(pR 62 encTBar r3.Graph.Bars))] _ _ _ _ (w_impl_IsIndependentFramework r3 r47 hr47) Q cb48 (.cons (.agg (.cons (.same Q) (.cons (.tloc Q Q) (.cons (.weak (.same Q) (QW.xsm qw_encTPlace (fun h => by cases h) _)) .nil)))) .nil) Q Q J) z2 z1 (gH hb46 Q Q) Q (Dp11 (LT.bloadN (out := [(iC r3.Graph.Points),(lo 23 r3.Graph.Bars.length),(xT encTPlace r3.Places)]) Q ag29 (infS inf29) sz29 (by exact Q) (by exact Q)) Q Q (gH hb46 Q Q) Q (AOD.bind fun r48 hr48 => (AOD.pure (@LT.callF Try.prog _ _ 16 _ _ [(.agg [(iC r3.Graph.Points),(lo 23 r3.Graph.Bars.length),(xT encTPlace r3.Places)])] _ _ [(23,(pR 62 encTBar r3.Graph.Bars))] _ _ _ _ (w_impl_CountStresses r3 r48 hr48) Q cb16 (.cons (.agg (.cons (.same Q) (.cons (.tloc Q Q) (.cons (.weak (.same Q) (QW.xsm qw_encTPlace (fun h => by cases h) _)) .nil)))) .nil) Q Q J) z2 z1 (gH hb46 Q Q) Q (Dp20 (LT.eql Q) Q y2 (gH hb46 Q Q) Q (Dp20 (LT.neqB Q und4) Q Q (gH hb46 Q Q) Q (Dp20 (LT.pickF (v := (Bv (r47 != (r48 == 0)))) Q hb46) Q Q Q Q (AOD.nil (by kernel_rfl) (AWR.nil ⟨Q,Ent.of z3 z2⟩))))))))))
     ·refine AWR.cond Q (fun hc49 => ?_) (fun hc49 => ?_)
      ·refine Ws (Wr ?_)
       refine asg (Bv false) Q y2 Q Q (On (AWR.ret (FPost.mk (.inr Q) z1 J Q ⟨PermP.sc,J⟩ J)))
      ·refine AWR.skip (Ws (Wr ?_))
       refine Op10 (LT.fieldPl Q fo29_0) Q Q Q (Op11 (LT.bloadN (out := [(iC r3.Graph.Points),(lo 23 r3.Graph.Bars.length)]) Q ag26 (infS inf26) sz26 (by exact Q) (by exact Q)) Q Q Q Q (Ob' fun r50 hr50 => (AOR.step (@LT.callF Try.prog _ _ 54 _ _ [(.agg [(iC r3.Graph.Points),(lo 23 r3.Graph.Bars.length)])] _ _ [(23,(pR 62 encTBar r3.Graph.Bars))] _ _ _ _ ((show Fw.Fn Try.prog 54 [(.agg [(iC r3.Graph.Points),(xF encTBar r3.Graph.Bars)])] [] (Cc (lo 48 r50.length)) [(48,(pR 62 encTBar r50))] [] [48] from Fw.Fn.ren [(0,48)] (w_spec_MissingBars r3.Graph r50 hr50) Q)) Q cb54 (.cons (.agg (.cons (.same Q) (.cons (.tloc Q Q) .nil))) .nil) Q Q J) z2 z1 Q Q (asg (Cc (lo 48 r50.length)) Q Q Q Q (On (Ws (Ws (Wr ?_))))))))
       refine mv (Cc (lo 48 r50.length)) Q Q Q Q (Op10 (LT.lenLoc Q und24) Q Q Q (Op20 (LT.gtr Q) Q y2 Q Q (On (AWR.joinR (fun j63 => ([],[])) (FPost Try.prog Try.f5.results.toList [] [] (fun (t : Bool) => [(.c (bC t))]) (fun (t : Bool) => [])) ?_ (fun j63 _ => ?_) (by intro r t σ m ht hk; injection ht with ht; subst ht; exact hk)))))
       ·refine AWR.cond Q (fun hc64 => ?_) (fun hc64 => ?_)
        ·refine Ws (Wr ?_)
         refine mv (Cc (lo 48 r50.length)) Q Q Q Q (mv (Cc (xT encInt_u8 code)) Q Q Q Q (Ob' fun r65 hr65 => (AOR.pure (@LT.callF Try.prog _ _ 55 _ _ [(.c (xT encInt_u8 code)),(.c (iC 4))] _ _ [] _ _ _ _ (w_laws_at code 4 r65 hr65) Q cb55 (.cons (.c (.weak (.same Q) (QW.xsm qw_encInt_u8 (fun h => by cases h) _))) (.cons (.c (.same Q)) .nil)) Q Q J) ⟨Q,Q,y2,J⟩ J Q Q (mv (Cc (lo 48 r50.length)) Q Q Q Q (Op10 (LT.lenLoc Q und24) Q Q Q (Ob' fun u66 hu66 => (Op20 (LT.rem Q (nz_ne hu66)) Q Q Q Q (Ob' fun x67 hx67 => (Op21 (LT.tindexLoc Q Q el24 hx67) Q Q Q Q Q (Op11 (LT.tloadN Q ag62 (infS inf62) sz62 hx67 (by exact Q) (by exact Q)) Q Q Q Q (Os00 (LT.alloc (n := 50) (cells := [(iC 0),(iC 0)]) Q ti62 Q Q Q) Q Q ?_)))))))))))
         refine Os21 (LT.bstore (v := (.agg [(iC x67.A),(iC x67.B)])) (out := [(iC x67.A),(iC x67.B)]) Q Q (infS inf62) sz62 (by exact Q) (by exact K Q) (by exact Q)) Q Q Q Q Q (On (Ws ?_))
         refine en [(3,(Cc (.pl 24 0))),(7,(Cc (.pl 50 0)))] [(23,(pR 62 encTBar r3.Graph.Bars)),(24,(.row 29 [[(iC r3.Graph.Points),(lo 23 r3.Graph.Bars.length),(xT encTPlace r3.Places)]])),(50,(.row 62 [[(iC x67.A),(iC x67.B)]]))] z2 z3 (Wr (Op10 (LT.fieldPl Q fo29_0) Q Q Q (Op11 (LT.bloadN (out := [(iC r3.Graph.Points),(lo 23 r3.Graph.Bars.length)]) Q ag26 (infS inf26) sz26 (by exact Q) (by exact Q)) Q Q Q Q (Op10 (LT.fieldPl Q fo62_0) Q Q Q (Op11 (LT.bload1 (c := (iC x67.A)) Q ag3 (by exact Q)) Q Q Q Q (Op10 (LT.fieldPl Q fo62_1) Q Q Q (Op11 (LT.bload1 (c := (iC x67.B)) Q ag3 (by exact Q)) Q Q Q Q (Ob' fun r68 hr68 => (AOR.step (@LT.callF Try.prog _ _ 56 _ _ [(.agg [(iC r3.Graph.Points),(lo 23 r3.Graph.Bars.length)]),(.c (iC x67.A)),(.c (iC x67.B))] _ _ [(23,(pR 62 encTBar r3.Graph.Bars))] _ _ _ _ ((show Fw.Fn Try.prog 56 [(.agg [(iC r3.Graph.Points),(xF encTBar r3.Graph.Bars)]),(.c (iC x67.A)),(.c (iC x67.B))] [] (.tup [(.agg [(iC r68.1.Points),(lo 52 r68.1.Bars.length)]),(.c (bC r68.2))]) [(52,(pR 62 encTBar r68.1.Bars))] [] [52] from Fw.Fn.ren [(0,52)] (w_spec_AddBar r3.Graph x67.A x67.B r68 hr68) Q)) Q cb56 (.cons (.agg (.cons (.same Q) (.cons (.tloc Q Q) .nil))) (.cons (.c (.same Q)) (.cons (.c (.same Q)) .nil))) Q Q J) z4 z1 Q Q (mv (.tup [(.agg [(iC r68.1.Points),(lo 52 r68.1.Bars.length)]),(.c (bC r68.2))]) Q Q Q Q (Op10 (LT.extract (v := (.agg [(iC r68.1.Points),(lo 52 r68.1.Bars.length)])) Q (by exact Q)) Q Q Q ?_)))))))))))
         refine Op10 (LT.extract (v := (.c (bC r68.2))) Q (by exact Q)) Q Q Q (Os00 (LT.alloc (n := 53) (cells := [(iC 0),(sC nilV)]) Q ti26 Q Q Q) Q Q (Os21 (LT.bstore (v := (.agg [(iC r68.1.Points),(lo 52 r68.1.Bars.length)])) (out := [(iC r68.1.Points),(lo 52 r68.1.Bars.length)]) Q Q (infS inf26) sz26 (by exact Q) (by exact K Q) (by exact Q)) Q Q Q Q Q (asg (Bv r68.2) Q Q Q Q (On (Ws ?_)))))
         refine en [(3,(Cc (.pl 24 0))),(8,(Cc (.pl 53 0)))] [(23,(pR 62 encTBar r3.Graph.Bars)),(24,(.row 29 [[(iC r3.Graph.Points),(lo 23 r3.Graph.Bars.length),(xT encTPlace r3.Places)]])),(52,(pR 62 encTBar r68.1.Bars)),(53,(.row 26 [[(iC r68.1.Points),(lo 52 r68.1.Bars.length)]]))] z2 z4 (Wr (Op11 (LT.bloadN (out := [(iC r68.1.Points),(lo 52 r68.1.Bars.length)]) Q ag26 (infS inf26) sz26 (by exact Q) (by exact Q)) Q Q Q Q (Op10 (LT.fieldPl Q fo29_1) Q Q Q (Op11 (LT.bload1 (c := (xT encTPlace r3.Places)) Q ag27 (by exact Q)) Q Q Q Q (Op20 (LT.build [(0,.tmp 99,(.agg [(iC r68.1.Points),(lo 52 r68.1.Bars.length)])),(1,.tmp 101,(.c (xT encTPlace r3.Places)))] Q Q pl29 ti29 Q Q Q) Q Q Q Q (Os00 (LT.alloc (n := 54) (cells := [(iC 0),(sC nilV),(sC nilV)]) Q ti29 Q Q Q) Q Q (Os21 (LT.bstore (v := (.agg [(iC r68.1.Points),(lo 52 r68.1.Bars.length),(xT encTPlace r3.Places)])) (out := [(iC r68.1.Points),(lo 52 r68.1.Bars.length),(xT encTPlace r3.Places)]) Q Q (infS inf29) sz29 (by exact Q) (by exact K Q) (by exact Q)) Q Q Q Q Q (On (Ws (Wr ?_))))))))))
         refine Op11 (LT.bloadN (out := [(iC r68.1.Points),(lo 52 r68.1.Bars.length),(xT encTPlace r3.Places)]) Q ag29 (infS inf29) sz29 (by exact Q) (by exact Q)) Q Q Q Q (Ob' fun r69 hr69 => (AOR.pure (@LT.callF Try.prog _ _ 15 _ _ [(.agg [(iC r68.1.Points),(lo 52 r68.1.Bars.length),(xT encTPlace r3.Places)])] _ _ [(52,(pR 62 encTBar r68.1.Bars))] _ _ _ _ (w_spec_IsFramework (TFramework.mk r68.1 r3.Places) r69 hr69) Q cb15 (.cons (.agg (.cons (.same Q) (.cons (.tloc Q Q) (.cons (.weak (.same Q) (QW.xsm qw_encTPlace (fun h => by cases h) _)) .nil)))) .nil) Q Q J) z2 z1 Q Q (On (AWR.cond Q (fun hc70 => ?_) (fun hc70 => ?_)))))
         ·refine Ws (en [(3,(Cc (.pl 24 0))),(10,(Cc (.pl 54 0)))] [(23,(pR 62 encTBar r3.Graph.Bars)),(24,(.row 29 [[(iC r3.Graph.Points),(lo 23 r3.Graph.Bars.length),(xT encTPlace r3.Places)]])),(52,(pR 62 encTBar r68.1.Bars)),(54,(.row 29 [[(iC r68.1.Points),(lo 52 r68.1.Bars.length),(xT encTPlace r3.Places)]]))] z2 z4 (AWR.draw mixed (Dp11 (LT.bloadN (out := [(iC r68.1.Points),(lo 52 r68.1.Bars.length),(xT encTPlace r3.Places)]) Q ag29 (infS inf29) sz29 (by exact Q) (by exact Q)) Q Q Q Q (AOD.bind fun r71 hr71 => (AOD.pure (@LT.callF Try.prog _ _ 57 _ _ [(.agg [(iC r68.1.Points),(lo 52 r68.1.Bars.length),(xT encTPlace r3.Places)])] _ _ [(52,(pR 62 encTBar r68.1.Bars))] _ _ _ _ (w_impl_FrameworkRank (TFramework.mk r68.1 r3.Places) r71 hr71) Q cb57 (.cons (.agg (.cons (.same Q) (.cons (.tloc Q Q) (.cons (.weak (.same Q) (QW.xsm qw_encTPlace (fun h => by cases h) _)) .nil)))) .nil) Q Q J) z2 z1 Q Q (Dp11 (LT.bloadN (out := [(iC r3.Graph.Points),(lo 23 r3.Graph.Bars.length),(xT encTPlace r3.Places)]) Q ag29 (infS inf29) sz29 (by exact Q) (by exact Q)) Q Q Q Q (AOD.bind fun r72 hr72 => (AOD.pure (@LT.callF Try.prog _ _ 58 _ _ [(.agg [(iC r3.Graph.Points),(lo 23 r3.Graph.Bars.length),(xT encTPlace r3.Places)])] _ _ [(23,(pR 62 encTBar r3.Graph.Bars))] _ _ _ _ (w_spec_FrameworkRank r3 r72 hr72) Q cb58 (.cons (.agg (.cons (.same Q) (.cons (.tloc Q Q) (.cons (.weak (.same Q) (QW.xsm qw_encTPlace (fun h => by cases h) _)) .nil)))) .nil) Q Q J) z2 z1 Q Q (Dp20 (LT.sub Q) Q Q Q Q (Dp10 (LT.assign (v := (Iv (w64 (r71 - r72)))) Q) Q Q Q (AOD.nil (by kernel_rfl) ?_)))))))))))
          refine Ws (AWR.joinK (fun j74 => ([(2,(Bv j74))],[])) ?_ (fun j74 _ => ?_))
          ·refine Wr (mv (Iv (w64 (r71 - r72))) Q Q Q Q (Op20 (LT.eql Q) Q y2 Q Q (mv (Bv ((w64 (r71 - r72)) == 0)) Q Q Q Q (AOR.split (fun hb75 => ?_) (fun hb75 => ?_)))))
           ·refine Ok Q Q Q (by rw [hb75]; rfl) Q (Ok Q Q Q (by rw [hb75]; rfl) Q (Op20 (LT.pickT (v := (Bv true)) Q hb75) Q y2 Q Q (asg (Bv true) Q Q Q Q (On (AWR.nil ⟨Q,Ent.of z1 J⟩)))))
           ·refine mv (Iv (w64 (r71 - r72))) Q Q (gH hb75 Q Q) Q (Op20 (LT.eql Q) Q y2 (gH hb75 Q Q) Q (Op20 (LT.pickF (v := (Bv ((w64 (r71 - r72)) == 1))) Q hb75) Q Q Q Q (asg (Bv ((w64 (r71 - r72)) == 1)) Q Q Q Q (On (AWR.nil ⟨Q,Ent.of z1 J⟩)))))
          ·refine AWR.ret ⟨Q,FPost.mk (.inr Q) z1 J Q ⟨PermP.sc,J⟩ J⟩
         ·refine AWR.skip (AWR.nil ⟨Q,Ent.of J J⟩)
        ·refine AWR.skip (AWR.nil ⟨Q,Ent.of J J⟩)
       ·refine Ws (Wr ?_)
        refine asg (Bv true) Q y2 Q Q (On (AWR.ret (FPost.mk (.inr Q) z1 J Q ⟨PermP.sc,J⟩ J)))
end Go.Proofs.Ytghofbijdnenoaa
end
section
set_option linter.unusedVariables false
set_option linter.unusedSimpArgs false
set_option linter.unnecessarySimpa false
namespace Go.Fw
open Go.ChangeShapes Go.WideShapes Go.ChangeAt Go.RowKit
open Go.Proofs.Ytghofbijdnenoaa (Rows.uptoBulk Rows.uptoBulkAll)
abbrev Bof (W : World) : Nat → Prop := fun b => b < W.heap.size
abbrev Rno : Nat → Prop := fun _ => False
abbrev gno : Nat → GS := fun _ => .dead
def Opn {α : Type} (P : Program) (t : TypeId) (s : Nat) (enc : α → List PV) (wt : α → Nat) (ok : α → Prop) : Prop :=
  ∀ (H : Type) (e : TypeId × Value → H) (W : World) (base : Nat) (spare : Nat → Bool) (held : Bool) (fuel : Nat) (cs : List Value) (x : DataW H × List MemPlace), DataW.trod e P W base spare held fuel t cs = some x →
    ∃ a : α, ok a ∧ wt a ≤ Go.Proofs.Ytghofbijdnenoaa.Rows.uptoBulk x.1 ∧ cs.length = s ∧ (enc a).length = s ∧ ∀ (k : Nat) p, (enc a)[k]? = some p → ∃ u, cs[k]? = some u ∧ RPV W Rno (Bof W) p u
def okI (n : Int) : Prop := -9223372036854775808 ≤ n ∧ n ≤ 9223372036854775807
def okL {α : Type} (ok : α → Prop) (xs : List α) : Prop := ∀ x ∈ xs, ok x
def wtI (_ : Int) : Nat := 1
def wtL {α : Type} (wt : α → Nat) (xs : List α) : Nat := (xs.map wt).sum + 1
section
variable {P : Program}
theorem one1 {p q : PV} {cs : List Value} {v : Value} {W : World} (hcs : cs = [v]) (h : RPV W Rno (Bof W) p v) : ∀ (k : Nat) r, [p][k]? = some r → ∃ u, cs[k]? = some u ∧ RPV W Rno (Bof W) r u := fun k r hk => by
  subst hcs
  cases k with
  | zero => simp at hk; subst hk; exact ⟨v, rfl, h⟩
  | succ k => simp at hk
theorem Opn.int {t : TypeId} (ht : P.underlying t = some (.int .i64)) : Opn P t 1 (fun n : Int => [.sc (.int .i64 n)]) wtI okI := fun H e W base spare held fuel cs x h => by
  obtain ⟨n, rfl, rfl, hw⟩ := DataW.trod_int ht h
  refine ⟨n, ?_, by simp [wtI, Go.Proofs.Ytghofbijdnenoaa.Rows.uptoBulk], rfl, rfl, one1 (q := .sc (.int .i64 n)) rfl (.sc rfl)⟩
  simp [Lit.wf, IntKind.min, IntKind.max, IntKind.signed, IntKind.bits] at hw
  exact ⟨by omega, by omega⟩
theorem list_of {α : Type} {p : Nat → α → Prop} : ∀ n : Nat, (∀ i, i < n → ∃ a, p i a) → ∃ xs : List α, xs.length = n ∧ ∀ (i : Nat) a, xs[i]? = some a → p i a
  | 0, _ => ⟨[], rfl, fun i a h => by simp at h⟩
  | n + 1, h => by
    obtain ⟨xs, h1, h2⟩ := list_of n fun i hi => h i (by omega)
    obtain ⟨a, ha⟩ := h n (by omega)
    refine ⟨xs ++ [a], by simp [h1], fun i b hb => ?_⟩
    rw [List.getElem?_append] at hb
    split at hb
    · exact h2 i b hb
    · rename_i hn
      have hi : i - xs.length = 0 := by
        have := (List.getElem?_eq_some_iff.1 hb).1
        simp at this
        omega
      rw [hi] at hb
      simp at hb
      subst hb
      have : i = n := by omega
      subst this
      exact ha
theorem bulk_sum {α : Type} {H : Type} {wt : α → Nat} {D : Nat → DataW H} : ∀ (xs : List α) (k : Nat), (∀ (i : Nat) a, xs[i]? = some a → wt a ≤ Go.Proofs.Ytghofbijdnenoaa.Rows.uptoBulk (D (k + i))) →
    (xs.map wt).sum ≤ Go.Proofs.Ytghofbijdnenoaa.Rows.uptoBulkAll ((List.range' k xs.length).map D)
  | [], _, _ => by simp [Go.Proofs.Ytghofbijdnenoaa.Rows.uptoBulkAll]
  | a :: r, k, h => by
    have h0 := h 0 a rfl
    have ih := bulk_sum r (k + 1) fun i b hb => by
      have := h (i + 1) b (by simpa using hb)
      rwa [show k + 1 + i = k + (i + 1) by omega]
    rw [Nat.add_zero] at h0
    simp only [List.map_cons, List.sum_cons, List.length_cons, List.range'_succ, Go.Proofs.Ytghofbijdnenoaa.Rows.uptoBulkAll]
    omega
theorem cell_lt {w : World} {a : Addr} {v : Value} (h : w.cell? a = some v) : a.block < w.heap.size := by
  unfold World.cell? at h
  cases hb : w.heap[a.block]? with
  | none => rw [hb] at h; simp at h
  | some o => exact (Array.getElem?_eq_some_iff.1 hb).1
theorem Opn.slice {α : Type} {t e : TypeId} {s : Nat} {enc : α → List PV} {wt : α → Nat} {ok : α → Prop} (ht : P.underlying t = some (.slice e)) (hs : P.cellsOf e = s) (hs0 : 0 < s) (he : Opn P e s enc wt ok) :
    Opn P t 1 (fun xs : List α => [.xs false (xs.map enc)]) (wtL wt) (okL ok) := fun H en W base spare held fuel cs x h => by
  rcases Go.Deep.open_slice ht h with ⟨rfl, rfl⟩ | ⟨a, len, cap, m, n, D, Pl, rfl, hb, hl, hm, hmm, rfl, hi⟩
  · refine ⟨[], ?_, ?_, rfl, rfl, one1 (q := .xs false []) rfl .emp⟩
    · intro x hx; cases hx
    · simp [wtL, Go.Proofs.Ytghofbijdnenoaa.Rows.uptoBulk]
  · have hml : len ≤ m := by rw [hmm]; split <;> omega
    obtain ⟨xs, hxl, hx⟩ := list_of (p := fun i (b : α) => ok b ∧ wt b ≤ Go.Proofs.Ytghofbijdnenoaa.Rows.uptoBulk (D i) ∧ (enc b).length = s ∧ ∀ (k : Nat) p, (enc b)[k]? = some p → ∃ u, W.cell? (a.add (i * s + k)) = some u ∧ RPV W Rno (Bof W) p u) len (fun i hil => by
      obtain ⟨cs', hc, htr⟩ := hi i (by omega)
      obtain ⟨b, h1, h2, h3, h4, h5⟩ := he _ _ _ _ _ _ _ _ _ htr
      obtain ⟨_, hcl, hat⟩ := World.cells?_some hc
      refine ⟨b, h1, h2, h4, fun k p hk => ?_⟩
      obtain ⟨u, hu, hr⟩ := h5 k p hk
      refine ⟨u, ?_, hr⟩
      have hks : k < s := by rw [← h4]; exact (List.getElem?_eq_some_iff.1 hk).1
      have := hat k (by rw [hs]; exact hks)
      rw [add_add, hs] at this
      rw [this]
      exact hu)
    refine ⟨xs, fun b hb => ?_, ?_, rfl, rfl, one1 (q := .sc undef) rfl ?_⟩
    · obtain ⟨i, hib⟩ := List.getElem?_of_mem hb
      exact (hx i b hib).1
    · have := bulk_sum (wt := wt) (D := D) xs 0 (fun i b hb => by rw [Nat.zero_add]; exact (hx i b hb).2.1)
      simp only [wtL, Go.Proofs.Ytghofbijdnenoaa.Rows.uptoBulk]
      rw [hxl, ← List.range_eq_range'] at this
      omega
    · cases hxs : xs with
      | nil =>
        have : len = 0 := by rw [← hxl, hxs]; rfl
        subst this
        exact .emp
      | cons b r =>
        rw [← hxs]
        have hget : ∀ (j k : Nat) cs p, (xs.map enc)[j]? = some cs → cs[k]? = some p → ∃ u, W.cell? (a.add (j * s + k)) = some u ∧ RPV W Rno (Bof W) p u := fun j k cs p hj hk => by
          rw [List.getElem?_map] at hj
          cases hjx : xs[j]? with
          | none => rw [hjx] at hj; cases hj
          | some c =>
            rw [hjx] at hj
            injection hj with hj
            subst hj
            exact (hx j c hjx).2.2.2 k p hk
        refine .xs (s := s) (fun j k => (W.cell? (a.add (j * s + k))).getD undef) (by simp [hxl]) ?_ (by simp [hxl]; exact hl) (fun cs hcs => ?_) (fun j k cs p hj hk => ?_) (fun j k cs p hj hk => ?_)
        · have h0 := hx 0 b (by rw [hxs]; rfl)
          have hlt : 0 < (enc b).length := by rw [h0.2.2.1]; exact hs0
          obtain ⟨u, hu, _⟩ := h0.2.2.2 0 (enc b)[0] (List.getElem?_eq_getElem hlt)
          have := cell_lt hu
          rw [add_block] at this
          exact this
        · obtain ⟨c, hc, rfl⟩ := List.mem_map.1 hcs
          obtain ⟨i, hic⟩ := List.getElem?_of_mem hc
          exact (hx i c hic).2.2.1
        · obtain ⟨u, hu, _⟩ := hget j k cs p hj hk
          rw [hu]; rfl
        · obtain ⟨u, hu, hr⟩ := hget j k cs p hj hk
          rw [hu]
          exact hr
theorem len_wtL {α : Type} {wt : α → Nat} (h : ∀ x, 1 ≤ wt x) (xs : List α) : xs.length ≤ wtL wt xs := by
  unfold wtL
  induction xs with
  | nil => simp
  | cons x r ih =>
    have := h x
    simp only [List.map_cons, List.sum_cons, List.length_cons] at ih ⊢
    omega
theorem Opn.arg1 {α : Type} {t : TypeId} {enc : α → List PV} {wt : α → Nat} {ok : α → Prop} (h : Opn P t 1 enc wt ok) {p : α → PV} (hp : ∀ a, enc a = [p a]) {H : Type} {e : TypeId × Value → H} {W : World} {sp : Nat → Bool} {v : Value} {d : DataW H} {ps : List MemPlace}
    (hv : v.oneCell' = true) (hd : DataW.Trod e P W 0 sp true t v d ps) : ∃ a : α, ok a ∧ wt a ≤ Go.Proofs.Ytghofbijdnenoaa.Rows.uptoBulk d ∧ RS P W Rno (Bof W) gno (.c (.pv (p a))) v := by
  obtain ⟨fuel, hf⟩ := hd
  obtain ⟨a, h1, h2, h3, h4, h5⟩ := h _ _ _ _ _ _ _ _ _ hf
  refine ⟨a, h1, h2, ?_⟩
  have hc : v.cells = #[v] := oneCell_ne hv
  obtain ⟨u, hu, hr⟩ := h5 0 (p a) (by rw [hp]; rfl)
  rw [hc] at hu
  have : v = u := by simpa using hu
  subst this
  exact ⟨hv, hr⟩
def ArgR (P : Program) (W : World) : List SV → List Value → Prop
  | [], [] => True
  | x :: xs, v :: vs => RS P W Rno (Bof W) gno x v ∧ ArgR P W xs vs
  | _, _ => False
theorem ArgR.spec {W : World} : ∀ {xs : List SV} {vs : List Value}, ArgR P W xs vs → vs.length = xs.length ∧ ∀ (k : Nat) x, xs[k]? = some x → ∃ u, vs[k]? = some u ∧ RS P W Rno (Bof W) gno x u
  | [], [], _ => ⟨rfl, fun k x hk => by simp at hk⟩
  | [], _ :: _, h => h.elim
  | _ :: _, [], h => h.elim
  | x :: xs, v :: vs, h => by
    obtain ⟨h1, h2⟩ := ArgR.spec h.2
    refine ⟨by simp [h1], fun k y hk => ?_⟩
    cases k with
    | zero => simp at hk; subst hk; exact ⟨v, rfl, h.1⟩
    | succ k => exact h2 k y (by simpa using hk)
theorem trodAll_stays {H : Type} {e : TypeId × Value → H} (hl : laidOutB P = true) {W W' : World} {sp : Nat → Bool} (hb : Below W.heap.size W W') : ∀ {ts : List TypeId} {vs : List Value} {ds : List (DataW H)} {ps : List MemPlace}, (ts.all fun t => P.readableRec t && decide (t < P.types.size)) = true →
    DataW.TrodAll e P W 0 (fun _ => true) true ts vs ds ps → (∀ p ∈ ps, p.block < W.heap.size) → (∀ p ∈ ps, sp p.block = true) → DataW.TrodAll e P W' 0 sp true ts vs ds ps
  | [], [], [], _, _, h, _, _ => h
  | t :: ts, v :: vs, d :: ds, ps, hr, h, hlt, hs => by
    obtain ⟨p, q, h1, h2, rfl⟩ := h
    simp only [List.all_cons, Bool.and_eq_true, decide_eq_true_eq] at hr
    exact ⟨p, q, Go.WideElems.Trod_stays hl hr.1.1 hr.1.2 h1 (fun x hx => hb.same (hlt x (List.mem_append_left _ hx))) (fun x hx => hs x (List.mem_append_left _ hx)), trodAll_stays hl hb hr.2 h2 (fun x hx => hlt x (List.mem_append_right _ hx)) (fun x hx => hs x (List.mem_append_right _ hx)), rfl⟩
  | [], [], _ :: _, _, _, h, _, _ => h.elim
  | [], _ :: _, _, _, _, h, _, _ => h.elim
  | _ :: _, [], _, _, _, h, _, _ => h.elim
  | _ :: _, _ :: _, [], _, _, h, _, _ => h.elim
theorem post_of_fw {H : Type} {e : TypeId × Value → H} {f : Func} {s : ChangeSpec} {apart handsOn again : Bool} {fresh : Bool} {W W' : World} {args : Array Value} {ds gs : List (DataW H)} {before : List MemPlace} {tb : TypeId} (hW : DataW.Whole e P f.params.toList s.vars apart W args.toList ds gs before) (hl : laidOutB P = true)
    (hr : (f.params.toList.all fun t => P.readableRec t && decide (t < P.types.size)) = true) (hb : Below W.heap.size W W') (hv : s.vars = []) (hf : s.fn H ds = { results := [.lit (.bool true)], args := ds }) (hrt : f.resultTypes = #[tb]) (htb : P.underlying tb = some .bool) :
    s.post e P f apart fresh handsOn again W args (.bool true) W' := by
  have hlt : ∀ p ∈ before, p.block < W.heap.size := fun p hp => hW.lt p hp
  have hW0 := hW
  obtain ⟨p, q, hA, hV, hpq, hz, hn⟩ := hW
  rw [hv] at hV
  obtain ⟨rfl, rfl⟩ : gs = [] ∧ q = [] := by
    cases gs with
    | nil => exact ⟨rfl, hV⟩
    | cons _ _ => exact hV.elim
  rw [List.append_nil] at hpq
  subst hpq
  have hargs : ∀ sp : Nat → Bool, (∀ p ∈ before, sp p.block = true) → DataW.TrodAll e P W' 0 sp true f.params.toList args.toList ds before := fun sp hs => trodAll_stays hl hb hr hA hlt hs
  have hres : ∀ (b : Nat) (sp : Nat → Bool) (hd : Bool), DataW.TrodAll e P W' b sp hd f.resultTypes.toList ((Value.bool true).resultList f.resultTypes.size) [.lit (.bool true)] [] := fun b sp hd => by
    rw [hrt]
    exact ⟨[], [], shut_bool htb _, rfl, rfl⟩
  have hfd : s.fn H (ds ++ []) = { results := [.lit (.bool true)], args := ds } := by rw [List.append_nil]; exact hf
  have hold : ∀ p ∈ before, (fun b => decide (b < W.heap.size)) p.block = true := fun p hp => by simpa using hlt p hp
  have hvs : ∀ sp : Nat → Bool, DataW.TrodVars e P W' sp s.vars [] [] := fun sp => by rw [hv]; rfl
  refine ⟨ds, [], before, [], before, [], hW0, ?_, ?_, ?_, World.keptBut_mono (fun p hp => ⟨hp, ?_⟩) (hb.frame (· ∈ before)), fun _ => ?_⟩
  · rw [hfd]; exact hres _ _ _
  · rw [hfd]; exact hargs _ hold
  · rw [hfd]; exact hvs _
  · exact Or.inr (Or.inl hp)
  · refine ⟨ok_one hrt rfl (okWide_bool_mk htb _), ?_⟩
    · refine ⟨_, _, ([] ++ before) ++ [], ⟨[] ++ before, [], trodAll_append (hargs _ (fun _ _ => rfl)) (hres _ _ _), hvs _, rfl, ?_, ?_⟩, ?_⟩
      · intro b off hp
        have hin : MemPlace.cell b off ∈ before := by simpa using hp
        rw [hb.frozen (hlt _ hin)]
        exact hz b off hin
      · intro ha
        simpa using hn ha
      · intro p hp _
        simpa using hp
end
end Go.Fw
end
section
set_option linter.unusedVariables false
set_option linter.unusedSimpArgs false
set_option linter.unnecessarySimpa false
open Go Go.Fw
open Go.ChangeShapes Go.WideShapes Go.ChangeAt Go.RowKit
namespace Go.Proofs.Ytghofbijdnenoaa
theorem oC5 : Try.prog.cellsOf 5 = 1 := by kernel_rfl
theorem oU22 : Try.prog.underlying 22 = some (.slice 5) := by kernel_rfl
theorem oU5 : Try.prog.underlying 5 = some (.int .u8) := by kernel_rfl
def okB (n : Int) : Prop := 0 ≤ n ∧ n ≤ 255
theorem Opn.u8 {P : Program} {t : TypeId} (ht : P.underlying t = some (.int .u8)) : Opn P t 1 encInt_u8 wtI okB := fun H e W base spare held fuel cs x h => by
  obtain ⟨n, rfl, rfl, hw⟩ := DataW.trod_int ht h
  refine ⟨n, ?_, by simp [wtI, Go.Proofs.Ytghofbijdnenoaa.Rows.uptoBulk], rfl, rfl, one1 (q := .sc (.int .u8 n)) rfl (.sc rfl)⟩
  simp [Lit.wf, IntKind.min, IntKind.max, IntKind.signed, IntKind.bits] at hw
  exact ⟨by omega, by omega⟩
theorem RPV.byteT {W : World} {l : List Int} {v : Value} (h : RPV W Rno (Bof W) (.xs false (l.map encInt_u8)) v) : RPV W (Bof W) (Bof W) (.xs true (l.map encInt_u8)) v := by
  generalize hE : l.map encInt_u8 = E at h
  cases h with
  | emp => exact .emp
  | xs val hn hb hc hs hv hr =>
    refine .xs val hn hb hc hs hv fun j k cs p hj hk => ?_
    have h1 := hr j k cs p hj hk
    subst hE
    obtain ⟨x, hx, rfl⟩ := List.mem_map.mp (List.mem_of_getElem? hj)
    cases k with
    | zero =>
      cases hk
      revert h1
      generalize val j 0 = u
      intro h1
      cases h1 with | sc h => exact .sc h
    | succ k => cases hk
theorem Fn.calledT {P : Program} {f : FuncId} {l : List Int} (hf : Fw.Fn P f [.c (xT encInt_u8 l)] [] (.s (.c (bC true))) [] [] []) {W : World} {v : Value} (ha : RS P W Rno (Bof W) gno (.c (xF encInt_u8 l)) v) : Calls P f #[v] W fun e W' => e = .returned (.bool true) ∧ Below W.heap.size W W' := by
  have ha' : RS P W (Bof W) (Bof W) gno (.c (xT encInt_u8 l)) v := ⟨ha.1, RPV.byteT ha.2⟩
  have hw : WF (Bof W) (Bof W) gno W := ⟨fun b hb => hb, fun b hb => hb, fun n b hg => hg.elim, fun n m b hg => hg.elim, fun n j k b h => (by cases h)⟩
  have := hf (Bof W) (Bof W) gno W [v] hw rfl (fun k x hk => by cases k with | zero => cases hk; exact ⟨v, rfl, ha'⟩ | succ k => cases hk) (fun p hp => by cases hp)
  refine this.mono fun e W' hp => ?_
  obtain ⟨u, R', B', g', rfl, had, _, hv, _⟩ := hp
  have hu : u = .bool true := by
    obtain ⟨_, h3⟩ := hv
    cases h3
    rfl
  subst hu
  exact ⟨rfl, had.os, had.tape, had.output, had.size, fun k hk => had.heap k hk fun n hn => by cases hn⟩
end Go.Proofs.Ytghofbijdnenoaa
end
