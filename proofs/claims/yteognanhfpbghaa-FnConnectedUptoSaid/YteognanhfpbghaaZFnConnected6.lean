/- Parts of a proof that a law of the program holds: what the program computes, and why that is right. -/
import Derived.Test.YteognanhfpbghaaRows
import Derived.ProofKit
import Derived.OpenShut
import Derived.JoinedCond
import Derived.Carry
import Derived.Deep.Slices
import Derived.ChangeSame
import Derived.Test.YteognanhfpbghaaZFnConnected5
section
set_option linter.unusedVariables false
set_option linter.unusedSimpArgs false
set_option linter.unnecessarySimpa false
set_option maxRecDepth 100000
set_option maxHeartbeats 8000000
open Go Go.Fw
namespace Go.Proofs.Yteognanhfpbghaa
theorem w_laws_sameSets (a : (List (List Int))) (b : (List (List Int))) : ∀ t,m_laws_sameSets a b = some t → Fw.Fn Try.prog 58 [(.c (xF (encLInt false) a)),(.c (xF (encLInt false) b))] [] (.s (.c (bC t))) [] [] [] := by
 refine Fw.Fn.of (P := Try.prog) (X := []) (pn := []) (rs := (fun (t : Bool) => [(.c (bC t))])) (dfs := (fun (t : Bool) => [])) Try.func58 Q Try.ntmps58 (K Q) Q ?_
 intro w0 U0 R0 g0
 unfold m_laws_sameSets
 refine Ws (Wr ?_)
 refine asg (Bv false) Q y2 Q Q (On (Ws (Ws (Wr ?_))))
 refine mv (Cc (xF (encLInt false) a)) Q Q Q Q (Op10 (LT.tlenRO Q und65) Q Q Q (mv (Cc (xF (encLInt false) b)) Q Q Q Q (Op10 (LT.tlenRO Q und65) Q Q Q (Op20 (LT.neq Q) Q Q Q Q (On (AWR.cond Q (fun hc1 => ?_) (fun hc1 => ?_)))))))
 ·refine Ws (Wr ?_)
  refine asg (Bv false) Q y2 Q Q (On (AWR.ret (FPost.mk (.inr Q) z1 J Q ⟨PermP.sc,J⟩ J)))
 ·refine AWR.skip (Ws (Ws (Wr ?_)))
  refine asg (Iv 0) Q y2 Q Q (On (AWR.block ?_))
  refine AWR.loopR (id := 0) (m_laws_sameSets_L1 a b) (fun s2 => ([(0,(Cc (xF (encLInt false) a))),(1,(Cc (xF (encLInt false) b))),(5,(Iv s2))],[])) (fun b13 => ([],[])) (FPost Try.prog Try.f58.results.toList [] [] (fun (t : Bool) => [(.c (bC t))]) (fun (t : Bool) => [])) ?_ (Ent.of z3 J) Q (fun b13 _ => ?_) (by intro r t σ m ht hk; injection ht with ht; subst ht; exact hk)
  ·intro s2
   unfold m_laws_sameSets_L1
   refine Ws (Ws (Wr ?_))
   refine mv (Iv s2) Q Q Q Q (mv (Cc (xF (encLInt false) a)) Q Q Q Q (Op10 (LT.tlenRO Q und65) Q Q Q (Op20 (LT.lss Q) Q Q Q Q (On (AWR.cond Q (fun hc14 => ?_) (fun hc14 => ?_))))))
   ·refine AWR.skip (Ws (AWR.block (Ws (AWR.draw mixed ?_))))
    refine Dp10 (LT.move (v := (Cc (xF (encLInt false) a))) Q) Q Q Q (Dp10 (LT.move (v := (Iv s2)) Q) Q Q Q (AOD.bind fun x15 hx15 => (Dp20 (LT.tindexRO (enc := (encLInt false)) Q el65 hx15 sz45) Q Q Q Q (Dp10 (LT.loadPx1 Q ag45) Q Q Q (Dp10 (LT.move (v := (Cc (xF (encLInt false) b))) Q) Q Q Q (Dp10 (LT.move (v := (Iv s2)) Q) Q Q Q (AOD.bind fun x16 hx16 => (Dp20 (LT.tindexRO (enc := (encLInt false)) Q el65 hx16 sz45) Q Q Q Q (Dp10 (LT.loadPx1 Q ag45) Q Q Q (AOD.bind fun r17 hr17 => (AOD.pure (@LT.callF Try.prog _ _ 138 _ _ [(.c (xF encInt x15)),(.c (xF encInt x16))] _ _ [] _ _ _ _ (w_laws_sameInts x15 x16 r17 hr17) Q cb138 (.cons (.c (.same Q)) (.cons (.c (.same Q)) .nil)) Q Q J) z3 J Q Q ?_)))))))))))
    refine Dp10 (LT.not Q) Q Q Q (AOD.nil (by kernel_rfl) (AWR.cond Q (fun hc18 => ?_) (fun hc18 => ?_)))
    ·refine Ws (en [] [] J J (Wr (asg (Bv false) Q y2 Q Q (On (AWR.ret ⟨Q,FPost.mk (.inr Q) z1 J Q ⟨PermP.sc,J⟩ J⟩)))))
    ·refine AWR.skip (AWR.blk ?_)
     refine en [(0,(Cc (xF (encLInt false) a))),(1,(Cc (xF (encLInt false) b))),(5,(Iv s2))] [] z3 J (Wr (mv (Iv s2) Q Q Q Q (Op20 (LT.add Q) Q y2 Q Q (asg (Iv (w64 (s2 + 1))) Q Q Q Q (On (AWR.nil ⟨Q,Ent.of z3 J⟩))))))
   ·refine AWR.exit_end Q ⟨Q,Ent.of J J⟩
  ·refine Ws (Wr ?_)
   refine asg (Bv true) Q y2 Q Q (On (AWR.ret (FPost.mk (.inr Q) z1 J Q ⟨PermP.sc,J⟩ J)))
theorem w_spec_l16Draw (code : (List Int)) : ∀ t,m_spec_l16Draw code = some t → Fw.Fn Try.prog 142 [(.c (xT encInt_u8 code))] [] (resA [(.agg [(iC t.1.Points),(lo 0 t.1.Bars.length)]),(.c (iC t.2))]) [(0,(pR 112 encTBar t.1.Bars))] [] [0] := by
 refine Fw.Fn.of (P := Try.prog) (X := [0]) (pn := []) (rs := (fun (t : (TGraph × Int)) => [(.agg [(iC t.1.Points),(lo 0 t.1.Bars.length)]),(.c (iC t.2))])) (dfs := (fun (t : (TGraph × Int)) => [(0,(pR 112 encTBar t.1.Bars))])) Try.func142 Q Try.ntmps142 (K Q) Q ?_
 intro w0 U0 R0 g0
 unfold m_spec_l16Draw
 refine Ws (Wr ?_)
 refine Os00 (LT.alloc (n := 21) (cells := [(iC 0),(sC nilV)]) Q ti32 Q Q Q) Q Q (asg (Iv 0) Q y2 Q Q (On (Ws (Wr ?_))))
 refine mv (Cc (xT encInt_u8 code)) Q Q Q Q (Ob' fun r1 hr1 => (AOR.step (@LT.callF Try.prog _ _ 103 _ _ [(.c (xT encInt_u8 code))] _ _ [] _ _ _ _ ((show Fw.Fn Try.prog 103 [(.c (xT encInt_u8 code))] [] (Cc (.pl 23 0)) [(23,(.row 139 [[(xT encInt_u8 r1.b),(iC r1.i),(iC r1.h)]]))] [] [23] from Fw.Fn.ren [(0,23)] (w_spec_l1New code r1 hr1) Q)) Q cb103 (.cons (.c (.same Q)) .nil) Q Q J) z2 J Q Q (asg (Cc (.pl 23 0)) Q Q Q Q (On (Ws (Wr ?_))))))
 refine mv (Cc (.pl 23 0)) Q Q Q Q (Ob' fun r2 hr2 => (AOR.step (@LT.callF Try.prog _ _ 130 _ _ [(.c (.pl 23 0))] _ _ [] _ _ _ _ ((show Fw.Fn Try.prog 130 [(.c (.pl 23 0))] [(23,(.row 139 [[(xT encInt_u8 r1.b),(iC r1.i),(iC r1.h)]]))] (Ag  [(iC r2.1.Points),(lo 25 r2.1.Bars.length)]) [(23,(.row 139 [[(xT encInt_u8 r2.2.b),(iC r2.2.i),(iC r2.2.h)]])),(25,(pR 112 encTBar r2.1.Bars))] [23] [25] from Fw.Fn.ren [(0,23),(1,25)] (w_spec_l15Any r1 r2 hr2) Q)) Q cb130 (.cons (.c (.same Q)) .nil) Q Q z1) z2 z1 Q Q (mv (Cc (.pl 23 0)) Q Q Q Q (Ob' fun r3 hr3 => (AOR.step (@LT.callF Try.prog _ _ 145 _ _ [(.c (.pl 23 0)),(.c (iC 6))] _ _ [] _ _ _ _ ((show Fw.Fn Try.prog 145 [(.c (.pl 23 0)),(.c (iC 6))] [(23,(.row 139 [[(xT encInt_u8 r2.2.b),(iC r2.2.i),(iC r2.2.h)]]))] (Iv r3.1) [(23,(.row 139 [[(xT encInt_u8 r3.2.b),(iC r3.2.i),(iC r3.2.h)]]))] [23] [] from Fw.Fn.ren [(0,23)] (w_spec_l1Below r2.2 6 r3 hr3) Q)) Q cb145 (.cons (.c (.same Q)) (.cons (.c (.same Q)) .nil)) Q Q z1) ⟨Q,Q,y2,J⟩ z1 Q Q (Op20 (LT.sub Q) Q y2 Q Q (Os21 (LT.bstore (v := (.agg [(iC r2.1.Points),(lo 25 r2.1.Bars.length)])) (out := [(iC r2.1.Points),(lo 25 r2.1.Bars.length)]) Q Q (infS inf32) sz32 (by exact Q) (by exact K Q) (by exact Q)) Q Q Q Q Q (asg (Iv (w64 (r3.1 - 1))) Q Q Q Q (On (en [(2,(Cc (.pl 21 0))),(3,(Iv (w64 (r3.1 - 1))))] [(21,(.row 32 [[(iC r2.1.Points),(lo 25 r2.1.Bars.length)]])),(25,(pR 112 encTBar r2.1.Bars))] z2 z2 (AWR.ent (Ent.mv 25 0 Q Q) ?_)))))))))))
 refine en [(2,(Cc (.pl 21 0))),(3,(Iv (w64 (r3.1 - 1))))] [(0,(pR 112 encTBar r2.1.Bars)),(21,(.row 32 [[(iC r2.1.Points),(lo 0 r2.1.Bars.length)]]))] z2 z2 (AWR.ret (FPost.mk (.inr Q) ⟨⟨_,_,_,Q,Q,Q,ag32,sz32,_,(infS inf32)⟩,Q,J⟩ z1 Q ⟨⟨PermP.sc,J,J⟩,PermP.sc,J⟩ ⟨PermO.prow' perm_encTBar,J⟩))
theorem w_spec_DrawCutSets (code : (List Int)) : ∀ t,m_spec_DrawCutSets code = some t → Fw.Fn Try.prog 64 [(.c (xT encInt_u8 code))] [] (resA [(.agg [(iC t.1.Points),(lo 0 t.1.Bars.length)]),(.c (iC t.2))]) [(0,(pR 112 encTBar t.1.Bars))] [] [0] := by
 refine Fw.Fn.of (P := Try.prog) (X := [0]) (pn := []) (rs := (fun (t : (TGraph × Int)) => [(.agg [(iC t.1.Points),(lo 0 t.1.Bars.length)]),(.c (iC t.2))])) (dfs := (fun (t : (TGraph × Int)) => [(0,(pR 112 encTBar t.1.Bars))])) Try.func64 Q Try.ntmps64 (K Q) Q ?_
 intro w0 U0 R0 g0
 unfold m_spec_DrawCutSets
 refine Ws (Wr ?_)
 refine Os00 (LT.alloc (n := 21) (cells := [(iC 0),(sC nilV)]) Q ti32 Q Q Q) Q Q (asg (Iv 0) Q y2 Q Q (On (Ws (Wr ?_))))
 refine mv (Cc (xT encInt_u8 code)) Q Q Q Q (Ob' fun r1 hr1 => (AOR.step (@LT.callF Try.prog _ _ 142 _ _ [(.c (xT encInt_u8 code))] _ _ [] _ _ _ _ ((show Fw.Fn Try.prog 142 [(.c (xT encInt_u8 code))] [] (.tup [(.agg [(iC r1.1.Points),(lo 23 r1.1.Bars.length)]),(.c (iC r1.2))]) [(23,(pR 112 encTBar r1.1.Bars))] [] [23] from Fw.Fn.ren [(0,23)] (w_spec_l16Draw code r1 hr1) Q)) Q cb142 (.cons (.c (.same Q)) .nil) Q Q J) z2 J Q Q (mv (.tup [(.agg [(iC r1.1.Points),(lo 23 r1.1.Bars.length)]),(.c (iC r1.2))]) Q Q Q Q (Op10 (LT.extract (v := (.agg [(iC r1.1.Points),(lo 23 r1.1.Bars.length)])) Q (by exact Q)) Q Q Q (Op10 (LT.extract (v := (.c (iC r1.2))) Q (by exact Q)) Q Q Q (Os00 (LT.alloc (n := 24) (cells := [(iC 0),(sC nilV)]) Q ti32 Q Q Q) Q Q (Os21 (LT.bstore (v := (.agg [(iC r1.1.Points),(lo 23 r1.1.Bars.length)])) (out := [(iC r1.1.Points),(lo 23 r1.1.Bars.length)]) Q Q (infS inf32) sz32 (by exact Q) (by exact K Q) (by exact Q)) Q Q Q Q Q (asg (Iv r1.2) Q Q Q Q (On (Ws ?_))))))))))
 refine en [(2,(Cc (.pl 21 0))),(4,(Cc (.pl 24 0))),(5,(Iv r1.2))] [(21,(.row 32 [[(iC 0),(sC nilV)]])),(23,(pR 112 encTBar r1.1.Bars)),(24,(.row 32 [[(iC r1.1.Points),(lo 23 r1.1.Bars.length)]]))] z3 z3 (Wr (Op11 (LT.bloadN (out := [(iC r1.1.Points),(lo 23 r1.1.Bars.length)]) Q ag32 (infS inf32) sz32 (by exact Q) (by exact Q)) Q Q Q Q (mv (Iv r1.2) Q Q Q Q (Os21 (LT.bstore (v := (.agg [(iC r1.1.Points),(lo 23 r1.1.Bars.length)])) (out := [(iC r1.1.Points),(lo 23 r1.1.Bars.length)]) Q Q (infS inf32) sz32 (by exact Q) (by exact K Q) (by exact Q)) Q Q Q Q Q (asg (Iv r1.2) Q Q Q Q (On (en [(2,(Cc (.pl 21 0))),(3,(Iv r1.2))] [(21,(.row 32 [[(iC r1.1.Points),(lo 23 r1.1.Bars.length)]])),(23,(pR 112 encTBar r1.1.Bars))] z2 z2 (AWR.ent (Ent.mv 23 0 Q Q) (en [(2,(Cc (.pl 21 0))),(3,(Iv r1.2))] [(0,(pR 112 encTBar r1.1.Bars)),(21,(.row 32 [[(iC r1.1.Points),(lo 0 r1.1.Bars.length)]]))] z2 z2 (AWR.ret (FPost.mk (.inr Q) ⟨⟨_,_,_,Q,Q,Q,ag32,sz32,_,(infS inf32)⟩,Q,J⟩ z1 Q ⟨⟨PermP.sc,J,J⟩,PermP.sc,J⟩ ⟨PermO.prow' perm_encTBar,J⟩)))))))))))
theorem w_spec_DrawIsKConnected (code : (List Int)) : ∀ t,m_spec_DrawIsKConnected code = some t → Fw.Fn Try.prog 65 [(.c (xT encInt_u8 code))] [] (resA [(.agg [(iC t.1.Points),(lo 0 t.1.Bars.length)]),(.c (iC t.2))]) [(0,(pR 112 encTBar t.1.Bars))] [] [0] := by
 refine Fw.Fn.of (P := Try.prog) (X := [0]) (pn := []) (rs := (fun (t : (TGraph × Int)) => [(.agg [(iC t.1.Points),(lo 0 t.1.Bars.length)]),(.c (iC t.2))])) (dfs := (fun (t : (TGraph × Int)) => [(0,(pR 112 encTBar t.1.Bars))])) Try.func65 Q Try.ntmps65 (K Q) Q ?_
 intro w0 U0 R0 g0
 unfold m_spec_DrawIsKConnected
 refine Ws (Wr ?_)
 refine Os00 (LT.alloc (n := 21) (cells := [(iC 0),(sC nilV)]) Q ti32 Q Q Q) Q Q (asg (Iv 0) Q y2 Q Q (On (Ws (Wr ?_))))
 refine mv (Cc (xT encInt_u8 code)) Q Q Q Q (Ob' fun r1 hr1 => (AOR.step (@LT.callF Try.prog _ _ 142 _ _ [(.c (xT encInt_u8 code))] _ _ [] _ _ _ _ ((show Fw.Fn Try.prog 142 [(.c (xT encInt_u8 code))] [] (.tup [(.agg [(iC r1.1.Points),(lo 23 r1.1.Bars.length)]),(.c (iC r1.2))]) [(23,(pR 112 encTBar r1.1.Bars))] [] [23] from Fw.Fn.ren [(0,23)] (w_spec_l16Draw code r1 hr1) Q)) Q cb142 (.cons (.c (.same Q)) .nil) Q Q J) z2 J Q Q (mv (.tup [(.agg [(iC r1.1.Points),(lo 23 r1.1.Bars.length)]),(.c (iC r1.2))]) Q Q Q Q (Op10 (LT.extract (v := (.agg [(iC r1.1.Points),(lo 23 r1.1.Bars.length)])) Q (by exact Q)) Q Q Q (Op10 (LT.extract (v := (.c (iC r1.2))) Q (by exact Q)) Q Q Q (Os00 (LT.alloc (n := 24) (cells := [(iC 0),(sC nilV)]) Q ti32 Q Q Q) Q Q (Os21 (LT.bstore (v := (.agg [(iC r1.1.Points),(lo 23 r1.1.Bars.length)])) (out := [(iC r1.1.Points),(lo 23 r1.1.Bars.length)]) Q Q (infS inf32) sz32 (by exact Q) (by exact K Q) (by exact Q)) Q Q Q Q Q (asg (Iv r1.2) Q Q Q Q (On (Ws ?_))))))))))
 refine en [(2,(Cc (.pl 21 0))),(4,(Cc (.pl 24 0))),(5,(Iv r1.2))] [(21,(.row 32 [[(iC 0),(sC nilV)]])),(23,(pR 112 encTBar r1.1.Bars)),(24,(.row 32 [[(iC r1.1.Points),(lo 23 r1.1.Bars.length)]]))] z3 z3 (Wr (Op11 (LT.bloadN (out := [(iC r1.1.Points),(lo 23 r1.1.Bars.length)]) Q ag32 (infS inf32) sz32 (by exact Q) (by exact Q)) Q Q Q Q (mv (Iv r1.2) Q Q Q Q (Os21 (LT.bstore (v := (.agg [(iC r1.1.Points),(lo 23 r1.1.Bars.length)])) (out := [(iC r1.1.Points),(lo 23 r1.1.Bars.length)]) Q Q (infS inf32) sz32 (by exact Q) (by exact K Q) (by exact Q)) Q Q Q Q Q (asg (Iv r1.2) Q Q Q Q (On (en [(2,(Cc (.pl 21 0))),(3,(Iv r1.2))] [(21,(.row 32 [[(iC r1.1.Points),(lo 23 r1.1.Bars.length)]])),(23,(pR 112 encTBar r1.1.Bars))] z2 z2 (AWR.ent (Ent.mv 23 0 Q Q) (en [(2,(Cc (.pl 21 0))),(3,(Iv r1.2))] [(0,(pR 112 encTBar r1.1.Bars)),(21,(.row 32 [[(iC r1.1.Points),(lo 0 r1.1.Bars.length)]]))] z2 z2 (AWR.ret (FPost.mk (.inr Q) ⟨⟨_,_,_,Q,Q,Q,ag32,sz32,_,(infS inf32)⟩,Q,J⟩ z1 Q ⟨⟨PermP.sc,J,J⟩,PermP.sc,J⟩ ⟨PermO.prow' perm_encTBar,J⟩)))))))))))
theorem w_spec_DrawWithoutPoints (code : (List Int)) : ∀ t,m_spec_DrawWithoutPoints code = some t → Fw.Fn Try.prog 66 [(.c (xT encInt_u8 code))] [] (resA [(.agg [(iC t.1.Points),(lo 0 t.1.Bars.length)]),(.c (lo 1 t.2.length))]) [(0,(pR 112 encTBar t.1.Bars)),(1,(pR 3 encInt t.2))] [] [0,1] := by
 refine Fw.Fn.of (P := Try.prog) (X := [0,1]) (pn := []) (rs := (fun (t : (TGraph × (List Int))) => [(.agg [(iC t.1.Points),(lo 0 t.1.Bars.length)]),(.c (lo 1 t.2.length))])) (dfs := (fun (t : (TGraph × (List Int))) => [(0,(pR 112 encTBar t.1.Bars)),(1,(pR 3 encInt t.2))])) Try.func66 Q Try.ntmps66 (K Q) Q ?_
 intro w0 U0 R0 g0
 unfold m_spec_DrawWithoutPoints
 refine Ws (Wr ?_)
 refine Os00 (LT.alloc (n := 21) (cells := [(iC 0),(sC nilV)]) Q ti32 Q Q Q) Q Q (asg (Cc (sC nilV)) Q y2 Q Q (On (Ws (Wr ?_))))
 refine mv (Cc (xT encInt_u8 code)) Q Q Q Q (Ob' fun r1 hr1 => (AOR.step (@LT.callF Try.prog _ _ 103 _ _ [(.c (xT encInt_u8 code))] _ _ [] _ _ _ _ ((show Fw.Fn Try.prog 103 [(.c (xT encInt_u8 code))] [] (Cc (.pl 23 0)) [(23,(.row 139 [[(xT encInt_u8 r1.b),(iC r1.i),(iC r1.h)]]))] [] [23] from Fw.Fn.ren [(0,23)] (w_spec_l1New code r1 hr1) Q)) Q cb103 (.cons (.c (.same Q)) .nil) Q Q J) z2 J Q Q (asg (Cc (.pl 23 0)) Q Q Q Q (On (Ws (Wr ?_))))))
 refine mv (Cc (.pl 23 0)) Q Q Q Q (Ob' fun r2 hr2 => (AOR.step (@LT.callF Try.prog _ _ 143 _ _ [(.c (.pl 23 0))] _ _ [] _ _ _ _ ((show Fw.Fn Try.prog 143 [(.c (.pl 23 0))] [(23,(.row 139 [[(xT encInt_u8 r1.b),(iC r1.i),(iC r1.h)]]))] (Ag  [(iC r2.1.Points),(lo 25 r2.1.Bars.length)]) [(23,(.row 139 [[(xT encInt_u8 r2.2.b),(iC r2.2.i),(iC r2.2.h)]])),(25,(pR 112 encTBar r2.1.Bars))] [23] [25] from Fw.Fn.ren [(0,23),(1,25)] (w_spec_l2Any r1 r2 hr2) Q)) Q cb143 (.cons (.c (.same Q)) .nil) Q Q z1) z2 z1 Q Q (Os00 (LT.alloc (n := 26) (cells := [(iC 0),(sC nilV)]) Q ti32 Q Q Q) Q Q (Os21 (LT.bstore (v := (.agg [(iC r2.1.Points),(lo 25 r2.1.Bars.length)])) (out := [(iC r2.1.Points),(lo 25 r2.1.Bars.length)]) Q Q (infS inf32) sz32 (by exact Q) (by exact K Q) (by exact Q)) Q Q Q Q Q (On (Ws ?_))))))
 refine en [(2,(Cc (.pl 21 0))),(4,(Cc (.pl 23 0))),(5,(Cc (.pl 26 0)))] [(21,(.row 32 [[(iC 0),(sC nilV)]])),(23,(.row 139 [[(xT encInt_u8 r2.2.b),(iC r2.2.i),(iC r2.2.h)]])),(25,(pR 112 encTBar r2.1.Bars)),(26,(.row 32 [[(iC r2.1.Points),(lo 25 r2.1.Bars.length)]]))] z3 z4 (AWR.draw mixed (Dp11 (LT.bloadN (out := [(iC r2.1.Points),(lo 25 r2.1.Bars.length)]) Q ag32 (infS inf32) sz32 (by exact Q) (by exact Q)) Q Q Q Q (Dp10 (LT.move (v := (Cc (.pl 23 0))) Q) Q Q Q (AOD.bind fun r3 hr3 => (AOD.step (@LT.callF Try.prog _ _ 145 _ _ [(.c (.pl 23 0)),(.c (iC 64))] _ _ [] _ _ _ _ ((show Fw.Fn Try.prog 145 [(.c (.pl 23 0)),(.c (iC 64))] [(23,(.row 139 [[(xT encInt_u8 r2.2.b),(iC r2.2.i),(iC r2.2.h)]]))] (Iv r3.1) [(23,(.row 139 [[(xT encInt_u8 r3.2.b),(iC r3.2.i),(iC r3.2.h)]]))] [23] [] from Fw.Fn.ren [(0,23)] (w_spec_l1Below r2.2 64 r3 hr3) Q)) Q cb145 (.cons (.c (.same Q)) (.cons (.c (.same Q)) .nil)) Q Q z1) ⟨Q,Q,y2,J⟩ z1 Q Q (AOD.bind fun r4 hr4 => (AOD.step (@LT.callF Try.prog _ _ 144 _ _ [(.c (iC 6)),(.c (iC r3.1))] _ _ [] _ _ _ _ ((show Fw.Fn Try.prog 144 [(.c (iC 6)),(.c (iC r3.1))] [] (Cc (lo 29 r4.length)) [(29,(pR 3 encInt r4))] [] [29] from Fw.Fn.ren [(0,29)] (w_spec_l3Set 6 r3.1 r4 hr4) Q)) Q cb144 (.cons (.c (.same Q)) (.cons (.c (.same Q)) .nil)) Q Q J) ⟨Q,y2,Q,J⟩ J Q Q (Ds21 (LT.bstore (v := (.agg [(iC r2.1.Points),(lo 25 r2.1.Bars.length)])) (out := [(iC r2.1.Points),(lo 25 r2.1.Bars.length)]) Q Q (infS inf32) sz32 (by exact Q) (by exact K Q) (by exact Q)) Q Q Q Q Q (Dp10 (LT.assign (v := (Cc (lo 29 r4.length))) Q) Q Q Q (AOD.nil (by kernel_rfl) (en [(2,(Cc (.pl 21 0))),(3,(Cc (lo 29 r4.length)))] [(21,(.row 32 [[(iC r2.1.Points),(lo 25 r2.1.Bars.length)]])),(25,(pR 112 encTBar r2.1.Bars)),(29,(pR 3 encInt r4))] z2 z3 ?_)))))))))))
 refine AWR.ent (Ent.mv 29 1 Q Q) (AWR.ent (Ent.mv 25 0 Q Q) (en [(2,(Cc (.pl 21 0))),(3,(Cc (lo 1 r4.length)))] [(0,(pR 112 encTBar r2.1.Bars)),(1,(pR 3 encInt r4)),(21,(.row 32 [[(iC r2.1.Points),(lo 0 r2.1.Bars.length)]]))] z2 z3 (AWR.ret (FPost.mk (.inr Q) ⟨⟨_,_,_,Q,Q,Q,ag32,sz32,_,(infS inf32)⟩,Q,J⟩ z2 Q ⟨⟨PermP.sc,J,J⟩,J,J⟩ ⟨PermO.prow' perm_encTBar,PermO.prow' perm_encInt,J⟩))))
theorem w_spec_DrawWhyNotGlobal (code : (List Int)) : ∀ t,m_spec_DrawWhyNotGlobal code = some t → Fw.Fn Try.prog 67 [(.c (xT encInt_u8 code))] [] (.s (.agg [(iC t.Points),(lo 0 t.Bars.length)])) [(0,(pR 112 encTBar t.Bars))] [] [0] := by
 refine Fw.Fn.of (P := Try.prog) (X := [0]) (pn := []) (rs := (fun (t : TGraph) => [(.agg [(iC t.Points),(lo 0 t.Bars.length)])])) (dfs := (fun (t : TGraph) => [(0,(pR 112 encTBar t.Bars))])) Try.func67 Q Try.ntmps67 (K Q) Q ?_
 intro w0 U0 R0 g0
 unfold m_spec_DrawWhyNotGlobal
 refine Ws (Wr ?_)
 refine Os00 (LT.alloc (n := 21) (cells := [(iC 0),(sC nilV)]) Q ti32 Q Q Q) Q Q (On (Ws (Wr ?_)))
 refine mv (Cc (xT encInt_u8 code)) Q Q Q Q (Ob' fun r1 hr1 => (AOR.step (@LT.callF Try.prog _ _ 103 _ _ [(.c (xT encInt_u8 code))] _ _ [] _ _ _ _ ((show Fw.Fn Try.prog 103 [(.c (xT encInt_u8 code))] [] (Cc (.pl 23 0)) [(23,(.row 139 [[(xT encInt_u8 r1.b),(iC r1.i),(iC r1.h)]]))] [] [23] from Fw.Fn.ren [(0,23)] (w_spec_l1New code r1 hr1) Q)) Q cb103 (.cons (.c (.same Q)) .nil) Q Q J) z2 J Q Q (Ob' fun r2 hr2 => (AOR.step (@LT.callF Try.prog _ _ 130 _ _ [(.c (.pl 23 0))] _ _ [] _ _ _ _ ((show Fw.Fn Try.prog 130 [(.c (.pl 23 0))] [(23,(.row 139 [[(xT encInt_u8 r1.b),(iC r1.i),(iC r1.h)]]))] (Ag  [(iC r2.1.Points),(lo 25 r2.1.Bars.length)]) [(23,(.row 139 [[(xT encInt_u8 r2.2.b),(iC r2.2.i),(iC r2.2.h)]])),(25,(pR 112 encTBar r2.1.Bars))] [23] [25] from Fw.Fn.ren [(0,23),(1,25)] (w_spec_l15Any r1 r2 hr2) Q)) Q cb130 (.cons (.c (.same Q)) .nil) Q Q z1) z2 z1 Q Q (Os21 (LT.bstore (v := (.agg [(iC r2.1.Points),(lo 25 r2.1.Bars.length)])) (out := [(iC r2.1.Points),(lo 25 r2.1.Bars.length)]) Q Q (infS inf32) sz32 (by exact Q) (by exact K Q) (by exact Q)) Q Q Q Q Q (On (en [(2,(Cc (.pl 21 0)))] [(21,(.row 32 [[(iC r2.1.Points),(lo 25 r2.1.Bars.length)]])),(25,(pR 112 encTBar r2.1.Bars))] z1 z2 (AWR.ent (Ent.mv 25 0 Q Q) (en [(2,(Cc (.pl 21 0)))] [(0,(pR 112 encTBar r2.1.Bars)),(21,(.row 32 [[(iC r2.1.Points),(lo 0 r2.1.Bars.length)]]))] z1 z2 (AWR.ret (FPost.mk (.inr Q) ⟨⟨_,_,_,Q,Q,Q,ag32,sz32,_,(infS inf32)⟩,J⟩ z1 Q ⟨⟨PermP.sc,J,J⟩,J⟩ ⟨PermO.prow' perm_encTBar,J⟩)))))))))))
theorem w_laws_FnConnected (code : (List Int)) : ∀ t,m_laws_FnConnected code = some t → Fw.Fn Try.prog 11 [(.c (xT encInt_u8 code))] [] (.s (.c (bC t))) [] [] [] := by
 refine Fw.Fn.of (P := Try.prog) (X := []) (pn := []) (rs := (fun (t : Bool) => [(.c (bC t))])) (dfs := (fun (t : Bool) => [])) Try.func11 Q Try.ntmps11 (K Q) Q ?_
 intro w0 U0 R0 g0
 unfold m_laws_FnConnected
 refine Ws (Wr ?_)
 refine asg (Bv false) Q y2 Q Q (On (Ws (Ws (Wr ?_))))
 refine mv (Cc (xT encInt_u8 code)) Q Q Q Q (Ob' fun r1 hr1 => (AOR.pure (@LT.callF Try.prog _ _ 29 _ _ [(.c (xT encInt_u8 code))] _ _ [] _ _ _ _ (w_laws_big code r1 hr1) Q cb29 (.cons (.c (.weak (.same Q) (QW.xsm qw_encInt_u8 (fun h => by cases h) _))) .nil) Q Q J) z2 J Q Q (On (AWR.cond Q (fun hc2 => ?_) (fun hc2 => ?_)))))
 ·refine Ws (Wr ?_)
  refine asg (Bv true) Q y2 Q Q (On (AWR.ret (FPost.mk (.inr Q) z1 J Q ⟨PermP.sc,J⟩ J)))
 ·refine AWR.skip (Ws (Wr ?_))
  refine mv (Cc (xT encInt_u8 code)) Q Q Q Q (Ob' fun r3 hr3 => (AOR.step (@LT.callF Try.prog _ _ 51 _ _ [(.c (xT encInt_u8 code))] _ _ [] _ _ _ _ ((show Fw.Fn Try.prog 51 [(.c (xT encInt_u8 code))] [] (Ag  [(iC r3.Points),(lo 23 r3.Bars.length)]) [(23,(pR 112 encTBar r3.Bars))] [] [23] from Fw.Fn.ren [(0,23)] (w_spec_DrawConnectivityOf code r3 hr3) Q)) Q cb51 (.cons (.c (.same Q)) .nil) Q Q J) z2 J Q Q (Os00 (LT.alloc (n := 24) (cells := [(iC 0),(sC nilV)]) Q ti32 Q Q Q) Q Q (Os21 (LT.bstore (v := (.agg [(iC r3.Points),(lo 23 r3.Bars.length)])) (out := [(iC r3.Points),(lo 23 r3.Bars.length)]) Q Q (infS inf32) sz32 (by exact Q) (by exact K Q) (by exact Q)) Q Q Q Q Q (On (Ws ?_))))))
  refine en [(0,(Cc (xT encInt_u8 code))),(3,(Cc (.pl 24 0)))] [(23,(pR 112 encTBar r3.Bars)),(24,(.row 32 [[(iC r3.Points),(lo 23 r3.Bars.length)]]))] z2 z2 (Wr (Op11 (LT.bloadN (out := [(iC r3.Points),(lo 23 r3.Bars.length)]) Q ag32 (infS inf32) sz32 (by exact Q) (by exact Q)) Q Q Q Q (Ob' fun r4 hr4 => (AOR.pure (@LT.callF Try.prog _ _ 52 _ _ [(.agg [(iC r3.Points),(lo 23 r3.Bars.length)])] _ _ [(23,(pR 112 encTBar r3.Bars))] _ _ _ _ (w_impl_ConnectivityOf r3 r4 hr4) Q cb52 (.cons (.agg (.cons (.same Q) (.cons (.tloc Q Q) .nil))) .nil) Q Q J) z2 z1 Q Q (asg (Iv r4) Q Q Q Q (On (Ws (Ws ?_))))))))
  refine AWR.joinK (fun j16 => ([(0,(Cc (xT encInt_u8 code))),(3,(Cc (.pl 24 0))),(4,(Iv r4)),(43,(Bv j16))],[(23,(pR 112 encTBar r3.Bars)),(24,(.row 32 [[(iC r3.Points),(lo 23 r3.Bars.length)]]))])) ?_ (fun j16 _ => ?_)
  ·refine AWR.draw mixed (Dp10 (LT.move (v := (Iv r4)) Q) Q Q Q (Dp11 (LT.bloadN (out := [(iC r3.Points),(lo 23 r3.Bars.length)]) Q ag32 (infS inf32) sz32 (by exact Q) (by exact Q)) Q Q Q Q (AOD.bind fun r17 hr17 => (AOD.pure (@LT.callF Try.prog _ _ 53 _ _ [(.agg [(iC r3.Points),(lo 23 r3.Bars.length)])] _ _ [(23,(pR 112 encTBar r3.Bars))] _ _ _ _ (w_spec_ConnectivityOf r3 r17 hr17) Q cb53 (.cons (.agg (.cons (.same Q) (.cons (.tloc Q Q) .nil))) .nil) Q Q J) z2 z1 Q Q (Dp20 (LT.neq Q) Q Q Q Q (Dp10 (LT.move (v := (Bv (r4 != r17))) Q) Q Q Q (AOD.split (fun hb18 => ?_) (fun hb18 => ?_))))))))
   ·refine AOD.skip (gH hb18 Q Q) Q (AOD.skip (gH hb18 Q Q) Q (AOD.skip (gH hb18 Q Q) Q (AOD.skip (gH hb18 Q Q) Q (AOD.skip (gH hb18 Q Q) Q (Dp20 (LT.pickT (v := (Bv true)) Q hb18) Q y2 Q Q (Dp10 (LT.move (v := (Bv true)) Q) Q Q Q (AOD.skip (gS Q Q) Q (AOD.skip (gS Q Q) Q (AOD.skip (gS Q Q) Q (AOD.skip (gS Q Q) Q (AOD.skip (gS Q Q) Q ?_)))))))))))
    refine Dp20 (LT.pickT (v := (Bv true)) Q Q) Q y2 Q Q (Dp10 (LT.move (v := (Bv true)) Q) Q Q Q (AOD.skip (gS Q Q) Q (AOD.skip (gS Q Q) Q (AOD.skip (gS Q Q) Q (AOD.skip (gS Q Q) Q (AOD.skip (gS Q Q) Q (AOD.skip (gS Q Q) Q (Dp20 (LT.pickT (v := (Bv true)) Q Q) Q y2 Q Q (AOD.nil (by kernel_rfl) (AWR.nil ⟨Q,Ent.of z4 z2⟩))))))))))
   ·refine Dp11 (LT.bloadN (out := [(iC r3.Points),(lo 23 r3.Bars.length)]) Q ag32 (infS inf32) sz32 (by exact Q) (by exact Q)) Q Q (gH hb18 Q Q) Q (AOD.bind fun r19 hr19 => (AOD.pure (@LT.callF Try.prog _ _ 54 _ _ [(.agg [(iC r3.Points),(lo 23 r3.Bars.length)])] _ _ [(23,(pR 112 encTBar r3.Bars))] _ _ _ _ (w_impl_IsGloballyRigid r3 r19 hr19) Q cb54 (.cons (.agg (.cons (.same Q) (.cons (.tloc Q Q) .nil))) .nil) Q Q J) z2 z1 (gH hb18 Q Q) Q (Dp11 (LT.bloadN (out := [(iC r3.Points),(lo 23 r3.Bars.length)]) Q ag32 (infS inf32) sz32 (by exact Q) (by exact Q)) Q Q (gH hb18 Q Q) Q (AOD.bind fun r20 hr20 => (AOD.pure (@LT.callF Try.prog _ _ 55 _ _ [(.agg [(iC r3.Points),(lo 23 r3.Bars.length)])] _ _ [(23,(pR 112 encTBar r3.Bars))] _ _ _ _ (w_spec_IsGloballyRigid r3 r20 hr20) Q cb55 (.cons (.agg (.cons (.same Q) (.cons (.tloc Q Q) .nil))) .nil) Q Q J) z2 z1 (gH hb18 Q Q) Q (Dp20 (LT.neqB Q und4) Q Q (gH hb18 Q Q) Q (Dp20 (LT.pickF (v := (Bv (r19 != r20))) Q hb18) Q Q Q Q (Dp10 (LT.move (v := (Bv (r19 != r20))) Q) Q Q Q (AOD.split (fun hb21 => ?_) (fun hb21 => ?_))))))))))
    ·refine AOD.skip (gH hb21 Q Q) Q (AOD.skip (gH hb21 Q Q) Q (AOD.skip (gH hb21 Q Q) Q (AOD.skip (gH hb21 Q Q) Q (AOD.skip (gH hb21 Q Q) Q (Dp20 (LT.pickT (v := (Bv true)) Q hb21) Q y2 Q Q (Dp10 (LT.move (v := (Bv true)) Q) Q Q Q (AOD.skip (gS Q Q) Q (AOD.skip (gS Q Q) Q (AOD.skip (gS Q Q) Q (AOD.skip (gS Q Q) Q (AOD.skip (gS Q Q) Q ?_)))))))))))
     refine AOD.skip (gS Q Q) Q (Dp20 (LT.pickT (v := (Bv true)) Q Q) Q y2 Q Q (AOD.nil (by kernel_rfl) (AWR.nil ⟨Q,Ent.of z4 z2⟩)))
    ·refine Dp11 (LT.bloadN (out := [(iC r3.Points),(lo 23 r3.Bars.length)]) Q ag32 (infS inf32) sz32 (by exact Q) (by exact Q)) Q Q (gH hb21 Q Q) Q (AOD.bind fun r22 hr22 => (AOD.pure (@LT.callF Try.prog _ _ 56 _ _ [(.agg [(iC r3.Points),(lo 23 r3.Bars.length)])] _ _ [(23,(pR 112 encTBar r3.Bars))] _ _ _ _ (w_impl_WhyNotGlobal r3 r22 hr22) Q cb56 (.cons (.agg (.cons (.same Q) (.cons (.tloc Q Q) .nil))) .nil) Q Q J) z2 z1 (gH hb21 Q Q) Q (Dp11 (LT.bloadN (out := [(iC r3.Points),(lo 23 r3.Bars.length)]) Q ag32 (infS inf32) sz32 (by exact Q) (by exact Q)) Q Q (gH hb21 Q Q) Q (AOD.bind fun r23 hr23 => (AOD.pure (@LT.callF Try.prog _ _ 57 _ _ [(.agg [(iC r3.Points),(lo 23 r3.Bars.length)])] _ _ [(23,(pR 112 encTBar r3.Bars))] _ _ _ _ (w_spec_WhyNotGlobal r3 r23 hr23) Q cb57 (.cons (.agg (.cons (.same Q) (.cons (.tloc Q Q) .nil))) .nil) Q Q J) z2 z1 (gH hb21 Q Q) Q (Dp20 (LT.neqS Q) Q Q (gH hb21 Q Q) Q (Dp20 (LT.pickF (v := (Bv (!(r22.toList == r23.toList)))) Q hb21) Q Q Q Q (Dp10 (LT.move (v := (Bv (!(r22.toList == r23.toList)))) Q) Q Q Q (AOD.split (fun hb24 => ?_) (fun hb24 => ?_))))))))))
     ·refine AOD.skip (gH hb24 Q Q) Q (AOD.skip (gH hb24 Q Q) Q (AOD.skip (gH hb24 Q Q) Q (AOD.skip (gH hb24 Q Q) Q (AOD.skip (gH hb24 Q Q) Q (AOD.skip (gH hb24 Q Q) Q (Dp20 (LT.pickT (v := (Bv true)) Q hb24) Q y2 Q Q (AOD.nil (by kernel_rfl) (AWR.nil ⟨Q,Ent.of z4 z2⟩))))))))
     ·refine Dp11 (LT.bloadN (out := [(iC r3.Points),(lo 23 r3.Bars.length)]) Q ag32 (infS inf32) sz32 (by exact Q) (by exact Q)) Q Q (gH hb24 Q Q) Q (AOD.bind fun r25 hr25 => (AOD.step (@LT.callF Try.prog _ _ 59 _ _ [(.agg [(iC r3.Points),(lo 23 r3.Bars.length)])] _ _ [(23,(pR 112 encTBar r3.Bars))] _ _ _ _ ((show Fw.Fn Try.prog 59 [(.agg [(iC r3.Points),(xF encTBar r3.Bars)])] [] (Cc (lo 32 r25.length)) [(32,(.trow 45 33 (lensOf r25))),(33,(.pool 3 (rowsOf encInt r25)))] [] [32,33] from Fw.Fn.ren [(0,32),(1,33)] (w_impl_HingePairs r3 r25 hr25) Q)) Q cb59 (.cons (.agg (.cons (.same Q) (.cons (.tloc Q Q) .nil))) .nil) Q Q J) z2 z1 (gH hb24 Q Q) Q (Dp11 (LT.bloadN (out := [(iC r3.Points),(lo 23 r3.Bars.length)]) Q ag32 (infS inf32) sz32 (by exact Q) (by exact Q)) Q Q (gH hb24 Q Q) Q (AOD.bind fun r26 hr26 => (AOD.step (@LT.callF Try.prog _ _ 60 _ _ [(.agg [(iC r3.Points),(lo 23 r3.Bars.length)])] _ _ [(23,(pR 112 encTBar r3.Bars))] _ _ _ _ ((show Fw.Fn Try.prog 60 [(.agg [(iC r3.Points),(xF encTBar r3.Bars)])] [] (Cc (lo 35 r26.length)) [(35,(pR 45 (encLInt true) r26))] [] [35] from Fw.Fn.ren [(0,35)] (w_spec_HingePairs r3 r26 hr26) Q)) Q cb60 (.cons (.agg (.cons (.same Q) (.cons (.tloc Q Q) .nil))) .nil) Q Q J) z2 z1 (gH hb24 Q Q) Q (AOD.bind fun r27 hr27 => (AOD.pure (@LT.callF Try.prog _ _ 58 _ _ [(.c (lo 32 r25.length)),(.c (lo 35 r26.length))] _ _ [(32,(.trow 45 33 (lensOf r25))),(33,(.pool 3 (rowsOf encInt r25))),(35,(pR 45 (encLInt true) r26))] _ _ _ _ (w_laws_sameSets r25 r26 r27 hr27) Q cb58 (.cons (.c (.ttrow Q Q Q (fun _ => Q))) (.cons (.c (.weak (.tloc (enc := encLInt true) Q Q) (QW.xsm qw_encLInt (fun h => h) _))) .nil)) Q Q J) z3 z3 (gH hb24 Q Q) Q (Dp10 (LT.not Q) Q (gH hb24 Q Q) Q (Dp20 (LT.pickF (v := (Bv (!r27))) Q hb24) Q Q Q Q (AOD.nil (by kernel_rfl) (AWR.nil ⟨Q,Ent.of z4 z2⟩)))))))))))
  ·refine AWR.cond Q (fun hc28 => ?_) (fun hc28 => ?_)
   ·refine Ws (Wr ?_)
    refine asg (Bv false) Q y2 Q Q (On (AWR.ret (FPost.mk (.inr Q) z1 J Q ⟨PermP.sc,J⟩ J)))
   ·refine AWR.skip (Ws (Ws ?_))
    refine AWR.joinK (fun j56 => ([(0,(Cc (xT encInt_u8 code))),(82,(Bv j56))],[])) ?_ (fun j56 _ => ?_)
    ·refine Wr (Op11 (LT.bloadN (out := [(iC r3.Points),(lo 23 r3.Bars.length)]) Q ag32 (infS inf32) sz32 (by exact Q) (by exact Q)) Q Q Q Q (Ob' fun r57 hr57 => (AOR.pure (@LT.callF Try.prog _ _ 61 _ _ [(.agg [(iC r3.Points),(lo 23 r3.Bars.length)])] _ _ [(23,(pR 112 encTBar r3.Bars))] _ _ _ _ (w_spec_IsGraph r3 r57 hr57) Q cb61 (.cons (.agg (.cons (.same Q) (.cons (.tloc Q Q) .nil))) .nil) Q Q J) z2 z1 Q Q (mv (Bv r57) Q Q Q Q (AOR.split (fun hb58 => ?_) (fun hb58 => ?_))))))
     ·refine Op11 (LT.bloadN (out := [(iC r3.Points),(lo 23 r3.Bars.length)]) Q ag32 (infS inf32) sz32 (by exact Q) (by exact Q)) Q Q (gH hb58 Q Q) Q (Ob' fun r59 hr59 => (AOR.pure (@LT.callF Try.prog _ _ 62 _ _ [(.agg [(iC r3.Points),(lo 23 r3.Bars.length)])] _ _ [(23,(pR 112 encTBar r3.Bars))] _ _ _ _ (w_impl_IsRigid r3 r59 hr59) Q cb62 (.cons (.agg (.cons (.same Q) (.cons (.tloc Q Q) .nil))) .nil) Q Q J) z2 z1 (gH hb58 Q Q) Q (mv (Bv r59) Q Q (gH hb58 Q Q) Q (AOR.split (fun hb60 => ?_) (fun hb60 => ?_)))))
      ·refine Op10 (LT.fieldPl Q fo32_0) Q (gH hb60 Q Q) Q (Op11 (LT.bload1 (c := (iC r3.Points)) Q ag3 (by exact Q)) Q Q (gH hb60 Q Q) Q (Op20 (LT.geq Q) Q y2 (gH hb60 Q Q) Q (Op20 (LT.pickT (v := (Bv (decide (3 ≤ r3.Points)))) Q hb60) Q Q (gH hb58 Q Q) Q (mv (Bv (decide (3 ≤ r3.Points))) Q Q (gH hb58 Q Q) Q (AOR.split (fun hb61 => ?_) (fun hb61 => ?_))))))
       ·refine mv (Iv r4) Q Q (gH hb61 Q Q) Q (Op20 (LT.lss Q) Q y2 (gH hb61 Q Q) Q (Op20 (LT.pickT (v := (Bv (decide (r4 < 2)))) Q hb61) Q Q (gH hb58 Q Q) Q (mv (Bv (decide (r4 < 2))) Q Q (gH hb58 Q Q) Q (AOR.split (fun hb62 => ?_) (fun hb62 => ?_)))))
        ·refine Ok Q Q Q (by rw [hb62]; rfl) Q (Ok Q Q Q (by rw [hb62]; rfl) Q (Ok Q Q Q (by rw [hb62]; rfl) Q (Oj Q Q Q Q (Oj Q Q Q Q (Oj Q Q Q Q (Oj Q Q Q Q (Oj Q Q Q Q (Oj Q Q Q Q (Oj Q Q Q Q (Oj Q Q Q Q (Oj Q Q Q Q ?_)))))))))))
         refine Oj Q Q Q Q (Oj Q Q Q Q (Oj Q Q Q Q (Oj Q Q Q Q (Oj Q Q Q Q (Oj Q Q Q Q (Oj Q Q Q Q (Oj Q Q Q Q (Oj Q Q Q Q (Ok Q Q Q (by rw [hb62]; rfl) Q (Op20 (LT.pickT (v := (Bv true)) Q hb62) Q y2 (gH hb58 Q Q) Q (Op20 (LT.pickT (v := (Bv true)) Q hb58) Q Q Q Q ?_)))))))))))
         refine On (AWR.nil ⟨Q,Ent.of z2 J⟩)
        ·refine Op11 (LT.bloadN (out := [(iC r3.Points),(lo 23 r3.Bars.length)]) Q ag32 (infS inf32) sz32 (by exact Q) (by exact Q)) Q Q (gH hb62 Q Q) Q (Ob' fun r63 hr63 => (AOR.pure (@LT.callF Try.prog _ _ 54 _ _ [(.agg [(iC r3.Points),(lo 23 r3.Bars.length)])] _ _ [(23,(pR 112 encTBar r3.Bars))] _ _ _ _ (w_impl_IsGloballyRigid r3 r63 hr63) Q cb54 (.cons (.agg (.cons (.same Q) (.cons (.tloc Q Q) .nil))) .nil) Q Q J) z2 z1 (gH hb62 Q Q) Q (mv (Bv r63) Q Q (gH hb62 Q Q) Q (AOR.split (fun hb64 => ?_) (fun hb64 => ?_)))))
         ·refine Op11 (LT.bloadN (out := [(iC r3.Points),(lo 23 r3.Bars.length)]) Q ag32 (infS inf32) sz32 (by exact Q) (by exact Q)) Q Q (gH hb64 Q Q) Q (Ob' fun r65 hr65 => (AOR.pure (@LT.callF Try.prog _ _ 62 _ _ [(.agg [(iC r3.Points),(lo 23 r3.Bars.length)])] _ _ [(23,(pR 112 encTBar r3.Bars))] _ _ _ _ (w_impl_IsRigid r3 r65 hr65) Q cb62 (.cons (.agg (.cons (.same Q) (.cons (.tloc Q Q) .nil))) .nil) Q Q J) z2 z1 (gH hb64 Q Q) Q (Op10 (LT.not Q) Q (gH hb64 Q Q) Q (mv (Bv (!r65)) Q Q (gH hb64 Q Q) Q (AOR.split (fun hb66 => ?_) (fun hb66 => ?_))))))
          ·refine Ok Q Q Q (by rw [hb66]; rfl) Q (Ok Q Q Q (by rw [hb66]; rfl) Q (Ok Q Q Q (by rw [hb66]; rfl) Q (Ok Q Q Q (by rw [hb66]; rfl) Q (Oj Q Q Q Q (Oj Q Q Q Q (Oj Q Q Q Q (Oj Q Q Q Q (Oj Q Q Q Q (Oj Q Q Q Q (Oj Q Q Q Q (Oj Q Q Q Q ?_)))))))))))
           refine Ok Q Q Q (by rw [hb66]; rfl) Q (Op20 (LT.pickT (v := (Bv true)) Q hb66) Q y2 (gH hb64 Q Q) Q (Op20 (LT.pickT (v := (Bv true)) Q hb64) Q Q (gH hb62 Q Q) Q (Op20 (LT.pickF (v := (Bv true)) Q hb62) Q Q (gH hb58 Q Q) Q (Op20 (LT.pickT (v := (Bv true)) Q hb58) Q Q Q Q (On (AWR.nil ⟨Q,Ent.of z2 J⟩))))))
          ·refine Op10 (LT.fieldPl Q fo32_0) Q (gH hb66 Q Q) Q (Op11 (LT.bload1 (c := (iC r3.Points)) Q ag3 (by exact Q)) Q Q (gH hb66 Q Q) Q (Op20 (LT.geq Q) Q y2 (gH hb66 Q Q) Q (mv (Bv (decide (4 ≤ r3.Points))) Q Q (gH hb66 Q Q) Q (AOR.split (fun hb67 => ?_) (fun hb67 => ?_)))))
           ·refine mv (Iv r4) Q Q (gH hb67 Q Q) Q (Op20 (LT.lss Q) Q y2 (gH hb67 Q Q) Q (mv (Bv (decide (r4 < 3))) Q Q (gH hb67 Q Q) Q (AOR.split (fun hb68 => ?_) (fun hb68 => ?_))))
            ·refine Ok Q Q Q (by rw [hb68]; rfl) Q (Ok Q Q Q (by rw [hb68]; rfl) Q (Ok Q Q Q (by rw [hb68]; rfl) Q (Ok Q Q Q (by rw [hb68]; rfl) Q (Op20 (LT.pickT (v := (Bv true)) Q hb68) Q y2 (gH hb67 Q Q) Q (Op20 (LT.pickT (v := (Bv true)) Q hb67) Q Q (gH hb66 Q Q) Q (Op20 (LT.pickF (v := (Bv true)) Q hb66) Q Q (gH hb64 Q Q) Q (Op20 (LT.pickT (v := (Bv true)) Q hb64) Q Q (gH hb62 Q Q) Q (Op20 (LT.pickF (v := (Bv true)) Q hb62) Q Q (gH hb58 Q Q) Q (Op20 (LT.pickT (v := (Bv true)) Q hb58) Q Q Q Q (On (AWR.nil ⟨Q,Ent.of z2 J⟩)))))))))))
            ·refine Op11 (LT.bloadN (out := [(iC r3.Points),(lo 23 r3.Bars.length)]) Q ag32 (infS inf32) sz32 (by exact Q) (by exact Q)) Q Q (gH hb68 Q Q) Q (Ob' fun r69 hr69 => (AOR.step (@LT.callF Try.prog _ _ 63 _ _ [(.agg [(iC r3.Points),(lo 23 r3.Bars.length)])] _ _ [(23,(pR 112 encTBar r3.Bars))] _ _ _ _ ((show Fw.Fn Try.prog 63 [(.agg [(iC r3.Points),(xF encTBar r3.Bars)])] [] (Cc (lo 42 r69.length)) [(42,(pR 3 encInt r69))] [] [42] from Fw.Fn.ren [(0,42)] (w_impl_FragileBars r3 r69 hr69) Q)) Q cb63 (.cons (.agg (.cons (.same Q) (.cons (.tloc Q Q) .nil))) .nil) Q Q J) z2 z1 (gH hb68 Q Q) Q (Op10 (LT.lenLoc Q und45) Q (gH hb68 Q Q) Q (Op20 (LT.gtr Q) Q y2 (gH hb68 Q Q) Q (Op20 (LT.pickF (v := (Bv (decide (0 < (r69.length : Int))))) Q hb68) Q Q (gH hb67 Q Q) Q (Op20 (LT.pickT (v := (Bv (decide (0 < (r69.length : Int))))) Q hb67) Q Q (gH hb66 Q Q) Q (Op20 (LT.pickF (v := (Bv (decide (0 < (r69.length : Int))))) Q hb66) Q Q (gH hb64 Q Q) Q (Op20 (LT.pickT (v := (Bv (decide (0 < (r69.length : Int))))) Q hb64) Q Q (gH hb62 Q Q) Q (Op20 (LT.pickF (v := (Bv (decide (0 < (r69.length : Int))))) Q hb62) Q Q (gH hb58 Q Q) Q (Op20 (LT.pickT (v := (Bv (decide (0 < (r69.length : Int))))) Q hb58) Q Q Q Q (On ?_)))))))))))
             refine AWR.nil ⟨Q,Ent.of z2 J⟩
           ·refine Ok Q Q Q (by rw [hb67]; rfl) Q (Ok Q Q Q (by rw [hb67]; rfl) Q (Ok Q Q Q (by rw [hb67]; rfl) Q (Oj Q Q Q Q (Oj Q Q Q Q (Oj Q Q Q Q (Oj Q Q Q Q (Ok Q Q Q (by rw [hb67]; rfl) Q (Op20 (LT.pickF (v := (Bv false)) Q hb67) Q y2 (gH hb66 Q Q) Q (Op20 (LT.pickF (v := (Bv false)) Q hb66) Q Q (gH hb64 Q Q) Q (Op20 (LT.pickT (v := (Bv false)) Q hb64) Q Q (gH hb62 Q Q) Q (Op20 (LT.pickF (v := (Bv false)) Q hb62) Q Q (gH hb58 Q Q) Q ?_)))))))))))
            refine Op20 (LT.pickT (v := (Bv false)) Q hb58) Q Q Q Q (On (AWR.nil ⟨Q,Ent.of z2 J⟩))
         ·refine Ok Q Q Q (by rw [hb64]; rfl) Q (Ok Q Q Q (by rw [hb64]; rfl) Q (Ok Q Q Q (by rw [hb64]; rfl) Q (Ok Q Q Q (by rw [hb64]; rfl) Q (Oj Q Q Q Q (Oj Q Q Q Q (Oj Q Q Q Q (Oj Q Q Q Q (Oj Q Q Q Q (Oj Q Q Q Q (Oj Q Q Q Q (Oj Q Q Q Q ?_)))))))))))
          refine Oj Q Q Q Q (Oj Q Q Q Q (Oj Q Q Q Q (Oj Q Q Q Q (Oj Q Q Q Q (Ok Q Q Q (by rw [hb64]; rfl) Q (Op20 (LT.pickF (v := (Bv false)) Q hb64) Q y2 (gH hb62 Q Q) Q (Op20 (LT.pickF (v := (Bv false)) Q hb62) Q Q (gH hb58 Q Q) Q (Op20 (LT.pickT (v := (Bv false)) Q hb58) Q Q Q Q (On (AWR.nil ⟨Q,Ent.of z2 J⟩))))))))))
       ·refine Ok Q Q Q (by rw [hb61]; rfl) Q (Ok Q Q Q (by rw [hb61]; rfl) Q (Op20 (LT.pickF (v := (Bv false)) Q hb61) Q y2 (gH hb58 Q Q) Q (mv (Bv false) Q Q (gH hb58 Q Q) Q (Op11 (LT.bloadN (out := [(iC r3.Points),(lo 23 r3.Bars.length)]) Q ag32 (infS inf32) sz32 (by exact Q) (by exact Q)) Q Q (gS Q Q) Q (Ob' fun r70 hr70 => (AOR.pure (@LT.callF Try.prog _ _ 54 _ _ [(.agg [(iC r3.Points),(lo 23 r3.Bars.length)])] _ _ [(23,(pR 112 encTBar r3.Bars))] _ _ _ _ (w_impl_IsGloballyRigid r3 r70 hr70) Q cb54 (.cons (.agg (.cons (.same Q) (.cons (.tloc Q Q) .nil))) .nil) Q Q J) z2 z1 (gS Q Q) Q (mv (Bv r70) Q Q (gS Q Q) Q (AOR.split (fun hb71 => ?_) (fun hb71 => ?_)))))))))
        ·refine Op11 (LT.bloadN (out := [(iC r3.Points),(lo 23 r3.Bars.length)]) Q ag32 (infS inf32) sz32 (by exact Q) (by exact Q)) Q Q (gH hb71 Q Q) Q (Ob' fun r72 hr72 => (AOR.pure (@LT.callF Try.prog _ _ 62 _ _ [(.agg [(iC r3.Points),(lo 23 r3.Bars.length)])] _ _ [(23,(pR 112 encTBar r3.Bars))] _ _ _ _ (w_impl_IsRigid r3 r72 hr72) Q cb62 (.cons (.agg (.cons (.same Q) (.cons (.tloc Q Q) .nil))) .nil) Q Q J) z2 z1 (gH hb71 Q Q) Q (Op10 (LT.not Q) Q (gH hb71 Q Q) Q (mv (Bv (!r72)) Q Q (gH hb71 Q Q) Q (AOR.split (fun hb73 => ?_) (fun hb73 => ?_))))))
         ·refine Ok Q Q Q (by rw [hb73]; rfl) Q (Ok Q Q Q (by rw [hb73]; rfl) Q (Ok Q Q Q (by rw [hb73]; rfl) Q (Ok Q Q Q (by rw [hb73]; rfl) Q (Oj Q Q Q Q (Oj Q Q Q Q (Oj Q Q Q Q (Oj Q Q Q Q (Oj Q Q Q Q (Oj Q Q Q Q (Oj Q Q Q Q (Oj Q Q Q Q ?_)))))))))))
          refine Ok Q Q Q (by rw [hb73]; rfl) Q (Op20 (LT.pickT (v := (Bv true)) Q hb73) Q y2 (gH hb71 Q Q) Q (Op20 (LT.pickT (v := (Bv true)) Q hb71) Q Q (gS Q Q) Q (Op20 (LT.pickF (v := (Bv true)) Q Q) Q Q (gH hb58 Q Q) Q (Op20 (LT.pickT (v := (Bv true)) Q hb58) Q Q Q Q (On (AWR.nil ⟨Q,Ent.of z2 J⟩))))))
         ·refine Op10 (LT.fieldPl Q fo32_0) Q (gH hb73 Q Q) Q (Op11 (LT.bload1 (c := (iC r3.Points)) Q ag3 (by exact Q)) Q Q (gH hb73 Q Q) Q (Op20 (LT.geq Q) Q y2 (gH hb73 Q Q) Q (mv (Bv (decide (4 ≤ r3.Points))) Q Q (gH hb73 Q Q) Q (AOR.split (fun hb74 => ?_) (fun hb74 => ?_)))))
          ·refine mv (Iv r4) Q Q (gH hb74 Q Q) Q (Op20 (LT.lss Q) Q y2 (gH hb74 Q Q) Q (mv (Bv (decide (r4 < 3))) Q Q (gH hb74 Q Q) Q (AOR.split (fun hb75 => ?_) (fun hb75 => ?_))))
           ·refine Ok Q Q Q (by rw [hb75]; rfl) Q (Ok Q Q Q (by rw [hb75]; rfl) Q (Ok Q Q Q (by rw [hb75]; rfl) Q (Ok Q Q Q (by rw [hb75]; rfl) Q (Op20 (LT.pickT (v := (Bv true)) Q hb75) Q y2 (gH hb74 Q Q) Q (Op20 (LT.pickT (v := (Bv true)) Q hb74) Q Q (gH hb73 Q Q) Q (Op20 (LT.pickF (v := (Bv true)) Q hb73) Q Q (gH hb71 Q Q) Q (Op20 (LT.pickT (v := (Bv true)) Q hb71) Q Q (gS Q Q) Q (Op20 (LT.pickF (v := (Bv true)) Q Q) Q Q (gH hb58 Q Q) Q (Op20 (LT.pickT (v := (Bv true)) Q hb58) Q Q Q Q (On (AWR.nil ⟨Q,Ent.of z2 J⟩)))))))))))
           ·refine Op11 (LT.bloadN (out := [(iC r3.Points),(lo 23 r3.Bars.length)]) Q ag32 (infS inf32) sz32 (by exact Q) (by exact Q)) Q Q (gH hb75 Q Q) Q (Ob' fun r76 hr76 => (AOR.step (@LT.callF Try.prog _ _ 63 _ _ [(.agg [(iC r3.Points),(lo 23 r3.Bars.length)])] _ _ [(23,(pR 112 encTBar r3.Bars))] _ _ _ _ ((show Fw.Fn Try.prog 63 [(.agg [(iC r3.Points),(xF encTBar r3.Bars)])] [] (Cc (lo 42 r76.length)) [(42,(pR 3 encInt r76))] [] [42] from Fw.Fn.ren [(0,42)] (w_impl_FragileBars r3 r76 hr76) Q)) Q cb63 (.cons (.agg (.cons (.same Q) (.cons (.tloc Q Q) .nil))) .nil) Q Q J) z2 z1 (gH hb75 Q Q) Q (Op10 (LT.lenLoc Q und45) Q (gH hb75 Q Q) Q (Op20 (LT.gtr Q) Q y2 (gH hb75 Q Q) Q (Op20 (LT.pickF (v := (Bv (decide (0 < (r76.length : Int))))) Q hb75) Q Q (gH hb74 Q Q) Q (Op20 (LT.pickT (v := (Bv (decide (0 < (r76.length : Int))))) Q hb74) Q Q (gH hb73 Q Q) Q (Op20 (LT.pickF (v := (Bv (decide (0 < (r76.length : Int))))) Q hb73) Q Q (gH hb71 Q Q) Q (Op20 (LT.pickT (v := (Bv (decide (0 < (r76.length : Int))))) Q hb71) Q Q (gS Q Q) Q (Op20 (LT.pickF (v := (Bv (decide (0 < (r76.length : Int))))) Q Q) Q Q (gH hb58 Q Q) Q (Op20 (LT.pickT (v := (Bv (decide (0 < (r76.length : Int))))) Q hb58) Q Q Q Q (On ?_)))))))))))
            refine AWR.nil ⟨Q,Ent.of z2 J⟩
          ·refine Ok Q Q Q (by rw [hb74]; rfl) Q (Ok Q Q Q (by rw [hb74]; rfl) Q (Ok Q Q Q (by rw [hb74]; rfl) Q (Oj Q Q Q Q (Oj Q Q Q Q (Oj Q Q Q Q (Oj Q Q Q Q (Ok Q Q Q (by rw [hb74]; rfl) Q (Op20 (LT.pickF (v := (Bv false)) Q hb74) Q y2 (gH hb73 Q Q) Q (Op20 (LT.pickF (v := (Bv false)) Q hb73) Q Q (gH hb71 Q Q) Q (Op20 (LT.pickT (v := (Bv false)) Q hb71) Q Q (gS Q Q) Q (Op20 (LT.pickF (v := (Bv false)) Q Q) Q Q (gH hb58 Q Q) Q ?_)))))))))))
           refine Op20 (LT.pickT (v := (Bv false)) Q hb58) Q Q Q Q (On (AWR.nil ⟨Q,Ent.of z2 J⟩))
        ·refine Ok Q Q Q (by rw [hb71]; rfl) Q (Ok Q Q Q (by rw [hb71]; rfl) Q (Ok Q Q Q (by rw [hb71]; rfl) Q (Ok Q Q Q (by rw [hb71]; rfl) Q (Oj Q Q Q Q (Oj Q Q Q Q (Oj Q Q Q Q (Oj Q Q Q Q (Oj Q Q Q Q (Oj Q Q Q Q (Oj Q Q Q Q (Oj Q Q Q Q ?_)))))))))))
         refine Oj Q Q Q Q (Oj Q Q Q Q (Oj Q Q Q Q (Oj Q Q Q Q (Oj Q Q Q Q (Ok Q Q Q (by rw [hb71]; rfl) Q (Op20 (LT.pickF (v := (Bv false)) Q hb71) Q y2 (gS Q Q) Q (Op20 (LT.pickF (v := (Bv false)) Q Q) Q Q (gH hb58 Q Q) Q (Op20 (LT.pickT (v := (Bv false)) Q hb58) Q Q Q Q (On (AWR.nil ⟨Q,Ent.of z2 J⟩))))))))))
      ·refine Ok Q Q Q (by rw [hb60]; rfl) Q (Ok Q Q Q (by rw [hb60]; rfl) Q (Ok Q Q Q (by rw [hb60]; rfl) Q (Op20 (LT.pickF (v := (Bv false)) Q hb60) Q y2 (gH hb58 Q Q) Q (mv (Bv false) Q Q (gH hb58 Q Q) Q (Ok Q Q Q Q Q (Ok Q Q Q Q Q (Op20 (LT.pickF (v := (Bv false)) Q Q) Q y2 (gH hb58 Q Q) Q (mv (Bv false) Q Q (gH hb58 Q Q) Q (Op11 (LT.bloadN (out := [(iC r3.Points),(lo 23 r3.Bars.length)]) Q ag32 (infS inf32) sz32 (by exact Q) (by exact Q)) Q Q (gS Q Q) Q (Ob' fun r77 hr77 => (AOR.pure (@LT.callF Try.prog _ _ 54 _ _ [(.agg [(iC r3.Points),(lo 23 r3.Bars.length)])] _ _ [(23,(pR 112 encTBar r3.Bars))] _ _ _ _ (w_impl_IsGloballyRigid r3 r77 hr77) Q cb54 (.cons (.agg (.cons (.same Q) (.cons (.tloc Q Q) .nil))) .nil) Q Q J) z2 z1 (gS Q Q) Q ?_)))))))))))
       refine mv (Bv r77) Q Q (gS Q Q) Q (AOR.split (fun hb78 => ?_) (fun hb78 => ?_))
       ·refine Op11 (LT.bloadN (out := [(iC r3.Points),(lo 23 r3.Bars.length)]) Q ag32 (infS inf32) sz32 (by exact Q) (by exact Q)) Q Q (gH hb78 Q Q) Q (Ob' fun r79 hr79 => (AOR.pure (@LT.callF Try.prog _ _ 62 _ _ [(.agg [(iC r3.Points),(lo 23 r3.Bars.length)])] _ _ [(23,(pR 112 encTBar r3.Bars))] _ _ _ _ (w_impl_IsRigid r3 r79 hr79) Q cb62 (.cons (.agg (.cons (.same Q) (.cons (.tloc Q Q) .nil))) .nil) Q Q J) z2 z1 (gH hb78 Q Q) Q (Op10 (LT.not Q) Q (gH hb78 Q Q) Q (mv (Bv (!r79)) Q Q (gH hb78 Q Q) Q (AOR.split (fun hb80 => ?_) (fun hb80 => ?_))))))
        ·refine Ok Q Q Q (by rw [hb80]; rfl) Q (Ok Q Q Q (by rw [hb80]; rfl) Q (Ok Q Q Q (by rw [hb80]; rfl) Q (Ok Q Q Q (by rw [hb80]; rfl) Q (Oj Q Q Q Q (Oj Q Q Q Q (Oj Q Q Q Q (Oj Q Q Q Q (Oj Q Q Q Q (Oj Q Q Q Q (Oj Q Q Q Q (Oj Q Q Q Q ?_)))))))))))
         refine Ok Q Q Q (by rw [hb80]; rfl) Q (Op20 (LT.pickT (v := (Bv true)) Q hb80) Q y2 (gH hb78 Q Q) Q (Op20 (LT.pickT (v := (Bv true)) Q hb78) Q Q (gS Q Q) Q (Op20 (LT.pickF (v := (Bv true)) Q Q) Q Q (gH hb58 Q Q) Q (Op20 (LT.pickT (v := (Bv true)) Q hb58) Q Q Q Q (On (AWR.nil ⟨Q,Ent.of z2 J⟩))))))
        ·refine Op10 (LT.fieldPl Q fo32_0) Q (gH hb80 Q Q) Q (Op11 (LT.bload1 (c := (iC r3.Points)) Q ag3 (by exact Q)) Q Q (gH hb80 Q Q) Q (Op20 (LT.geq Q) Q y2 (gH hb80 Q Q) Q (mv (Bv (decide (4 ≤ r3.Points))) Q Q (gH hb80 Q Q) Q (AOR.split (fun hb81 => ?_) (fun hb81 => ?_)))))
         ·refine mv (Iv r4) Q Q (gH hb81 Q Q) Q (Op20 (LT.lss Q) Q y2 (gH hb81 Q Q) Q (mv (Bv (decide (r4 < 3))) Q Q (gH hb81 Q Q) Q (AOR.split (fun hb82 => ?_) (fun hb82 => ?_))))
          ·refine Ok Q Q Q (by rw [hb82]; rfl) Q (Ok Q Q Q (by rw [hb82]; rfl) Q (Ok Q Q Q (by rw [hb82]; rfl) Q (Ok Q Q Q (by rw [hb82]; rfl) Q (Op20 (LT.pickT (v := (Bv true)) Q hb82) Q y2 (gH hb81 Q Q) Q (Op20 (LT.pickT (v := (Bv true)) Q hb81) Q Q (gH hb80 Q Q) Q (Op20 (LT.pickF (v := (Bv true)) Q hb80) Q Q (gH hb78 Q Q) Q (Op20 (LT.pickT (v := (Bv true)) Q hb78) Q Q (gS Q Q) Q (Op20 (LT.pickF (v := (Bv true)) Q Q) Q Q (gH hb58 Q Q) Q (Op20 (LT.pickT (v := (Bv true)) Q hb58) Q Q Q Q (On (AWR.nil ⟨Q,Ent.of z2 J⟩)))))))))))
          ·refine Op11 (LT.bloadN (out := [(iC r3.Points),(lo 23 r3.Bars.length)]) Q ag32 (infS inf32) sz32 (by exact Q) (by exact Q)) Q Q (gH hb82 Q Q) Q (Ob' fun r83 hr83 => (AOR.step (@LT.callF Try.prog _ _ 63 _ _ [(.agg [(iC r3.Points),(lo 23 r3.Bars.length)])] _ _ [(23,(pR 112 encTBar r3.Bars))] _ _ _ _ ((show Fw.Fn Try.prog 63 [(.agg [(iC r3.Points),(xF encTBar r3.Bars)])] [] (Cc (lo 42 r83.length)) [(42,(pR 3 encInt r83))] [] [42] from Fw.Fn.ren [(0,42)] (w_impl_FragileBars r3 r83 hr83) Q)) Q cb63 (.cons (.agg (.cons (.same Q) (.cons (.tloc Q Q) .nil))) .nil) Q Q J) z2 z1 (gH hb82 Q Q) Q (Op10 (LT.lenLoc Q und45) Q (gH hb82 Q Q) Q (Op20 (LT.gtr Q) Q y2 (gH hb82 Q Q) Q (Op20 (LT.pickF (v := (Bv (decide (0 < (r83.length : Int))))) Q hb82) Q Q (gH hb81 Q Q) Q (Op20 (LT.pickT (v := (Bv (decide (0 < (r83.length : Int))))) Q hb81) Q Q (gH hb80 Q Q) Q (Op20 (LT.pickF (v := (Bv (decide (0 < (r83.length : Int))))) Q hb80) Q Q (gH hb78 Q Q) Q (Op20 (LT.pickT (v := (Bv (decide (0 < (r83.length : Int))))) Q hb78) Q Q (gS Q Q) Q (Op20 (LT.pickF (v := (Bv (decide (0 < (r83.length : Int))))) Q Q) Q Q (gH hb58 Q Q) Q (Op20 (LT.pickT (v := (Bv (decide (0 < (r83.length : Int))))) Q hb58) Q Q Q Q (On ?_)))))))))))
           refine AWR.nil ⟨Q,Ent.of z2 J⟩
         ·refine Ok Q Q Q (by rw [hb81]; rfl) Q (Ok Q Q Q (by rw [hb81]; rfl) Q (Ok Q Q Q (by rw [hb81]; rfl) Q (Oj Q Q Q Q (Oj Q Q Q Q (Oj Q Q Q Q (Oj Q Q Q Q (Ok Q Q Q (by rw [hb81]; rfl) Q (Op20 (LT.pickF (v := (Bv false)) Q hb81) Q y2 (gH hb80 Q Q) Q (Op20 (LT.pickF (v := (Bv false)) Q hb80) Q Q (gH hb78 Q Q) Q (Op20 (LT.pickT (v := (Bv false)) Q hb78) Q Q (gS Q Q) Q (Op20 (LT.pickF (v := (Bv false)) Q Q) Q Q (gH hb58 Q Q) Q ?_)))))))))))
          refine Op20 (LT.pickT (v := (Bv false)) Q hb58) Q Q Q Q (On (AWR.nil ⟨Q,Ent.of z2 J⟩))
       ·refine Ok Q Q Q (by rw [hb78]; rfl) Q (Ok Q Q Q (by rw [hb78]; rfl) Q (Ok Q Q Q (by rw [hb78]; rfl) Q (Ok Q Q Q (by rw [hb78]; rfl) Q (Oj Q Q Q Q (Oj Q Q Q Q (Oj Q Q Q Q (Oj Q Q Q Q (Oj Q Q Q Q (Oj Q Q Q Q (Oj Q Q Q Q (Oj Q Q Q Q ?_)))))))))))
        refine Oj Q Q Q Q (Oj Q Q Q Q (Oj Q Q Q Q (Oj Q Q Q Q (Oj Q Q Q Q (Ok Q Q Q (by rw [hb78]; rfl) Q (Op20 (LT.pickF (v := (Bv false)) Q hb78) Q y2 (gS Q Q) Q (Op20 (LT.pickF (v := (Bv false)) Q Q) Q Q (gH hb58 Q Q) Q (Op20 (LT.pickT (v := (Bv false)) Q hb58) Q Q Q Q (On (AWR.nil ⟨Q,Ent.of z2 J⟩))))))))))
     ·refine Ok Q Q Q (by rw [hb58]; rfl) Q (Ok Q Q Q (by rw [hb58]; rfl) Q (Ok Q Q Q (by rw [hb58]; rfl) Q (Oj Q Q Q Q (Oj Q Q Q Q (Oj Q Q Q Q (Ok Q Q Q (by rw [hb58]; rfl) Q (Ok Q Q Q (by rw [hb58]; rfl) Q (Oj Q Q Q Q (Oj Q Q Q Q (Ok Q Q Q (by rw [hb58]; rfl) Q (Ok Q Q Q (by rw [hb58]; rfl) Q ?_)))))))))))
      refine Oj Q Q Q Q (Oj Q Q Q Q (Oj Q Q Q Q (Oj Q Q Q Q (Oj Q Q Q Q (Oj Q Q Q Q (Oj Q Q Q Q (Oj Q Q Q Q (Oj Q Q Q Q (Oj Q Q Q Q (Oj Q Q Q Q (Oj Q Q Q Q ?_)))))))))))
      refine Oj Q Q Q Q (Oj Q Q Q Q (Oj Q Q Q Q (Oj Q Q Q Q (Oj Q Q Q Q (Oj Q Q Q Q (Oj Q Q Q Q (Oj Q Q Q Q (Oj Q Q Q Q (Oj Q Q Q Q (Ok Q Q Q (by rw [hb58]; rfl) Q (Op20 (LT.pickF (v := (Bv false)) Q hb58) Q y2 Q Q ?_)))))))))))
      refine On (AWR.nil ⟨Q,Ent.of z2 J⟩)
    ·refine AWR.cond Q (fun hc84 => ?_) (fun hc84 => ?_)
     ·refine Ws (Wr ?_)
      refine asg (Bv false) Q y2 Q Q (On (AWR.ret (FPost.mk (.inr Q) z1 J Q ⟨PermP.sc,J⟩ J)))
     ·refine AWR.skip (Ws (Wr ?_))
      refine mv (Cc (xT encInt_u8 code)) Q Q Q Q (Ob' fun r85 hr85 => (AOR.step (@LT.callF Try.prog _ _ 64 _ _ [(.c (xT encInt_u8 code))] _ _ [] _ _ _ _ ((show Fw.Fn Try.prog 64 [(.c (xT encInt_u8 code))] [] (.tup [(.agg [(iC r85.1.Points),(lo 44 r85.1.Bars.length)]),(.c (iC r85.2))]) [(44,(pR 112 encTBar r85.1.Bars))] [] [44] from Fw.Fn.ren [(0,44)] (w_spec_DrawCutSets code r85 hr85) Q)) Q cb64 (.cons (.c (.same Q)) .nil) Q Q J) z2 J Q Q (mv (.tup [(.agg [(iC r85.1.Points),(lo 44 r85.1.Bars.length)]),(.c (iC r85.2))]) Q Q Q Q (Op10 (LT.extract (v := (.agg [(iC r85.1.Points),(lo 44 r85.1.Bars.length)])) Q (by exact Q)) Q Q Q (Op10 (LT.extract (v := (.c (iC r85.2))) Q (by exact Q)) Q Q Q (Os00 (LT.alloc (n := 45) (cells := [(iC 0),(sC nilV)]) Q ti32 Q Q Q) Q Q (Os21 (LT.bstore (v := (.agg [(iC r85.1.Points),(lo 44 r85.1.Bars.length)])) (out := [(iC r85.1.Points),(lo 44 r85.1.Bars.length)]) Q Q (infS inf32) sz32 (by exact Q) (by exact K Q) (by exact Q)) Q Q Q Q Q (asg (Iv r85.2) Q Q Q Q (On (Ws ?_))))))))))
      refine en [(0,(Cc (xT encInt_u8 code))),(5,(Cc (.pl 45 0))),(6,(Iv r85.2))] [(44,(pR 112 encTBar r85.1.Bars)),(45,(.row 32 [[(iC r85.1.Points),(lo 44 r85.1.Bars.length)]]))] z3 z2 (Wr (mv (Cc (xT encInt_u8 code)) Q Q Q Q (Ob' fun r86 hr86 => (AOR.step (@LT.callF Try.prog _ _ 65 _ _ [(.c (xT encInt_u8 code))] _ _ [] _ _ _ _ ((show Fw.Fn Try.prog 65 [(.c (xT encInt_u8 code))] [] (.tup [(.agg [(iC r86.1.Points),(lo 47 r86.1.Bars.length)]),(.c (iC r86.2))]) [(47,(pR 112 encTBar r86.1.Bars))] [] [47] from Fw.Fn.ren [(0,47)] (w_spec_DrawIsKConnected code r86 hr86) Q)) Q cb65 (.cons (.c (.same Q)) .nil) Q Q J) z2 J Q Q (mv (.tup [(.agg [(iC r86.1.Points),(lo 47 r86.1.Bars.length)]),(.c (iC r86.2))]) Q Q Q Q (Op10 (LT.extract (v := (.agg [(iC r86.1.Points),(lo 47 r86.1.Bars.length)])) Q (by exact Q)) Q Q Q (Op10 (LT.extract (v := (.c (iC r86.2))) Q (by exact Q)) Q Q Q (Os00 (LT.alloc (n := 48) (cells := [(iC 0),(sC nilV)]) Q ti32 Q Q Q) Q Q (Os21 (LT.bstore (v := (.agg [(iC r86.1.Points),(lo 47 r86.1.Bars.length)])) (out := [(iC r86.1.Points),(lo 47 r86.1.Bars.length)]) Q Q (infS inf32) sz32 (by exact Q) (by exact K Q) (by exact Q)) Q Q Q Q Q (asg (Iv r86.2) Q Q Q Q (On (Ws ?_))))))))))))
      refine en [(0,(Cc (xT encInt_u8 code))),(5,(Cc (.pl 45 0))),(6,(Iv r85.2)),(7,(Cc (.pl 48 0))),(8,(Iv r86.2))] [(44,(pR 112 encTBar r85.1.Bars)),(45,(.row 32 [[(iC r85.1.Points),(lo 44 r85.1.Bars.length)]])),(47,(pR 112 encTBar r86.1.Bars)),(48,(.row 32 [[(iC r86.1.Points),(lo 47 r86.1.Bars.length)]]))] z5 z4 (Wr (mv (Cc (xT encInt_u8 code)) Q Q Q Q (Ob' fun r87 hr87 => (AOR.step (@LT.callF Try.prog _ _ 66 _ _ [(.c (xT encInt_u8 code))] _ _ [] _ _ _ _ ((show Fw.Fn Try.prog 66 [(.c (xT encInt_u8 code))] [] (.tup [(.agg [(iC r87.1.Points),(lo 50 r87.1.Bars.length)]),(.c (lo 51 r87.2.length))]) [(50,(pR 112 encTBar r87.1.Bars)),(51,(pR 3 encInt r87.2))] [] [50,51] from Fw.Fn.ren [(0,50),(1,51)] (w_spec_DrawWithoutPoints code r87 hr87) Q)) Q cb66 (.cons (.c (.same Q)) .nil) Q Q J) z2 J Q Q (mv (.tup [(.agg [(iC r87.1.Points),(lo 50 r87.1.Bars.length)]),(.c (lo 51 r87.2.length))]) Q Q Q Q (Op10 (LT.extract (v := (.agg [(iC r87.1.Points),(lo 50 r87.1.Bars.length)])) Q (by exact Q)) Q Q Q (Op10 (LT.extract (v := (.c (lo 51 r87.2.length))) Q (by exact Q)) Q Q Q (Os00 (LT.alloc (n := 52) (cells := [(iC 0),(sC nilV)]) Q ti32 Q Q Q) Q Q (Os21 (LT.bstore (v := (.agg [(iC r87.1.Points),(lo 50 r87.1.Bars.length)])) (out := [(iC r87.1.Points),(lo 50 r87.1.Bars.length)]) Q Q (infS inf32) sz32 (by exact Q) (by exact K Q) (by exact Q)) Q Q Q Q Q (asg (Cc (lo 51 r87.2.length)) Q Q Q Q (On (Ws ?_))))))))))))
      refine en [(0,(Cc (xT encInt_u8 code))),(5,(Cc (.pl 45 0))),(6,(Iv r85.2)),(7,(Cc (.pl 48 0))),(8,(Iv r86.2)),(9,(Cc (.pl 52 0))),(10,(Cc (lo 51 r87.2.length)))] [(44,(pR 112 encTBar r85.1.Bars)),(45,(.row 32 [[(iC r85.1.Points),(lo 44 r85.1.Bars.length)]])),(47,(pR 112 encTBar r86.1.Bars)),(48,(.row 32 [[(iC r86.1.Points),(lo 47 r86.1.Bars.length)]])),(50,(pR 112 encTBar r87.1.Bars)),(51,(pR 3 encInt r87.2)),(52,(.row 32 [[(iC r87.1.Points),(lo 50 r87.1.Bars.length)]]))] z7 z7 (Wr (mv (Cc (xT encInt_u8 code)) Q Q Q Q (Ob' fun r88 hr88 => (AOR.step (@LT.callF Try.prog _ _ 67 _ _ [(.c (xT encInt_u8 code))] _ _ [] _ _ _ _ ((show Fw.Fn Try.prog 67 [(.c (xT encInt_u8 code))] [] (Ag  [(iC r88.Points),(lo 54 r88.Bars.length)]) [(54,(pR 112 encTBar r88.Bars))] [] [54] from Fw.Fn.ren [(0,54)] (w_spec_DrawWhyNotGlobal code r88 hr88) Q)) Q cb67 (.cons (.c (.same Q)) .nil) Q Q J) z2 J Q Q (Os00 (LT.alloc (n := 55) (cells := [(iC 0),(sC nilV)]) Q ti32 Q Q Q) Q Q (Os21 (LT.bstore (v := (.agg [(iC r88.Points),(lo 54 r88.Bars.length)])) (out := [(iC r88.Points),(lo 54 r88.Bars.length)]) Q Q (infS inf32) sz32 (by exact Q) (by exact K Q) (by exact Q)) Q Q Q Q Q (On (Ws ?_))))))))
      refine AWR.joinK (fun j119 => ([(2,(Bv j119))],[])) ?_ (fun j119 _ => ?_)
      ·refine AWR.draw mixed (Dp11 (LT.bloadN (out := [(iC r85.1.Points),(lo 44 r85.1.Bars.length)]) Q ag32 (infS inf32) sz32 (by exact Q) (by exact Q)) Q Q Q Q (Dp10 (LT.move (v := (Iv r85.2)) Q) Q Q Q (AOD.bind fun r120 hr120 => (AOD.step (@LT.callF Try.prog _ _ 68 _ _ [(.agg [(iC r85.1.Points),(lo 44 r85.1.Bars.length)]),(.c (iC r85.2))] _ _ [(44,(pR 112 encTBar r85.1.Bars))] _ _ _ _ ((show Fw.Fn Try.prog 68 [(.agg [(iC r85.1.Points),(xF encTBar r85.1.Bars)]),(.c (iC r85.2))] [] (Cc (lo 57 r120.length)) [(57,(.trow 45 58 (lensOf r120))),(58,(.pool 3 (rowsOf encInt r120)))] [] [57,58] from Fw.Fn.ren [(0,57),(1,58)] (w_impl_CutSets r85.1 r85.2 r120 hr120) Q)) Q cb68 (.cons (.agg (.cons (.same Q) (.cons (.tloc Q Q) .nil))) (.cons (.c (.same Q)) .nil)) Q Q J) z3 z1 Q Q (Dp11 (LT.bloadN (out := [(iC r85.1.Points),(lo 44 r85.1.Bars.length)]) Q ag32 (infS inf32) sz32 (by exact Q) (by exact Q)) Q Q Q Q (Dp10 (LT.move (v := (Iv r85.2)) Q) Q Q Q (AOD.bind fun r121 hr121 => (AOD.step (@LT.callF Try.prog _ _ 69 _ _ [(.agg [(iC r85.1.Points),(lo 44 r85.1.Bars.length)]),(.c (iC r85.2))] _ _ [(44,(pR 112 encTBar r85.1.Bars))] _ _ _ _ ((show Fw.Fn Try.prog 69 [(.agg [(iC r85.1.Points),(xF encTBar r85.1.Bars)]),(.c (iC r85.2))] [] (Cc (lo 60 r121.length)) [(60,(pR 45 (encLInt true) r121))] [] [60] from Fw.Fn.ren [(0,60)] (w_spec_CutSets r85.1 r85.2 r121 hr121) Q)) Q cb69 (.cons (.agg (.cons (.same Q) (.cons (.tloc Q Q) .nil))) (.cons (.c (.same Q)) .nil)) Q Q J) z3 z1 Q Q (AOD.bind fun r122 hr122 => (AOD.pure (@LT.callF Try.prog _ _ 58 _ _ [(.c (lo 57 r120.length)),(.c (lo 60 r121.length))] _ _ [(57,(.trow 45 58 (lensOf r120))),(58,(.pool 3 (rowsOf encInt r120))),(60,(pR 45 (encLInt true) r121))] _ _ _ _ (w_laws_sameSets r120 r121 r122 hr122) Q cb58 (.cons (.c (.ttrow Q Q Q (fun _ => Q))) (.cons (.c (.weak (.tloc (enc := encLInt true) Q Q) (QW.xsm qw_encLInt (fun h => h) _))) .nil)) Q Q J) z3 z3 Q Q (Dp10 (LT.move (v := (Bv r122)) Q) Q Q Q ?_)))))))))))
       refine AOD.split (fun hb123 => ?_) (fun hb123 => ?_)
       ·refine Dp11 (LT.bloadN (out := [(iC r86.1.Points),(lo 47 r86.1.Bars.length)]) Q ag32 (infS inf32) sz32 (by exact Q) (by exact Q)) Q Q (gH hb123 Q Q) Q (Dp10 (LT.move (v := (Iv r86.2)) Q) Q (gH hb123 Q Q) Q (AOD.bind fun r124 hr124 => (AOD.pure (@LT.callF Try.prog _ _ 70 _ _ [(.agg [(iC r86.1.Points),(lo 47 r86.1.Bars.length)]),(.c (iC r86.2))] _ _ [(47,(pR 112 encTBar r86.1.Bars))] _ _ _ _ (w_impl_IsKConnected r86.1 r86.2 r124 hr124) Q cb70 (.cons (.agg (.cons (.same Q) (.cons (.tloc Q Q) .nil))) (.cons (.c (.same Q)) .nil)) Q Q J) z3 z1 (gH hb123 Q Q) Q (Dp11 (LT.bloadN (out := [(iC r86.1.Points),(lo 47 r86.1.Bars.length)]) Q ag32 (infS inf32) sz32 (by exact Q) (by exact Q)) Q Q (gH hb123 Q Q) Q (Dp10 (LT.move (v := (Iv r86.2)) Q) Q (gH hb123 Q Q) Q (AOD.bind fun r125 hr125 => (AOD.pure (@LT.callF Try.prog _ _ 71 _ _ [(.agg [(iC r86.1.Points),(lo 47 r86.1.Bars.length)]),(.c (iC r86.2))] _ _ [(47,(pR 112 encTBar r86.1.Bars))] _ _ _ _ (w_spec_IsKConnected r86.1 r86.2 r125 hr125) Q cb71 (.cons (.agg (.cons (.same Q) (.cons (.tloc Q Q) .nil))) (.cons (.c (.same Q)) .nil)) Q Q J) z3 z1 (gH hb123 Q Q) Q (Dp20 (LT.eqlB Q und4) Q Q (gH hb123 Q Q) Q (Dp20 (LT.pickT (v := (Bv (r124 == r125))) Q hb123) Q Q Q Q (Dp10 (LT.move (v := (Bv (r124 == r125))) Q) Q Q Q (AOD.split (fun hb126 => ?_) (fun hb126 => ?_))))))))))))
        ·refine Dp10 (LT.move (v := (Iv r86.2)) Q) Q (gH hb126 Q Q) Q (Dp20 (LT.lss Q) Q y2 (gH hb126 Q Q) Q (Dp10 (LT.move (v := (Bv (decide (r86.2 < 2)))) Q) Q (gH hb126 Q Q) Q (AOD.split (fun hb127 => ?_) (fun hb127 => ?_))))
         ·refine AOD.skip (gH hb127 Q Q) Q (AOD.skip (gH hb127 Q Q) Q (AOD.skip (gH hb127 Q Q) Q (AOD.skip (gH hb127 Q Q) Q (Dp20 (LT.pickT (v := (Bv true)) Q hb127) Q y2 (gH hb126 Q Q) Q (Dp10 (LT.move (v := (Bv true)) Q) Q (gH hb126 Q Q) Q (AOD.skip (gS Q Q) Q (AOD.skip (gS Q Q) Q (AOD.skip (gS Q Q) Q (AOD.skip (gS Q Q) Q (Dp20 (LT.pickT (v := (Bv true)) Q Q) Q y2 (gH hb126 Q Q) Q (Dp20 (LT.pickT (v := (Bv true)) Q hb126) Q Q Q Q ?_)))))))))))
          refine Dp10 (LT.move (v := (Bv true)) Q) Q Q Q (Dp11 (LT.bloadN (out := [(iC r87.1.Points),(lo 50 r87.1.Bars.length)]) Q ag32 (infS inf32) sz32 (by exact Q) (by exact Q)) Q Q (gS Q Q) Q (Dp10 (LT.move (v := (Cc (lo 51 r87.2.length))) Q) Q (gS Q Q) Q (AOD.bind fun r128 hr128 => (AOD.step (@LT.callF Try.prog _ _ 73 _ _ [(.agg [(iC r87.1.Points),(lo 50 r87.1.Bars.length)]),(.c (lo 51 r87.2.length))] _ _ [(50,(pR 112 encTBar r87.1.Bars)),(51,(pR 3 encInt r87.2))] _ _ _ _ ((show Fw.Fn Try.prog 73 [(.agg [(iC r87.1.Points),(xF encTBar r87.1.Bars)]),(.c (xF encInt r87.2))] [] (Ag  [(iC r128.Points),(lo 65 r128.Bars.length)]) [(65,(pR 112 encTBar r128.Bars))] [] [65] from Fw.Fn.ren [(0,65)] (w_impl_WithoutPoints r87.1 r87.2 r128 hr128) Q)) Q cb73 (.cons (.agg (.cons (.same Q) (.cons (.tloc Q Q) .nil))) (.cons (.c (.tloc Q Q)) .nil)) Q Q J) z3 z2 (gS Q Q) Q (Dp11 (LT.bloadN (out := [(iC r87.1.Points),(lo 50 r87.1.Bars.length)]) Q ag32 (infS inf32) sz32 (by exact Q) (by exact Q)) Q Q (gS Q Q) Q (Dp10 (LT.move (v := (Cc (lo 51 r87.2.length))) Q) Q (gS Q Q) Q (AOD.bind fun r129 hr129 => (AOD.step (@LT.callF Try.prog _ _ 74 _ _ [(.agg [(iC r87.1.Points),(lo 50 r87.1.Bars.length)]),(.c (lo 51 r87.2.length))] _ _ [(50,(pR 112 encTBar r87.1.Bars)),(51,(pR 3 encInt r87.2))] _ _ _ _ ((show Fw.Fn Try.prog 74 [(.agg [(iC r87.1.Points),(xF encTBar r87.1.Bars)]),(.c (xF encInt r87.2))] [] (Ag  [(iC r129.Points),(lo 67 r129.Bars.length)]) [(67,(pR 112 encTBar r129.Bars))] [] [67] from Fw.Fn.ren [(0,67)] (w_spec_WithoutPoints r87.1 r87.2 r129 hr129) Q)) Q cb74 (.cons (.agg (.cons (.same Q) (.cons (.tloc Q Q) .nil))) (.cons (.c (.tloc Q Q)) .nil)) Q Q J) z3 z2 (gS Q Q) Q (AOD.bind fun r130 hr130 => (AOD.pure (@LT.callF Try.prog _ _ 72 _ _ [(.agg [(iC r128.Points),(lo 65 r128.Bars.length)]),(.agg [(iC r129.Points),(lo 67 r129.Bars.length)])] _ _ [(65,(pR 112 encTBar r128.Bars)),(67,(pR 112 encTBar r129.Bars))] _ _ _ _ (w_spec_EqualGraphs r128 r129 r130 hr130) Q cb72 (.cons (.agg (.cons (.same Q) (.cons (.tloc Q Q) .nil))) (.cons (.agg (.cons (.same Q) (.cons (.tloc Q Q) .nil))) .nil)) Q Q J) z3 z2 (gS Q Q) Q (Dp20 (LT.pickT (v := (Bv r130)) Q Q) Q Q Q Q ?_)))))))))))
          refine Dp10 (LT.move (v := (Bv r130)) Q) Q Q Q (AOD.split (fun hb131 => ?_) (fun hb131 => ?_))
          ·refine Dp11 (LT.bloadN (out := [(iC r88.Points),(lo 54 r88.Bars.length)]) Q ag32 (infS inf32) sz32 (by exact Q) (by exact Q)) Q Q (gH hb131 Q Q) Q (AOD.bind fun r132 hr132 => (AOD.pure (@LT.callF Try.prog _ _ 56 _ _ [(.agg [(iC r88.Points),(lo 54 r88.Bars.length)])] _ _ [(54,(pR 112 encTBar r88.Bars))] _ _ _ _ (w_impl_WhyNotGlobal r88 r132 hr132) Q cb56 (.cons (.agg (.cons (.same Q) (.cons (.tloc Q Q) .nil))) .nil) Q Q J) z2 z1 (gH hb131 Q Q) Q (Dp20 (LT.eqlS Q) Q y2 (gH hb131 Q Q) Q (Dp11 (LT.bloadN (out := [(iC r88.Points),(lo 54 r88.Bars.length)]) Q ag32 (infS inf32) sz32 (by exact Q) (by exact Q)) Q Q (gH hb131 Q Q) Q (AOD.bind fun r133 hr133 => (AOD.pure (@LT.callF Try.prog _ _ 54 _ _ [(.agg [(iC r88.Points),(lo 54 r88.Bars.length)])] _ _ [(54,(pR 112 encTBar r88.Bars))] _ _ _ _ (w_impl_IsGloballyRigid r88 r133 hr133) Q cb54 (.cons (.agg (.cons (.same Q) (.cons (.tloc Q Q) .nil))) .nil) Q Q J) z2 z1 (gH hb131 Q Q) Q (Dp20 (LT.eqlB Q und4) Q Q (gH hb131 Q Q) Q (Dp20 (LT.pickT (v := (Bv ((r132.toList == ByteArray.empty.toList) == r133))) Q hb131) Q Q Q Q (Dp10 (LT.assign (v := (Bv ((r132.toList == ByteArray.empty.toList) == r133))) Q) Q Q Q (AOD.nil (by kernel_rfl) (AWR.nil ⟨Q,Ent.of z1 J⟩)))))))))))
          ·refine AOD.skip (gH hb131 Q Q) Q (AOD.skip (gH hb131 Q Q) Q (AOD.skip (gH hb131 Q Q) Q (AOD.skip (gH hb131 Q Q) Q (AOD.skip (gH hb131 Q Q) Q (AOD.skip (gH hb131 Q Q) Q (Dp20 (LT.pickF (v := (Bv false)) Q hb131) Q y2 Q Q (Dp10 (LT.assign (v := (Bv false)) Q) Q Q Q (AOD.nil (by kernel_rfl) (AWR.nil ⟨Q,Ent.of z1 J⟩)))))))))
         ·refine Dp11 (LT.bloadN (out := [(iC r86.1.Points),(lo 47 r86.1.Bars.length)]) Q ag32 (infS inf32) sz32 (by exact Q) (by exact Q)) Q Q (gH hb127 Q Q) Q (Dp10 (LT.move (v := (Iv r86.2)) Q) Q (gH hb127 Q Q) Q (AOD.bind fun r134 hr134 => (AOD.pure (@LT.callF Try.prog _ _ 70 _ _ [(.agg [(iC r86.1.Points),(lo 47 r86.1.Bars.length)]),(.c (iC r86.2))] _ _ [(47,(pR 112 encTBar r86.1.Bars))] _ _ _ _ (w_impl_IsKConnected r86.1 r86.2 r134 hr134) Q cb70 (.cons (.agg (.cons (.same Q) (.cons (.tloc Q Q) .nil))) (.cons (.c (.same Q)) .nil)) Q Q J) z3 z1 (gH hb127 Q Q) Q (Dp10 (LT.not Q) Q (gH hb127 Q Q) Q (Dp20 (LT.pickF (v := (Bv (!r134))) Q hb127) Q Q (gH hb126 Q Q) Q (Dp10 (LT.move (v := (Bv (!r134))) Q) Q (gH hb126 Q Q) Q (AOD.split (fun hb135 => ?_) (fun hb135 => ?_))))))))
          ·refine AOD.skip (gH hb135 Q Q) Q (AOD.skip (gH hb135 Q Q) Q (AOD.skip (gH hb135 Q Q) Q (AOD.skip (gH hb135 Q Q) Q (Dp20 (LT.pickT (v := (Bv true)) Q hb135) Q y2 (gH hb126 Q Q) Q (Dp20 (LT.pickT (v := (Bv true)) Q hb126) Q Q Q Q (Dp10 (LT.move (v := (Bv true)) Q) Q Q Q (Dp11 (LT.bloadN (out := [(iC r87.1.Points),(lo 50 r87.1.Bars.length)]) Q ag32 (infS inf32) sz32 (by exact Q) (by exact Q)) Q Q (gS Q Q) Q (Dp10 (LT.move (v := (Cc (lo 51 r87.2.length))) Q) Q (gS Q Q) Q (AOD.bind fun r136 hr136 => (AOD.step (@LT.callF Try.prog _ _ 73 _ _ [(.agg [(iC r87.1.Points),(lo 50 r87.1.Bars.length)]),(.c (lo 51 r87.2.length))] _ _ [(50,(pR 112 encTBar r87.1.Bars)),(51,(pR 3 encInt r87.2))] _ _ _ _ ((show Fw.Fn Try.prog 73 [(.agg [(iC r87.1.Points),(xF encTBar r87.1.Bars)]),(.c (xF encInt r87.2))] [] (Ag  [(iC r136.Points),(lo 65 r136.Bars.length)]) [(65,(pR 112 encTBar r136.Bars))] [] [65] from Fw.Fn.ren [(0,65)] (w_impl_WithoutPoints r87.1 r87.2 r136 hr136) Q)) Q cb73 (.cons (.agg (.cons (.same Q) (.cons (.tloc Q Q) .nil))) (.cons (.c (.tloc Q Q)) .nil)) Q Q J) z3 z2 (gS Q Q) Q (Dp11 (LT.bloadN (out := [(iC r87.1.Points),(lo 50 r87.1.Bars.length)]) Q ag32 (infS inf32) sz32 (by exact Q) (by exact Q)) Q Q (gS Q Q) Q ?_)))))))))))
           refine Dp10 (LT.move (v := (Cc (lo 51 r87.2.length))) Q) Q (gS Q Q) Q (AOD.bind fun r137 hr137 => (AOD.step (@LT.callF Try.prog _ _ 74 _ _ [(.agg [(iC r87.1.Points),(lo 50 r87.1.Bars.length)]),(.c (lo 51 r87.2.length))] _ _ [(50,(pR 112 encTBar r87.1.Bars)),(51,(pR 3 encInt r87.2))] _ _ _ _ ((show Fw.Fn Try.prog 74 [(.agg [(iC r87.1.Points),(xF encTBar r87.1.Bars)]),(.c (xF encInt r87.2))] [] (Ag  [(iC r137.Points),(lo 67 r137.Bars.length)]) [(67,(pR 112 encTBar r137.Bars))] [] [67] from Fw.Fn.ren [(0,67)] (w_spec_WithoutPoints r87.1 r87.2 r137 hr137) Q)) Q cb74 (.cons (.agg (.cons (.same Q) (.cons (.tloc Q Q) .nil))) (.cons (.c (.tloc Q Q)) .nil)) Q Q J) z3 z2 (gS Q Q) Q (AOD.bind fun r138 hr138 => (AOD.pure (@LT.callF Try.prog _ _ 72 _ _ [(.agg [(iC r136.Points),(lo 65 r136.Bars.length)]),(.agg [(iC r137.Points),(lo 67 r137.Bars.length)])] _ _ [(65,(pR 112 encTBar r136.Bars)),(67,(pR 112 encTBar r137.Bars))] _ _ _ _ (w_spec_EqualGraphs r136 r137 r138 hr138) Q cb72 (.cons (.agg (.cons (.same Q) (.cons (.tloc Q Q) .nil))) (.cons (.agg (.cons (.same Q) (.cons (.tloc Q Q) .nil))) .nil)) Q Q J) z3 z2 (gS Q Q) Q (Dp20 (LT.pickT (v := (Bv r138)) Q Q) Q Q Q Q (Dp10 (LT.move (v := (Bv r138)) Q) Q Q Q (AOD.split (fun hb139 => ?_) (fun hb139 => ?_))))))))
           ·refine Dp11 (LT.bloadN (out := [(iC r88.Points),(lo 54 r88.Bars.length)]) Q ag32 (infS inf32) sz32 (by exact Q) (by exact Q)) Q Q (gH hb139 Q Q) Q (AOD.bind fun r140 hr140 => (AOD.pure (@LT.callF Try.prog _ _ 56 _ _ [(.agg [(iC r88.Points),(lo 54 r88.Bars.length)])] _ _ [(54,(pR 112 encTBar r88.Bars))] _ _ _ _ (w_impl_WhyNotGlobal r88 r140 hr140) Q cb56 (.cons (.agg (.cons (.same Q) (.cons (.tloc Q Q) .nil))) .nil) Q Q J) z2 z1 (gH hb139 Q Q) Q (Dp20 (LT.eqlS Q) Q y2 (gH hb139 Q Q) Q (Dp11 (LT.bloadN (out := [(iC r88.Points),(lo 54 r88.Bars.length)]) Q ag32 (infS inf32) sz32 (by exact Q) (by exact Q)) Q Q (gH hb139 Q Q) Q (AOD.bind fun r141 hr141 => (AOD.pure (@LT.callF Try.prog _ _ 54 _ _ [(.agg [(iC r88.Points),(lo 54 r88.Bars.length)])] _ _ [(54,(pR 112 encTBar r88.Bars))] _ _ _ _ (w_impl_IsGloballyRigid r88 r141 hr141) Q cb54 (.cons (.agg (.cons (.same Q) (.cons (.tloc Q Q) .nil))) .nil) Q Q J) z2 z1 (gH hb139 Q Q) Q (Dp20 (LT.eqlB Q und4) Q Q (gH hb139 Q Q) Q (Dp20 (LT.pickT (v := (Bv ((r140.toList == ByteArray.empty.toList) == r141))) Q hb139) Q Q Q Q (Dp10 (LT.assign (v := (Bv ((r140.toList == ByteArray.empty.toList) == r141))) Q) Q Q Q (AOD.nil (by kernel_rfl) (AWR.nil ⟨Q,Ent.of z1 J⟩)))))))))))
           ·refine AOD.skip (gH hb139 Q Q) Q (AOD.skip (gH hb139 Q Q) Q (AOD.skip (gH hb139 Q Q) Q (AOD.skip (gH hb139 Q Q) Q (AOD.skip (gH hb139 Q Q) Q (AOD.skip (gH hb139 Q Q) Q (Dp20 (LT.pickF (v := (Bv false)) Q hb139) Q y2 Q Q (Dp10 (LT.assign (v := (Bv false)) Q) Q Q Q (AOD.nil (by kernel_rfl) (AWR.nil ⟨Q,Ent.of z1 J⟩)))))))))
          ·refine Dp11 (LT.bloadN (out := [(iC r86.1.Points),(lo 47 r86.1.Bars.length)]) Q ag32 (infS inf32) sz32 (by exact Q) (by exact Q)) Q Q (gH hb135 Q Q) Q (Dp10 (LT.move (v := (Iv r86.2)) Q) Q (gH hb135 Q Q) Q (Dp20 (LT.sub Q) Q y2 (gH hb135 Q Q) Q (AOD.bind fun r142 hr142 => (AOD.pure (@LT.callF Try.prog _ _ 70 _ _ [(.agg [(iC r86.1.Points),(lo 47 r86.1.Bars.length)]),(.c (iC (w64 (r86.2 - 1))))] _ _ [(47,(pR 112 encTBar r86.1.Bars))] _ _ _ _ (w_impl_IsKConnected r86.1 (w64 (r86.2 - 1)) r142 hr142) Q cb70 (.cons (.agg (.cons (.same Q) (.cons (.tloc Q Q) .nil))) (.cons (.c (.same Q)) .nil)) Q Q J) z3 z1 (gH hb135 Q Q) Q (Dp20 (LT.pickF (v := (Bv r142)) Q hb135) Q Q (gH hb126 Q Q) Q (Dp20 (LT.pickT (v := (Bv r142)) Q hb126) Q Q Q Q (Dp10 (LT.move (v := (Bv r142)) Q) Q Q Q (AOD.split (fun hb143 => ?_) (fun hb143 => ?_)))))))))
           ·refine Dp11 (LT.bloadN (out := [(iC r87.1.Points),(lo 50 r87.1.Bars.length)]) Q ag32 (infS inf32) sz32 (by exact Q) (by exact Q)) Q Q (gH hb143 Q Q) Q (Dp10 (LT.move (v := (Cc (lo 51 r87.2.length))) Q) Q (gH hb143 Q Q) Q (AOD.bind fun r144 hr144 => (AOD.step (@LT.callF Try.prog _ _ 73 _ _ [(.agg [(iC r87.1.Points),(lo 50 r87.1.Bars.length)]),(.c (lo 51 r87.2.length))] _ _ [(50,(pR 112 encTBar r87.1.Bars)),(51,(pR 3 encInt r87.2))] _ _ _ _ ((show Fw.Fn Try.prog 73 [(.agg [(iC r87.1.Points),(xF encTBar r87.1.Bars)]),(.c (xF encInt r87.2))] [] (Ag  [(iC r144.Points),(lo 65 r144.Bars.length)]) [(65,(pR 112 encTBar r144.Bars))] [] [65] from Fw.Fn.ren [(0,65)] (w_impl_WithoutPoints r87.1 r87.2 r144 hr144) Q)) Q cb73 (.cons (.agg (.cons (.same Q) (.cons (.tloc Q Q) .nil))) (.cons (.c (.tloc Q Q)) .nil)) Q Q J) z3 z2 (gH hb143 Q Q) Q (Dp11 (LT.bloadN (out := [(iC r87.1.Points),(lo 50 r87.1.Bars.length)]) Q ag32 (infS inf32) sz32 (by exact Q) (by exact Q)) Q Q (gH hb143 Q Q) Q (Dp10 (LT.move (v := (Cc (lo 51 r87.2.length))) Q) Q (gH hb143 Q Q) Q (AOD.bind fun r145 hr145 => (AOD.step (@LT.callF Try.prog _ _ 74 _ _ [(.agg [(iC r87.1.Points),(lo 50 r87.1.Bars.length)]),(.c (lo 51 r87.2.length))] _ _ [(50,(pR 112 encTBar r87.1.Bars)),(51,(pR 3 encInt r87.2))] _ _ _ _ ((show Fw.Fn Try.prog 74 [(.agg [(iC r87.1.Points),(xF encTBar r87.1.Bars)]),(.c (xF encInt r87.2))] [] (Ag  [(iC r145.Points),(lo 67 r145.Bars.length)]) [(67,(pR 112 encTBar r145.Bars))] [] [67] from Fw.Fn.ren [(0,67)] (w_spec_WithoutPoints r87.1 r87.2 r145 hr145) Q)) Q cb74 (.cons (.agg (.cons (.same Q) (.cons (.tloc Q Q) .nil))) (.cons (.c (.tloc Q Q)) .nil)) Q Q J) z3 z2 (gH hb143 Q Q) Q (AOD.bind fun r146 hr146 => (AOD.pure (@LT.callF Try.prog _ _ 72 _ _ [(.agg [(iC r144.Points),(lo 65 r144.Bars.length)]),(.agg [(iC r145.Points),(lo 67 r145.Bars.length)])] _ _ [(65,(pR 112 encTBar r144.Bars)),(67,(pR 112 encTBar r145.Bars))] _ _ _ _ (w_spec_EqualGraphs r144 r145 r146 hr146) Q cb72 (.cons (.agg (.cons (.same Q) (.cons (.tloc Q Q) .nil))) (.cons (.agg (.cons (.same Q) (.cons (.tloc Q Q) .nil))) .nil)) Q Q J) z3 z2 (gH hb143 Q Q) Q (Dp20 (LT.pickT (v := (Bv r146)) Q hb143) Q Q Q Q (Dp10 (LT.move (v := (Bv r146)) Q) Q Q Q ?_)))))))))))
            refine AOD.split (fun hb147 => ?_) (fun hb147 => ?_)
            ·refine Dp11 (LT.bloadN (out := [(iC r88.Points),(lo 54 r88.Bars.length)]) Q ag32 (infS inf32) sz32 (by exact Q) (by exact Q)) Q Q (gH hb147 Q Q) Q (AOD.bind fun r148 hr148 => (AOD.pure (@LT.callF Try.prog _ _ 56 _ _ [(.agg [(iC r88.Points),(lo 54 r88.Bars.length)])] _ _ [(54,(pR 112 encTBar r88.Bars))] _ _ _ _ (w_impl_WhyNotGlobal r88 r148 hr148) Q cb56 (.cons (.agg (.cons (.same Q) (.cons (.tloc Q Q) .nil))) .nil) Q Q J) z2 z1 (gH hb147 Q Q) Q (Dp20 (LT.eqlS Q) Q y2 (gH hb147 Q Q) Q (Dp11 (LT.bloadN (out := [(iC r88.Points),(lo 54 r88.Bars.length)]) Q ag32 (infS inf32) sz32 (by exact Q) (by exact Q)) Q Q (gH hb147 Q Q) Q (AOD.bind fun r149 hr149 => (AOD.pure (@LT.callF Try.prog _ _ 54 _ _ [(.agg [(iC r88.Points),(lo 54 r88.Bars.length)])] _ _ [(54,(pR 112 encTBar r88.Bars))] _ _ _ _ (w_impl_IsGloballyRigid r88 r149 hr149) Q cb54 (.cons (.agg (.cons (.same Q) (.cons (.tloc Q Q) .nil))) .nil) Q Q J) z2 z1 (gH hb147 Q Q) Q (Dp20 (LT.eqlB Q und4) Q Q (gH hb147 Q Q) Q (Dp20 (LT.pickT (v := (Bv ((r148.toList == ByteArray.empty.toList) == r149))) Q hb147) Q Q Q Q (Dp10 (LT.assign (v := (Bv ((r148.toList == ByteArray.empty.toList) == r149))) Q) Q Q Q (AOD.nil (by kernel_rfl) (AWR.nil ⟨Q,Ent.of z1 J⟩)))))))))))
            ·refine AOD.skip (gH hb147 Q Q) Q (AOD.skip (gH hb147 Q Q) Q (AOD.skip (gH hb147 Q Q) Q (AOD.skip (gH hb147 Q Q) Q (AOD.skip (gH hb147 Q Q) Q (AOD.skip (gH hb147 Q Q) Q (Dp20 (LT.pickF (v := (Bv false)) Q hb147) Q y2 Q Q (Dp10 (LT.assign (v := (Bv false)) Q) Q Q Q (AOD.nil (by kernel_rfl) (AWR.nil ⟨Q,Ent.of z1 J⟩)))))))))
           ·refine AOD.skip (gH hb143 Q Q) Q (AOD.skip (gH hb143 Q Q) Q (AOD.skip (gH hb143 Q Q) Q (AOD.skip (gH hb143 Q Q) Q (AOD.skip (gH hb143 Q Q) Q (AOD.skip (gH hb143 Q Q) Q (AOD.skip (gH hb143 Q Q) Q (Dp20 (LT.pickF (v := (Bv false)) Q hb143) Q y2 Q Q (Dp10 (LT.move (v := (Bv false)) Q) Q Q Q (AOD.skip (gS Q Q) Q (AOD.skip (gS Q Q) Q (AOD.skip (gS Q Q) Q ?_)))))))))))
            refine AOD.skip (gS Q Q) Q (AOD.skip (gS Q Q) Q (AOD.skip (gS Q Q) Q (Dp20 (LT.pickF (v := (Bv false)) Q Q) Q y2 Q Q (Dp10 (LT.assign (v := (Bv false)) Q) Q Q Q (AOD.nil (by kernel_rfl) (AWR.nil ⟨Q,Ent.of z1 J⟩))))))
        ·refine AOD.skip (gH hb126 Q Q) Q (AOD.skip (gH hb126 Q Q) Q (AOD.skip (gH hb126 Q Q) Q (AOD.skip (gS Q Q) Q (AOD.skip (gS Q Q) Q (AOD.skip (gS Q Q) Q (AOD.skip (gS Q Q) Q (AOD.skip (gH hb126 Q Q) Q (AOD.skip (gH hb126 Q Q) Q (AOD.skip (gS Q Q) Q (AOD.skip (gS Q Q) Q (AOD.skip (gS Q Q) Q ?_)))))))))))
         refine AOD.skip (gS Q Q) Q (AOD.skip (gH hb126 Q Q) Q (Dp20 (LT.pickF (v := (Bv false)) Q hb126) Q y2 Q Q (Dp10 (LT.move (v := (Bv false)) Q) Q Q Q (AOD.skip (gS Q Q) Q (AOD.skip (gS Q Q) Q (AOD.skip (gS Q Q) Q (AOD.skip (gS Q Q) Q (AOD.skip (gS Q Q) Q (AOD.skip (gS Q Q) Q (AOD.skip (gS Q Q) Q (Dp20 (LT.pickF (v := (Bv false)) Q Q) Q y2 Q Q ?_)))))))))))
         refine Dp10 (LT.move (v := (Bv false)) Q) Q Q Q (AOD.skip (gS Q Q) Q (AOD.skip (gS Q Q) Q (AOD.skip (gS Q Q) Q (AOD.skip (gS Q Q) Q (AOD.skip (gS Q Q) Q (AOD.skip (gS Q Q) Q (Dp20 (LT.pickF (v := (Bv false)) Q Q) Q y2 Q Q (Dp10 (LT.assign (v := (Bv false)) Q) Q Q Q (AOD.nil (by kernel_rfl) (AWR.nil ⟨Q,Ent.of z1 J⟩))))))))))
       ·refine AOD.skip (gH hb123 Q Q) Q (AOD.skip (gH hb123 Q Q) Q (AOD.skip (gH hb123 Q Q) Q (AOD.skip (gH hb123 Q Q) Q (AOD.skip (gH hb123 Q Q) Q (AOD.skip (gH hb123 Q Q) Q (AOD.skip (gH hb123 Q Q) Q (Dp20 (LT.pickF (v := (Bv false)) Q hb123) Q y2 Q Q (Dp10 (LT.move (v := (Bv false)) Q) Q Q Q (AOD.skip (gS Q Q) Q (AOD.skip (gS Q Q) Q (AOD.skip (gS Q Q) Q ?_)))))))))))
        refine AOD.skip (gS Q Q) Q (AOD.skip (gS Q Q) Q (AOD.skip (gS Q Q) Q (AOD.skip (gS Q Q) Q (AOD.skip (gS Q Q) Q (AOD.skip (gS Q Q) Q (AOD.skip (gS Q Q) Q (AOD.skip (gS Q Q) Q (AOD.skip (gS Q Q) Q (AOD.skip (gS Q Q) Q (AOD.skip (gS Q Q) Q (Dp20 (LT.pickF (v := (Bv false)) Q Q) Q y2 Q Q ?_)))))))))))
        refine Dp10 (LT.move (v := (Bv false)) Q) Q Q Q (AOD.skip (gS Q Q) Q (AOD.skip (gS Q Q) Q (AOD.skip (gS Q Q) Q (AOD.skip (gS Q Q) Q (AOD.skip (gS Q Q) Q (AOD.skip (gS Q Q) Q (AOD.skip (gS Q Q) Q (Dp20 (LT.pickF (v := (Bv false)) Q Q) Q y2 Q Q (Dp10 (LT.move (v := (Bv false)) Q) Q Q Q (AOD.skip (gS Q Q) Q (AOD.skip (gS Q Q) Q ?_)))))))))))
        refine AOD.skip (gS Q Q) Q (AOD.skip (gS Q Q) Q (AOD.skip (gS Q Q) Q (AOD.skip (gS Q Q) Q (Dp20 (LT.pickF (v := (Bv false)) Q Q) Q y2 Q Q (Dp10 (LT.assign (v := (Bv false)) Q) Q Q Q (AOD.nil (by kernel_rfl) (AWR.nil ⟨Q,Ent.of z1 J⟩)))))))
      ·refine AWR.ret (FPost.mk (.inr Q) z1 J Q ⟨PermP.sc,J⟩ J)
end Go.Proofs.Yteognanhfpbghaa
end
section
set_option linter.unusedVariables false
set_option linter.unusedSimpArgs false
set_option linter.unnecessarySimpa false
namespace Go.Fw
open Go.ChangeShapes Go.WideShapes Go.ChangeAt Go.RowKit
open Go.Proofs.Yteognanhfpbghaa (Rows.uptoBulk Rows.uptoBulkAll)
abbrev Bof (W : World) : Nat → Prop := fun b => b < W.heap.size
abbrev Rno : Nat → Prop := fun _ => False
abbrev gno : Nat → GS := fun _ => .dead
def Opn {α : Type} (P : Program) (t : TypeId) (s : Nat) (enc : α → List PV) (wt : α → Nat) (ok : α → Prop) : Prop :=
  ∀ (H : Type) (e : TypeId × Value → H) (W : World) (base : Nat) (spare : Nat → Bool) (held : Bool) (fuel : Nat) (cs : List Value) (x : DataW H × List MemPlace), DataW.trod e P W base spare held fuel t cs = some x →
    ∃ a : α, ok a ∧ wt a ≤ Go.Proofs.Yteognanhfpbghaa.Rows.uptoBulk x.1 ∧ cs.length = s ∧ (enc a).length = s ∧ ∀ (k : Nat) p, (enc a)[k]? = some p → ∃ u, cs[k]? = some u ∧ RPV W Rno (Bof W) p u
def okI (n : Int) : Prop := -9223372036854775808 ≤ n ∧ n ≤ 9223372036854775807
def okL {α : Type} (ok : α → Prop) (xs : List α) : Prop := ∀ x ∈ xs, ok x
def wtI (_ : Int) : Nat := 1
def wtL {α : Type} (wt : α → Nat) (xs : List α) : Nat := (xs.map wt).sum + 1
section
variable {P : Program}
theorem one1 {p q : PV} {cs : List Value} {v : Value} {W : World} (hcs : cs = [v]) (h : RPV W Rno (Bof W) p v) : ∀ (k : Nat) r, [p][k]? = some r → ∃ u, cs[k]? = some u ∧ RPV W Rno (Bof W) r u := fun k r hk => by
  subst hcs
  cases k with
  | zero => simp at hk; subst hk; exact ⟨v, rfl, h⟩
  | succ k => simp at hk
theorem Opn.int {t : TypeId} (ht : P.underlying t = some (.int .i64)) : Opn P t 1 (fun n : Int => [.sc (.int .i64 n)]) wtI okI := fun H e W base spare held fuel cs x h => by
  obtain ⟨n, rfl, rfl, hw⟩ := DataW.trod_int ht h
  refine ⟨n, ?_, by simp [wtI, Go.Proofs.Yteognanhfpbghaa.Rows.uptoBulk], rfl, rfl, one1 (q := .sc (.int .i64 n)) rfl (.sc rfl)⟩
  simp [Lit.wf, IntKind.min, IntKind.max, IntKind.signed, IntKind.bits] at hw
  exact ⟨by omega, by omega⟩
theorem list_of {α : Type} {p : Nat → α → Prop} : ∀ n : Nat, (∀ i, i < n → ∃ a, p i a) → ∃ xs : List α, xs.length = n ∧ ∀ (i : Nat) a, xs[i]? = some a → p i a
  | 0, _ => ⟨[], rfl, fun i a h => by simp at h⟩
  | n + 1, h => by
    obtain ⟨xs, h1, h2⟩ := list_of n fun i hi => h i (by omega)
    obtain ⟨a, ha⟩ := h n (by omega)
    refine ⟨xs ++ [a], by simp [h1], fun i b hb => ?_⟩
    rw [List.getElem?_append] at hb
    split at hb
    · exact h2 i b hb
    · rename_i hn
      have hi : i - xs.length = 0 := by
        have := (List.getElem?_eq_some_iff.1 hb).1
        simp at this
        omega
      rw [hi] at hb
      simp at hb
      subst hb
      have : i = n := by omega
      subst this
      exact ha
theorem bulk_sum {α : Type} {H : Type} {wt : α → Nat} {D : Nat → DataW H} : ∀ (xs : List α) (k : Nat), (∀ (i : Nat) a, xs[i]? = some a → wt a ≤ Go.Proofs.Yteognanhfpbghaa.Rows.uptoBulk (D (k + i))) →
    (xs.map wt).sum ≤ Go.Proofs.Yteognanhfpbghaa.Rows.uptoBulkAll ((List.range' k xs.length).map D)
  | [], _, _ => by simp [Go.Proofs.Yteognanhfpbghaa.Rows.uptoBulkAll]
  | a :: r, k, h => by
    have h0 := h 0 a rfl
    have ih := bulk_sum r (k + 1) fun i b hb => by
      have := h (i + 1) b (by simpa using hb)
      rwa [show k + 1 + i = k + (i + 1) by omega]
    rw [Nat.add_zero] at h0
    simp only [List.map_cons, List.sum_cons, List.length_cons, List.range'_succ, Go.Proofs.Yteognanhfpbghaa.Rows.uptoBulkAll]
    omega
theorem cell_lt {w : World} {a : Addr} {v : Value} (h : w.cell? a = some v) : a.block < w.heap.size := by
  unfold World.cell? at h
  cases hb : w.heap[a.block]? with
  | none => rw [hb] at h; simp at h
  | some o => exact (Array.getElem?_eq_some_iff.1 hb).1
theorem Opn.slice {α : Type} {t e : TypeId} {s : Nat} {enc : α → List PV} {wt : α → Nat} {ok : α → Prop} (ht : P.underlying t = some (.slice e)) (hs : P.cellsOf e = s) (hs0 : 0 < s) (he : Opn P e s enc wt ok) :
    Opn P t 1 (fun xs : List α => [.xs false (xs.map enc)]) (wtL wt) (okL ok) := fun H en W base spare held fuel cs x h => by
  rcases Go.Deep.open_slice ht h with ⟨rfl, rfl⟩ | ⟨a, len, cap, m, n, D, Pl, rfl, hb, hl, hm, hmm, rfl, hi⟩
  · refine ⟨[], ?_, ?_, rfl, rfl, one1 (q := .xs false []) rfl .emp⟩
    · intro x hx; cases hx
    · simp [wtL, Go.Proofs.Yteognanhfpbghaa.Rows.uptoBulk]
  · have hml : len ≤ m := by rw [hmm]; split <;> omega
    obtain ⟨xs, hxl, hx⟩ := list_of (p := fun i (b : α) => ok b ∧ wt b ≤ Go.Proofs.Yteognanhfpbghaa.Rows.uptoBulk (D i) ∧ (enc b).length = s ∧ ∀ (k : Nat) p, (enc b)[k]? = some p → ∃ u, W.cell? (a.add (i * s + k)) = some u ∧ RPV W Rno (Bof W) p u) len (fun i hil => by
      obtain ⟨cs', hc, htr⟩ := hi i (by omega)
      obtain ⟨b, h1, h2, h3, h4, h5⟩ := he _ _ _ _ _ _ _ _ _ htr
      obtain ⟨_, hcl, hat⟩ := World.cells?_some hc
      refine ⟨b, h1, h2, h4, fun k p hk => ?_⟩
      obtain ⟨u, hu, hr⟩ := h5 k p hk
      refine ⟨u, ?_, hr⟩
      have hks : k < s := by rw [← h4]; exact (List.getElem?_eq_some_iff.1 hk).1
      have := hat k (by rw [hs]; exact hks)
      rw [add_add, hs] at this
      rw [this]
      exact hu)
    refine ⟨xs, fun b hb => ?_, ?_, rfl, rfl, one1 (q := .sc undef) rfl ?_⟩
    · obtain ⟨i, hib⟩ := List.getElem?_of_mem hb
      exact (hx i b hib).1
    · have := bulk_sum (wt := wt) (D := D) xs 0 (fun i b hb => by rw [Nat.zero_add]; exact (hx i b hb).2.1)
      simp only [wtL, Go.Proofs.Yteognanhfpbghaa.Rows.uptoBulk]
      rw [hxl, ← List.range_eq_range'] at this
      omega
    · cases hxs : xs with
      | nil =>
        have : len = 0 := by rw [← hxl, hxs]; rfl
        subst this
        exact .emp
      | cons b r =>
        rw [← hxs]
        have hget : ∀ (j k : Nat) cs p, (xs.map enc)[j]? = some cs → cs[k]? = some p → ∃ u, W.cell? (a.add (j * s + k)) = some u ∧ RPV W Rno (Bof W) p u := fun j k cs p hj hk => by
          rw [List.getElem?_map] at hj
          cases hjx : xs[j]? with
          | none => rw [hjx] at hj; cases hj
          | some c =>
            rw [hjx] at hj
            injection hj with hj
            subst hj
            exact (hx j c hjx).2.2.2 k p hk
        refine .xs (s := s) (fun j k => (W.cell? (a.add (j * s + k))).getD undef) (by simp [hxl]) ?_ (by simp [hxl]; exact hl) (fun cs hcs => ?_) (fun j k cs p hj hk => ?_) (fun j k cs p hj hk => ?_)
        · have h0 := hx 0 b (by rw [hxs]; rfl)
          have hlt : 0 < (enc b).length := by rw [h0.2.2.1]; exact hs0
          obtain ⟨u, hu, _⟩ := h0.2.2.2 0 (enc b)[0] (List.getElem?_eq_getElem hlt)
          have := cell_lt hu
          rw [add_block] at this
          exact this
        · obtain ⟨c, hc, rfl⟩ := List.mem_map.1 hcs
          obtain ⟨i, hic⟩ := List.getElem?_of_mem hc
          exact (hx i c hic).2.2.1
        · obtain ⟨u, hu, _⟩ := hget j k cs p hj hk
          rw [hu]; rfl
        · obtain ⟨u, hu, hr⟩ := hget j k cs p hj hk
          rw [hu]
          exact hr
theorem len_wtL {α : Type} {wt : α → Nat} (h : ∀ x, 1 ≤ wt x) (xs : List α) : xs.length ≤ wtL wt xs := by
  unfold wtL
  induction xs with
  | nil => simp
  | cons x r ih =>
    have := h x
    simp only [List.map_cons, List.sum_cons, List.length_cons] at ih ⊢
    omega
theorem Opn.arg1 {α : Type} {t : TypeId} {enc : α → List PV} {wt : α → Nat} {ok : α → Prop} (h : Opn P t 1 enc wt ok) {p : α → PV} (hp : ∀ a, enc a = [p a]) {H : Type} {e : TypeId × Value → H} {W : World} {sp : Nat → Bool} {v : Value} {d : DataW H} {ps : List MemPlace}
    (hv : v.oneCell' = true) (hd : DataW.Trod e P W 0 sp true t v d ps) : ∃ a : α, ok a ∧ wt a ≤ Go.Proofs.Yteognanhfpbghaa.Rows.uptoBulk d ∧ RS P W Rno (Bof W) gno (.c (.pv (p a))) v := by
  obtain ⟨fuel, hf⟩ := hd
  obtain ⟨a, h1, h2, h3, h4, h5⟩ := h _ _ _ _ _ _ _ _ _ hf
  refine ⟨a, h1, h2, ?_⟩
  have hc : v.cells = #[v] := oneCell_ne hv
  obtain ⟨u, hu, hr⟩ := h5 0 (p a) (by rw [hp]; rfl)
  rw [hc] at hu
  have : v = u := by simpa using hu
  subst this
  exact ⟨hv, hr⟩
def ArgR (P : Program) (W : World) : List SV → List Value → Prop
  | [], [] => True
  | x :: xs, v :: vs => RS P W Rno (Bof W) gno x v ∧ ArgR P W xs vs
  | _, _ => False
theorem ArgR.spec {W : World} : ∀ {xs : List SV} {vs : List Value}, ArgR P W xs vs → vs.length = xs.length ∧ ∀ (k : Nat) x, xs[k]? = some x → ∃ u, vs[k]? = some u ∧ RS P W Rno (Bof W) gno x u
  | [], [], _ => ⟨rfl, fun k x hk => by simp at hk⟩
  | [], _ :: _, h => h.elim
  | _ :: _, [], h => h.elim
  | x :: xs, v :: vs, h => by
    obtain ⟨h1, h2⟩ := ArgR.spec h.2
    refine ⟨by simp [h1], fun k y hk => ?_⟩
    cases k with
    | zero => simp at hk; subst hk; exact ⟨v, rfl, h.1⟩
    | succ k => exact h2 k y (by simpa using hk)
theorem trodAll_stays {H : Type} {e : TypeId × Value → H} (hl : laidOutB P = true) {W W' : World} {sp : Nat → Bool} (hb : Below W.heap.size W W') : ∀ {ts : List TypeId} {vs : List Value} {ds : List (DataW H)} {ps : List MemPlace}, (ts.all fun t => P.readableRec t && decide (t < P.types.size)) = true →
    DataW.TrodAll e P W 0 (fun _ => true) true ts vs ds ps → (∀ p ∈ ps, p.block < W.heap.size) → (∀ p ∈ ps, sp p.block = true) → DataW.TrodAll e P W' 0 sp true ts vs ds ps
  | [], [], [], _, _, h, _, _ => h
  | t :: ts, v :: vs, d :: ds, ps, hr, h, hlt, hs => by
    obtain ⟨p, q, h1, h2, rfl⟩ := h
    simp only [List.all_cons, Bool.and_eq_true, decide_eq_true_eq] at hr
    exact ⟨p, q, Go.WideElems.Trod_stays hl hr.1.1 hr.1.2 h1 (fun x hx => hb.same (hlt x (List.mem_append_left _ hx))) (fun x hx => hs x (List.mem_append_left _ hx)), trodAll_stays hl hb hr.2 h2 (fun x hx => hlt x (List.mem_append_right _ hx)) (fun x hx => hs x (List.mem_append_right _ hx)), rfl⟩
  | [], [], _ :: _, _, _, h, _, _ => h.elim
  | [], _ :: _, _, _, _, h, _, _ => h.elim
  | _ :: _, [], _, _, _, h, _, _ => h.elim
  | _ :: _, _ :: _, [], _, _, h, _, _ => h.elim
theorem post_of_fw {H : Type} {e : TypeId × Value → H} {f : Func} {s : ChangeSpec} {apart handsOn again : Bool} {fresh : Bool} {W W' : World} {args : Array Value} {ds gs : List (DataW H)} {before : List MemPlace} {tb : TypeId} (hW : DataW.Whole e P f.params.toList s.vars apart W args.toList ds gs before) (hl : laidOutB P = true)
    (hr : (f.params.toList.all fun t => P.readableRec t && decide (t < P.types.size)) = true) (hb : Below W.heap.size W W') (hv : s.vars = []) (hf : s.fn H ds = { results := [.lit (.bool true)], args := ds }) (hrt : f.resultTypes = #[tb]) (htb : P.underlying tb = some .bool) :
    s.post e P f apart fresh handsOn again W args (.bool true) W' := by
  have hlt : ∀ p ∈ before, p.block < W.heap.size := fun p hp => hW.lt p hp
  have hW0 := hW
  obtain ⟨p, q, hA, hV, hpq, hz, hn⟩ := hW
  rw [hv] at hV
  obtain ⟨rfl, rfl⟩ : gs = [] ∧ q = [] := by
    cases gs with
    | nil => exact ⟨rfl, hV⟩
    | cons _ _ => exact hV.elim
  rw [List.append_nil] at hpq
  subst hpq
  have hargs : ∀ sp : Nat → Bool, (∀ p ∈ before, sp p.block = true) → DataW.TrodAll e P W' 0 sp true f.params.toList args.toList ds before := fun sp hs => trodAll_stays hl hb hr hA hlt hs
  have hres : ∀ (b : Nat) (sp : Nat → Bool) (hd : Bool), DataW.TrodAll e P W' b sp hd f.resultTypes.toList ((Value.bool true).resultList f.resultTypes.size) [.lit (.bool true)] [] := fun b sp hd => by
    rw [hrt]
    exact ⟨[], [], shut_bool htb _, rfl, rfl⟩
  have hfd : s.fn H (ds ++ []) = { results := [.lit (.bool true)], args := ds } := by rw [List.append_nil]; exact hf
  have hold : ∀ p ∈ before, (fun b => decide (b < W.heap.size)) p.block = true := fun p hp => by simpa using hlt p hp
  have hvs : ∀ sp : Nat → Bool, DataW.TrodVars e P W' sp s.vars [] [] := fun sp => by rw [hv]; rfl
  refine ⟨ds, [], before, [], before, [], hW0, ?_, ?_, ?_, World.keptBut_mono (fun p hp => ⟨hp, ?_⟩) (hb.frame (· ∈ before)), fun _ => ?_⟩
  · rw [hfd]; exact hres _ _ _
  · rw [hfd]; exact hargs _ hold
  · rw [hfd]; exact hvs _
  · exact Or.inr (Or.inl hp)
  · refine ⟨ok_one hrt rfl (okWide_bool_mk htb _), ?_⟩
    · refine ⟨_, _, ([] ++ before) ++ [], ⟨[] ++ before, [], trodAll_append (hargs _ (fun _ _ => rfl)) (hres _ _ _), hvs _, rfl, ?_, ?_⟩, ?_⟩
      · intro b off hp
        have hin : MemPlace.cell b off ∈ before := by simpa using hp
        rw [hb.frozen (hlt _ hin)]
        exact hz b off hin
      · intro ha
        simpa using hn ha
      · intro p hp _
        simpa using hp
end
end Go.Fw
end
section
set_option linter.unusedVariables false
set_option linter.unusedSimpArgs false
set_option linter.unnecessarySimpa false
open Go Go.Fw
open Go.ChangeShapes Go.WideShapes Go.ChangeAt Go.RowKit
namespace Go.Proofs.Yteognanhfpbghaa
theorem oC5 : Try.prog.cellsOf 5 = 1 := by kernel_rfl
theorem oU5 : Try.prog.underlying 5 = some (.int .u8) := by kernel_rfl
theorem oU55 : Try.prog.underlying 55 = some (.slice 5) := by kernel_rfl
def okB (n : Int) : Prop := 0 ≤ n ∧ n ≤ 255
theorem Opn.u8 {P : Program} {t : TypeId} (ht : P.underlying t = some (.int .u8)) : Opn P t 1 encInt_u8 wtI okB := fun H e W base spare held fuel cs x h => by
  obtain ⟨n, rfl, rfl, hw⟩ := DataW.trod_int ht h
  refine ⟨n, ?_, by simp [wtI, Go.Proofs.Yteognanhfpbghaa.Rows.uptoBulk], rfl, rfl, one1 (q := .sc (.int .u8 n)) rfl (.sc rfl)⟩
  simp [Lit.wf, IntKind.min, IntKind.max, IntKind.signed, IntKind.bits] at hw
  exact ⟨by omega, by omega⟩
theorem RPV.byteT {W : World} {l : List Int} {v : Value} (h : RPV W Rno (Bof W) (.xs false (l.map encInt_u8)) v) : RPV W (Bof W) (Bof W) (.xs true (l.map encInt_u8)) v := by
  generalize hE : l.map encInt_u8 = E at h
  cases h with
  | emp => exact .emp
  | xs val hn hb hc hs hv hr =>
    refine .xs val hn hb hc hs hv fun j k cs p hj hk => ?_
    have h1 := hr j k cs p hj hk
    subst hE
    obtain ⟨x, hx, rfl⟩ := List.mem_map.mp (List.mem_of_getElem? hj)
    cases k with
    | zero =>
      cases hk
      revert h1
      generalize val j 0 = u
      intro h1
      cases h1 with | sc h => exact .sc h
    | succ k => cases hk
theorem Fn.calledT {P : Program} {f : FuncId} {l : List Int} (hf : Fw.Fn P f [.c (xT encInt_u8 l)] [] (.s (.c (bC true))) [] [] []) {W : World} {v : Value} (ha : RS P W Rno (Bof W) gno (.c (xF encInt_u8 l)) v) : Calls P f #[v] W fun e W' => e = .returned (.bool true) ∧ Below W.heap.size W W' := by
  have ha' : RS P W (Bof W) (Bof W) gno (.c (xT encInt_u8 l)) v := ⟨ha.1, RPV.byteT ha.2⟩
  have hw : WF (Bof W) (Bof W) gno W := ⟨fun b hb => hb, fun b hb => hb, fun n b hg => hg.elim, fun n m b hg => hg.elim, fun n j k b h => (by cases h)⟩
  have := hf (Bof W) (Bof W) gno W [v] hw rfl (fun k x hk => by cases k with | zero => cases hk; exact ⟨v, rfl, ha'⟩ | succ k => cases hk) (fun p hp => by cases hp)
  refine this.mono fun e W' hp => ?_
  obtain ⟨u, R', B', g', rfl, had, _, hv, _⟩ := hp
  have hu : u = .bool true := by
    obtain ⟨_, h3⟩ := hv
    cases h3
    rfl
  subst hu
  exact ⟨rfl, had.os, had.tape, had.output, had.size, fun k hk => had.heap k hk fun n hn => by cases hn⟩
end Go.Proofs.Yteognanhfpbghaa
end
