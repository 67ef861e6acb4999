/- Parts of a proof that a law of the program holds: what the program computes, and why that is right. -/
import Derived.Test.YtghofbijdnenoaaRows
import Derived.ProofKit
import Derived.OpenShut
import Derived.JoinedCond
import Derived.Carry
import Derived.Deep.Slices
import Derived.ChangeSame
import Derived.Test.YtghofbijdnenoaaZEFindStrictStress5
section
set_option linter.unusedVariables false
set_option linter.unusedSimpArgs false
set_option linter.unnecessarySimpa false
set_option maxRecDepth 100000
set_option maxHeartbeats 8000000
open Go Go.Fw
namespace Go.Proofs.Ytghofbijdnenoaa
theorem w_laws_FnExactFindStrictStress (aT : TTensegrity) : ∀ t, m_laws_FnExactFindStrictStress aT = some t → Fw.Fn Try.prog 6 [(.agg [(iC aT.Framework.Graph.Points), (xF encTBar aT.Framework.Graph.Bars), (xF encTPlace aT.Framework.Places), (xF encInt aT.Kinds)])] [] (.s (.c (bC t))) [] [] [] := by
 refine Fw.Fn.of (P := Try.prog) (X := []) (pn := []) (rs := (fun (t : Bool) => [(.c (bC t))])) (dfs := (fun (t : Bool) => [])) Try.func6 rfl Try.ntmps6 (Nat.le_of_ble_eq_true rfl) rfl ?_
 intro w0 U0 R0 g0
 unfold m_laws_FnExactFindStrictStress
 refine Ws (Wr ?_)
 refine Os10 (LT.box (n := 21) (v := (.agg [(iC aT.Framework.Graph.Points), (xF encTBar aT.Framework.Graph.Bars), (xF encTPlace aT.Framework.Places), (xF encInt aT.Kinds)])) rfl sz70 (by exact rfl)) rfl rfl rfl (asg (Bv false) rfl ⟨rfl, rfl⟩ rfl rfl (On (Ws (Wr ?_))))
 refine asg (Iv 1048576) rfl ⟨rfl, rfl⟩ rfl rfl (On (Ws (Wr ?_)))
 refine Op11 (LT.bloadN (out := [(iC aT.Framework.Graph.Points), (xF encTBar aT.Framework.Graph.Bars), (xF encTPlace aT.Framework.Places), (xF encInt aT.Kinds)]) rfl ag70 (infS inf70) sz70 (by exact rfl) (by exact rfl)) rfl rfl rfl rfl (mv (Iv 1048576) rfl rfl rfl rfl (Ob' fun r1 hr1 => (AOR.pure (@LT.callF Try.prog _ _ 59 _ _ [(.agg [(iC aT.Framework.Graph.Points), (xF encTBar aT.Framework.Graph.Bars), (xF encTPlace aT.Framework.Places), (xF encInt aT.Kinds)]), (.c (iC 1048576))] _ _ [] _ _ _ _ (w_laws_szTensegrity aT 1048576 r1 hr1) rfl cb59 (.cons (.agg (.cons (.same rfl) (.cons (.same rfl) (.cons (.same rfl) (.cons (.same rfl) .nil))))) (.cons (.c (.same rfl)) .nil)) rfl rfl trivial) ⟨rfl, rfl, rfl, trivial⟩ trivial rfl rfl (asg (Iv r1) rfl rfl rfl rfl (On (Ws (Ws (Wr ?_))))))))
 refine mv (Iv r1) rfl rfl rfl rfl (Op20 (LT.lss rfl) rfl ⟨rfl, rfl⟩ rfl rfl (On (AWR.cond rfl (fun hc2 => ?_) (fun hc2 => ?_))))
 ·refine Ws (en [] [] trivial trivial (Wr (asg (Bv true) rfl ⟨rfl, rfl⟩ rfl rfl (On (AWR.ret (FPost.mk (.inr rfl) ⟨rfl, trivial⟩ trivial rfl ⟨PermP.sc, trivial⟩ trivial))))))
 ·refine AWR.skip (Ws ?_)
  refine en [(1, (Cc (.pl 21 0)))] [(21, (.row 70 [[(iC aT.Framework.Graph.Points), (xF encTBar aT.Framework.Graph.Bars), (xF encTPlace aT.Framework.Places), (xF encInt aT.Kinds)]]))] ⟨rfl, trivial⟩ ⟨rfl, trivial⟩ (Wr (Op11 (LT.bloadN (out := [(iC aT.Framework.Graph.Points), (xF encTBar aT.Framework.Graph.Bars), (xF encTPlace aT.Framework.Places), (xF encInt aT.Kinds)]) rfl ag70 (infS inf70) sz70 (by exact rfl) (by exact rfl)) rfl rfl rfl rfl (Ob' fun r3 hr3 => (AOR.step (@LT.callF Try.prog _ _ 61 _ _ [(.agg [(iC aT.Framework.Graph.Points), (xF encTBar aT.Framework.Graph.Bars), (xF encTPlace aT.Framework.Places), (xF encInt aT.Kinds)])] _ _ [] _ _ _ _ ((show Fw.Fn Try.prog 61 [(.agg [(iC aT.Framework.Graph.Points), (xF encTBar aT.Framework.Graph.Bars), (xF encTPlace aT.Framework.Places), (xF encInt aT.Kinds)])] [] (Ag  [(iC r3.Framework.Graph.Points), (lo 24 r3.Framework.Graph.Bars.length), (lo 25 r3.Framework.Places.length), (lo 26 r3.Kinds.length)]) [(24, (pR 62 encTBar r3.Framework.Graph.Bars)), (25, (pR 94 encTPlace r3.Framework.Places)), (26, (pR 3 encInt r3.Kinds))] [] [24, 25, 26] from Fw.Fn.ren [(0, 24), (1, 25), (2, 26)] (w_laws_toTensegrity aT r3 hr3) rfl)) rfl cb61 (.cons (.agg (.cons (.same rfl) (.cons (.same rfl) (.cons (.same rfl) (.cons (.same rfl) .nil))))) .nil) rfl rfl trivial) ⟨rfl, rfl, trivial⟩ trivial rfl rfl (Ob' fun r4 hr4 => (AOR.step (@LT.callF Try.prog _ _ 60 _ _ [(.agg [(iC r3.Framework.Graph.Points), (lo 24 r3.Framework.Graph.Bars.length), (lo 25 r3.Framework.Places.length), (lo 26 r3.Kinds.length)])] _ _ [(24, (pR 62 encTBar r3.Framework.Graph.Bars)), (25, (pR 94 encTPlace r3.Framework.Places)), (26, (pR 3 encInt r3.Kinds))] _ _ _ _ ((show Fw.Fn Try.prog 60 [(.agg [(iC r3.Framework.Graph.Points), (xF encTBar r3.Framework.Graph.Bars), (xF encTPlace r3.Framework.Places), (xF encInt r3.Kinds)])] [] (.tup [(.c (lo 28 r4.1.length)), (.c (bC r4.2))]) [(28, (pR 3 encInt r4.1))] [] [28] from Fw.Fn.ren [(0, 28)] (w_spec_FindStrictStress r3 r4 hr4) rfl)) rfl cb60 (.cons (.agg (.cons (.same rfl) (.cons (.tloc rfl rfl) (.cons (.tloc rfl rfl) (.cons (.tloc rfl rfl) .nil))))) .nil) rfl rfl trivial) ⟨rfl, rfl, trivial⟩ ⟨rfl, rfl, rfl, trivial⟩ rfl rfl (mv (.tup [(.c (lo 28 r4.1.length)), (.c (bC r4.2))]) rfl rfl rfl rfl (Op10 (LT.extract (v := (.c (lo 28 r4.1.length))) rfl (by exact rfl)) rfl rfl rfl (Op10 (LT.extract (v := (.c (bC r4.2))) rfl (by exact rfl)) rfl rfl rfl (asg (Cc (lo 28 r4.1.length)) rfl rfl rfl rfl (asg (Bv r4.2) rfl rfl rfl rfl ?_)))))))))))
  refine On (Ws ?_)
  refine en [(1, (Cc (.pl 21 0))), (4, (Cc (lo 28 r4.1.length))), (5, (Bv r4.2))] [(21, (.row 70 [[(iC aT.Framework.Graph.Points), (xF encTBar aT.Framework.Graph.Bars), (xF encTPlace aT.Framework.Places), (xF encInt aT.Kinds)]])), (28, (pR 3 encInt r4.1))] ⟨rfl, rfl, rfl, trivial⟩ ⟨rfl, rfl, trivial⟩ (Wr (Op11 (LT.bloadN (out := [(iC aT.Framework.Graph.Points), (xF encTBar aT.Framework.Graph.Bars), (xF encTPlace aT.Framework.Places), (xF encInt aT.Kinds)]) rfl ag70 (infS inf70) sz70 (by exact rfl) (by exact rfl)) rfl rfl rfl rfl (Ob' fun r5 hr5 => (AOR.step (@LT.callF Try.prog _ _ 61 _ _ [(.agg [(iC aT.Framework.Graph.Points), (xF encTBar aT.Framework.Graph.Bars), (xF encTPlace aT.Framework.Places), (xF encInt aT.Kinds)])] _ _ [] _ _ _ _ ((show Fw.Fn Try.prog 61 [(.agg [(iC aT.Framework.Graph.Points), (xF encTBar aT.Framework.Graph.Bars), (xF encTPlace aT.Framework.Places), (xF encInt aT.Kinds)])] [] (Ag  [(iC r5.Framework.Graph.Points), (lo 30 r5.Framework.Graph.Bars.length), (lo 31 r5.Framework.Places.length), (lo 32 r5.Kinds.length)]) [(30, (pR 62 encTBar r5.Framework.Graph.Bars)), (31, (pR 94 encTPlace r5.Framework.Places)), (32, (pR 3 encInt r5.Kinds))] [] [30, 31, 32] from Fw.Fn.ren [(0, 30), (1, 31), (2, 32)] (w_laws_toTensegrity aT r5 hr5) rfl)) rfl cb61 (.cons (.agg (.cons (.same rfl) (.cons (.same rfl) (.cons (.same rfl) (.cons (.same rfl) .nil))))) .nil) rfl rfl trivial) ⟨rfl, rfl, trivial⟩ trivial rfl rfl (Os00 (LT.alloc (n := 33) (cells := [(iC 0), (sC nilV), (sC nilV), (sC nilV)]) rfl ti75 rfl rfl rfl) rfl rfl (Os21 (LT.bstore (v := (.agg [(iC r5.Framework.Graph.Points), (lo 30 r5.Framework.Graph.Bars.length), (lo 31 r5.Framework.Places.length), (lo 32 r5.Kinds.length)])) (out := [(iC r5.Framework.Graph.Points), (lo 30 r5.Framework.Graph.Bars.length), (lo 31 r5.Framework.Places.length), (lo 32 r5.Kinds.length)]) rfl rfl (infS inf75) sz75 (by exact rfl) (by exact Nat.le_of_ble_eq_true rfl) (by exact rfl)) rfl rfl rfl rfl rfl (On (Ws (Wr ?_)))))))))
  refine Op11 (LT.bloadN (out := [(iC r5.Framework.Graph.Points), (lo 30 r5.Framework.Graph.Bars.length), (lo 31 r5.Framework.Places.length), (lo 32 r5.Kinds.length)]) rfl ag75 (infS inf75) sz75 (by exact rfl) (by exact rfl)) rfl rfl rfl rfl (Ob' fun r6 hr6 => (AOR.step (@LT.callF Try.prog _ _ 62 _ _ [(.agg [(iC r5.Framework.Graph.Points), (lo 30 r5.Framework.Graph.Bars.length), (lo 31 r5.Framework.Places.length), (lo 32 r5.Kinds.length)])] _ _ [] _ _ _ _ ((show Fw.Fn Try.prog 62 [(.agg [(iC r5.Framework.Graph.Points), (lo 30 r5.Framework.Graph.Bars.length), (lo 31 r5.Framework.Places.length), (lo 32 r5.Kinds.length)])] [(30, (pR 62 encTBar r5.Framework.Graph.Bars)), (31, (pR 94 encTPlace r5.Framework.Places)), (32, (pR 3 encInt r5.Kinds))] (.tup [(.c (lo 35 r6.1.length)), (.c (bC r6.2.1))]) [(30, (pR 62 encTBar r6.2.2.1)), (31, (pR 94 encTPlace r6.2.2.2.1)), (32, (pR 3 encInt r6.2.2.2.2)), (35, (pR 3 encInt r6.1))] [30, 31, 32] [35] from Fw.Fn.ren [(0, 30), (1, 31), (2, 32), (3, 35)] (w_impl_FindStrictStress r5 r6 hr6) rfl)) rfl cb62 (.cons (.agg (.cons (.same rfl) (.cons (.same rfl) (.cons (.same rfl) (.cons (.same rfl) .nil))))) .nil) rfl rfl ⟨rfl, rfl, rfl, trivial⟩) ⟨rfl, rfl, trivial⟩ ⟨rfl, rfl, rfl, trivial⟩ rfl rfl (mv (.tup [(.c (lo 35 r6.1.length)), (.c (bC r6.2.1))]) rfl rfl rfl rfl (Op10 (LT.extract (v := (.c (lo 35 r6.1.length))) rfl (by exact rfl)) rfl rfl rfl (Op10 (LT.extract (v := (.c (bC r6.2.1))) rfl (by exact rfl)) rfl rfl rfl (asg (Cc (lo 35 r6.1.length)) rfl rfl rfl rfl (asg (Bv r6.2.1) rfl rfl rfl rfl (On (Ws (Ws ?_))))))))))
  refine AWR.joinK (fun j9 => ([(1, (Cc (.pl 21 0))), (4, (Cc (lo 28 r4.1.length))), (5, (Bv r4.2)), (6, (Cc (.pl 33 0))), (7, (Cc (lo 35 r6.1.length))), (8, (Bv r6.2.1)), (40, (Bv j9))], [(21, (.row 70 [[(iC aT.Framework.Graph.Points), (xF encTBar aT.Framework.Graph.Bars), (xF encTPlace aT.Framework.Places), (xF encInt aT.Kinds)]])), (28, (pR 3 encInt r4.1)), (30, (pR 62 encTBar r6.2.2.1)), (31, (pR 94 encTPlace r6.2.2.2.1)), (32, (pR 3 encInt r6.2.2.2.2)), (33, (.row 75 [[(iC r5.Framework.Graph.Points), (lo 30 r6.2.2.1.length), (lo 31 r6.2.2.2.1.length), (lo 32 r6.2.2.2.2.length)]])), (35, (pR 3 encInt r6.1))])) ?_ (fun j9 _ => ?_)
  ·refine en [(1, (Cc (.pl 21 0))), (4, (Cc (lo 28 r4.1.length))), (5, (Bv r4.2)), (6, (Cc (.pl 33 0))), (7, (Cc (lo 35 r6.1.length))), (8, (Bv r6.2.1))] [(21, (.row 70 [[(iC aT.Framework.Graph.Points), (xF encTBar aT.Framework.Graph.Bars), (xF encTPlace aT.Framework.Places), (xF encInt aT.Kinds)]])), (28, (pR 3 encInt r4.1)), (30, (pR 62 encTBar r6.2.2.1)), (31, (pR 94 encTPlace r6.2.2.2.1)), (32, (pR 3 encInt r6.2.2.2.2)), (33, (.row 75 [[(iC r5.Framework.Graph.Points), (lo 30 r5.Framework.Graph.Bars.length), (lo 31 r5.Framework.Places.length), (lo 32 r5.Kinds.length)]])), (35, (pR 3 encInt r6.1))] ⟨rfl, rfl, rfl, rfl, rfl, rfl, trivial⟩ ⟨rfl, rfl, rfl, rfl, rfl, rfl, rfl, trivial⟩ (Wr (mv (Cc (lo 35 r6.1.length)) rfl rfl rfl rfl (mv (Cc (lo 28 r4.1.length)) rfl rfl rfl rfl (Ob' fun r10 hr10 => (AOR.pure (@LT.callF Try.prog _ _ 63 _ _ [(.c (lo 35 r6.1.length)), (.c (lo 28 r4.1.length))] _ _ [(35, (pR 3 encInt r6.1)), (28, (pR 3 encInt r4.1))] _ _ _ _ (w_laws_eqIntS r6.1 r4.1 r10 hr10) rfl cb63 (.cons (.c (.tloc rfl rfl)) (.cons (.c (.tloc rfl rfl)) .nil)) rfl rfl trivial) ⟨rfl, rfl, rfl, trivial⟩ ⟨rfl, rfl, trivial⟩ rfl rfl (Op10 (LT.not rfl) rfl rfl rfl (mv (Bv (!r10)) rfl rfl rfl rfl (AOR.split (fun hb11 => ?_) (fun hb11 => ?_)))))))))
   ·refine Ok rfl rfl rfl (by rw [hb11]; rfl) rfl (Ok rfl rfl rfl (by rw [hb11]; rfl) rfl (Ok rfl rfl rfl (by rw [hb11]; rfl) rfl (Op20 (LT.pickT (v := (Bv true)) rfl hb11) rfl ⟨rfl, rfl⟩ rfl rfl (On (AWR.bind fun u12 hu12 => (AWR.bind fun u13 hu13 => (AWR.bind fun u14 hu14 => (AWR.nil ⟨rfl, Ent.of ⟨rfl, rfl, rfl, rfl, rfl, rfl, rfl, trivial⟩ ⟨rfl, rfl, rfl, rfl, rfl, (congr (congr (congrArg (fun l1 l2 l3 => (some (Ob.row 75 [[(iC r5.Framework.Graph.Points), (lo 30 l1), (lo 31 l2), (lo 32 l3)]]) : Option Ob)) (same_eq hu12)) (same_eq hu13)) (same_eq hu14)), rfl, trivial⟩⟩))))))))
   ·refine mv (Bv r6.2.1) rfl rfl ⟨_, rfl, .inl ⟨_, rfl, (by rw [hb11]; rfl)⟩⟩ rfl (mv (Bv r4.2) rfl rfl ⟨_, rfl, .inl ⟨_, rfl, (by rw [hb11]; rfl)⟩⟩ rfl (Op20 (LT.neqB rfl und4) rfl rfl ⟨_, rfl, .inl ⟨_, rfl, (by rw [hb11]; rfl)⟩⟩ rfl (Op20 (LT.pickF (v := (Bv (r6.2.1 != r4.2))) rfl hb11) rfl rfl rfl rfl (On (AWR.bind fun u15 hu15 => (AWR.bind fun u16 hu16 => (AWR.bind fun u17 hu17 => (AWR.nil ⟨rfl, Ent.of ⟨rfl, rfl, rfl, rfl, rfl, rfl, rfl, trivial⟩ ⟨rfl, rfl, rfl, rfl, rfl, (congr (congr (congrArg (fun l1 l2 l3 => (some (Ob.row 75 [[(iC r5.Framework.Graph.Points), (lo 30 l1), (lo 31 l2), (lo 32 l3)]]) : Option Ob)) (same_eq hu15)) (same_eq hu16)) (same_eq hu17)), rfl, trivial⟩⟩))))))))
  ·refine AWR.cond rfl (fun hc18 => ?_) (fun hc18 => ?_)
   ·refine Ws (Wr ?_)
    refine asg (Bv false) rfl ⟨rfl, rfl⟩ rfl rfl (On (AWR.ret (FPost.mk (.inr rfl) ⟨rfl, trivial⟩ trivial rfl ⟨PermP.sc, trivial⟩ trivial)))
   ·refine AWR.skip (Ws (Ws (AWR.draw mixed ?_)))
    refine Dp11 (LT.bloadN (out := [(iC r5.Framework.Graph.Points), (lo 30 r6.2.2.1.length), (lo 31 r6.2.2.2.1.length), (lo 32 r6.2.2.2.2.length)]) rfl ag75 (infS inf75) sz75 (by exact rfl) (by exact rfl)) rfl rfl rfl rfl (Dp11 (LT.bloadN (out := [(iC aT.Framework.Graph.Points), (xF encTBar aT.Framework.Graph.Bars), (xF encTPlace aT.Framework.Places), (xF encInt aT.Kinds)]) rfl ag70 (infS inf70) sz70 (by exact rfl) (by exact rfl)) rfl rfl rfl rfl (AOD.bind fun r19 hr19 => (AOD.step (@LT.callF Try.prog _ _ 61 _ _ [(.agg [(iC aT.Framework.Graph.Points), (xF encTBar aT.Framework.Graph.Bars), (xF encTPlace aT.Framework.Places), (xF encInt aT.Kinds)])] _ _ [] _ _ _ _ ((show Fw.Fn Try.prog 61 [(.agg [(iC aT.Framework.Graph.Points), (xF encTBar aT.Framework.Graph.Bars), (xF encTPlace aT.Framework.Places), (xF encInt aT.Kinds)])] [] (Ag  [(iC r19.Framework.Graph.Points), (lo 38 r19.Framework.Graph.Bars.length), (lo 39 r19.Framework.Places.length), (lo 40 r19.Kinds.length)]) [(38, (pR 62 encTBar r19.Framework.Graph.Bars)), (39, (pR 94 encTPlace r19.Framework.Places)), (40, (pR 3 encInt r19.Kinds))] [] [38, 39, 40] from Fw.Fn.ren [(0, 38), (1, 39), (2, 40)] (w_laws_toTensegrity aT r19 hr19) rfl)) rfl cb61 (.cons (.agg (.cons (.same rfl) (.cons (.same rfl) (.cons (.same rfl) (.cons (.same rfl) .nil))))) .nil) rfl rfl trivial) ⟨rfl, rfl, trivial⟩ trivial rfl rfl (AOD.bind fun r20 hr20 => (AOD.pure (@LT.callF Try.prog _ _ 64 _ _ [(.agg [(iC r5.Framework.Graph.Points), (lo 30 r6.2.2.1.length), (lo 31 r6.2.2.2.1.length), (lo 32 r6.2.2.2.2.length)]), (.agg [(iC r19.Framework.Graph.Points), (lo 38 r19.Framework.Graph.Bars.length), (lo 39 r19.Framework.Places.length), (lo 40 r19.Kinds.length)])] _ _ [(30, (pR 62 encTBar r6.2.2.1)), (31, (pR 94 encTPlace r6.2.2.2.1)), (32, (pR 3 encInt r6.2.2.2.2)), (38, (pR 62 encTBar r19.Framework.Graph.Bars)), (39, (pR 94 encTPlace r19.Framework.Places)), (40, (pR 3 encInt r19.Kinds))] _ _ _ _ (w_laws_eqTensegrity (TTensegrity.mk (TFramework.mk (TGraph.mk r5.Framework.Graph.Points r6.2.2.1) r6.2.2.2.1) r6.2.2.2.2) r19 r20 hr20) rfl cb64 (.cons (.agg (.cons (.same rfl) (.cons (.tloc rfl rfl) (.cons (.tloc rfl rfl) (.cons (.tloc rfl rfl) .nil))))) (.cons (.agg (.cons (.same rfl) (.cons (.tloc rfl rfl) (.cons (.tloc rfl rfl) (.cons (.tloc rfl rfl) .nil))))) .nil)) rfl rfl trivial) ⟨rfl, rfl, rfl, trivial⟩ ⟨rfl, rfl, rfl, rfl, rfl, rfl, trivial⟩ rfl rfl (Dp10 (LT.not rfl) rfl rfl rfl (AOD.nil (by kernel_rfl) (AWR.cond rfl (fun hc21 => ?_) (fun hc21 => ?_)))))))))
    ·refine Ws (Wr ?_)
     refine asg (Bv false) rfl ⟨rfl, rfl⟩ rfl rfl (On (AWR.ret (FPost.mk (.inr rfl) ⟨rfl, trivial⟩ trivial rfl ⟨PermP.sc, trivial⟩ trivial)))
    ·refine AWR.skip (Ws (Wr ?_))
     refine asg (Iv 1) rfl ⟨rfl, rfl⟩ rfl rfl (On (Ws (Wr ?_)))
     refine Op11 (LT.bloadN (out := [(iC r5.Framework.Graph.Points), (lo 30 r6.2.2.1.length), (lo 31 r6.2.2.2.1.length), (lo 32 r6.2.2.2.2.length)]) rfl ag75 (infS inf75) sz75 (by exact rfl) (by exact rfl)) rfl rfl rfl rfl (mv (Iv 1) rfl rfl rfl rfl (Ob' fun r22 hr22 => (AOR.step (@LT.callF Try.prog _ _ 65 _ _ [(.agg [(iC r5.Framework.Graph.Points), (lo 30 r6.2.2.1.length), (lo 31 r6.2.2.2.1.length), (lo 32 r6.2.2.2.2.length)]), (.c (iC 1))] _ _ [] _ _ _ _ ((show Fw.Fn Try.prog 65 [(.agg [(iC r5.Framework.Graph.Points), (lo 30 r6.2.2.1.length), (lo 31 r6.2.2.2.1.length), (lo 32 r6.2.2.2.2.length)]), (.c (iC 1))] [(30, (pR 62 encTBar r6.2.2.1)), (31, (pR 94 encTPlace r6.2.2.2.1)), (32, (pR 3 encInt r6.2.2.2.2))] (Iv r22.1) [(30, (pR 62 encTBar r22.2.1)), (31, (pR 94 encTPlace r22.2.2.1)), (32, (pR 3 encInt r22.2.2.2))] [30, 31, 32] [] from Fw.Fn.ren [(0, 30), (1, 31), (2, 32)] (w_laws_markTensegrity (TTensegrity.mk (TFramework.mk (TGraph.mk r5.Framework.Graph.Points r6.2.2.1) r6.2.2.2.1) r6.2.2.2.2) 1 r22 hr22) rfl)) rfl cb65 (.cons (.agg (.cons (.same rfl) (.cons (.same rfl) (.cons (.same rfl) (.cons (.same rfl) .nil))))) (.cons (.c (.same rfl)) .nil)) rfl rfl ⟨rfl, rfl, rfl, trivial⟩) ⟨rfl, rfl, rfl, trivial⟩ ⟨rfl, rfl, rfl, trivial⟩ rfl rfl (asg (Iv r22.1) rfl rfl rfl rfl (On (Ws (Ws ?_)))))))
     refine AWR.joinK (fun j26 => ([(1, (Cc (.pl 21 0))), (4, (Cc (lo 28 r4.1.length))), (5, (Bv r4.2)), (7, (Cc (lo 35 r6.1.length))), (61, (Bv j26))], [(21, (.row 70 [[(iC aT.Framework.Graph.Points), (xF encTBar aT.Framework.Graph.Bars), (xF encTPlace aT.Framework.Places), (xF encInt aT.Kinds)]])), (28, (pR 3 encInt r4.1)), (35, (pR 3 encInt r6.1))])) ?_ (fun j26 _ => ?_)
     ·refine en [(1, (Cc (.pl 21 0))), (4, (Cc (lo 28 r4.1.length))), (5, (Bv r4.2)), (7, (Cc (lo 35 r6.1.length))), (8, (Bv r6.2.1)), (9, (Iv r22.1))] [(21, (.row 70 [[(iC aT.Framework.Graph.Points), (xF encTBar aT.Framework.Graph.Bars), (xF encTPlace aT.Framework.Places), (xF encInt aT.Kinds)]])), (28, (pR 3 encInt r4.1)), (35, (pR 3 encInt r6.1))] ⟨rfl, rfl, rfl, rfl, rfl, rfl, trivial⟩ ⟨rfl, rfl, rfl, trivial⟩ (Wr (mv (Iv r22.1) rfl rfl rfl rfl (Op20 (LT.lss rfl) rfl ⟨rfl, rfl⟩ rfl rfl (mv (Bv (decide (r22.1 < 0))) rfl rfl rfl rfl (AOR.split (fun hb27 => ?_) (fun hb27 => ?_))))))
      ·refine Ok rfl rfl rfl (by rw [hb27]; rfl) rfl (Ok rfl rfl rfl (by rw [hb27]; rfl) rfl (Ok rfl rfl rfl (by rw [hb27]; rfl) rfl (Ok rfl rfl rfl (by rw [hb27]; rfl) rfl (Op20 (LT.pickT (v := (Bv true)) rfl hb27) rfl ⟨rfl, rfl⟩ rfl rfl (mv (Bv true) rfl rfl rfl rfl (Ok rfl rfl rfl rfl rfl (Ok rfl rfl rfl rfl rfl (Ok rfl rfl rfl rfl rfl (Op20 (LT.pickT (v := (Bv true)) rfl rfl) rfl ⟨rfl, rfl⟩ rfl rfl (On (AWR.nil ⟨rfl, Ent.of ⟨rfl, rfl, rfl, rfl, rfl, trivial⟩ ⟨rfl, rfl, rfl, trivial⟩⟩)))))))))))
      ·refine mv (Cc (lo 35 r6.1.length)) rfl rfl ⟨_, rfl, .inl ⟨_, rfl, (by rw [hb27]; rfl)⟩⟩ rfl (mv (Cc (lo 28 r4.1.length)) rfl rfl ⟨_, rfl, .inl ⟨_, rfl, (by rw [hb27]; rfl)⟩⟩ rfl (Ob' fun r28 hr28 => (AOR.pure (@LT.callF Try.prog _ _ 63 _ _ [(.c (lo 35 r6.1.length)), (.c (lo 28 r4.1.length))] _ _ [(35, (pR 3 encInt r6.1)), (28, (pR 3 encInt r4.1))] _ _ _ _ (w_laws_eqIntS r6.1 r4.1 r28 hr28) rfl cb63 (.cons (.c (.tloc rfl rfl)) (.cons (.c (.tloc rfl rfl)) .nil)) rfl rfl trivial) ⟨rfl, rfl, rfl, trivial⟩ ⟨rfl, rfl, trivial⟩ ⟨_, rfl, .inl ⟨_, rfl, (by rw [hb27]; rfl)⟩⟩ rfl (Op10 (LT.not rfl) rfl ⟨_, rfl, .inl ⟨_, rfl, (by rw [hb27]; rfl)⟩⟩ rfl (Op20 (LT.pickF (v := (Bv (!r28))) rfl hb27) rfl rfl rfl rfl (mv (Bv (!r28)) rfl rfl rfl rfl (AOR.split (fun hb29 => ?_) (fun hb29 => ?_))))))))
       ·refine Ok rfl rfl rfl (by rw [hb29]; rfl) rfl (Ok rfl rfl rfl (by rw [hb29]; rfl) rfl (Ok rfl rfl rfl (by rw [hb29]; rfl) rfl (Op20 (LT.pickT (v := (Bv true)) rfl hb29) rfl ⟨rfl, rfl⟩ rfl rfl (On (AWR.nil ⟨rfl, Ent.of ⟨rfl, rfl, rfl, rfl, rfl, trivial⟩ ⟨rfl, rfl, rfl, trivial⟩⟩)))))
       ·refine mv (Bv r6.2.1) rfl rfl ⟨_, rfl, .inl ⟨_, rfl, (by rw [hb29]; rfl)⟩⟩ rfl (mv (Bv r4.2) rfl rfl ⟨_, rfl, .inl ⟨_, rfl, (by rw [hb29]; rfl)⟩⟩ rfl (Op20 (LT.neqB rfl und4) rfl rfl ⟨_, rfl, .inl ⟨_, rfl, (by rw [hb29]; rfl)⟩⟩ rfl (Op20 (LT.pickF (v := (Bv (r6.2.1 != r4.2))) rfl hb29) rfl rfl rfl rfl (On (AWR.nil ⟨rfl, Ent.of ⟨rfl, rfl, rfl, rfl, rfl, trivial⟩ ⟨rfl, rfl, rfl, trivial⟩⟩)))))
     ·refine AWR.cond rfl (fun hc30 => ?_) (fun hc30 => ?_)
      ·refine Ws (Wr ?_)
       refine asg (Bv false) rfl ⟨rfl, rfl⟩ rfl rfl (On (AWR.ret (FPost.mk (.inr rfl) ⟨rfl, trivial⟩ trivial rfl ⟨PermP.sc, trivial⟩ trivial)))
      ·refine AWR.skip (Ws (Wr ?_))
       refine asg (Iv 1) rfl ⟨rfl, rfl⟩ rfl rfl (On (Ws (Wr ?_)))
       refine mv (Cc (lo 35 r6.1.length)) rfl rfl rfl rfl (mv (Iv 1) rfl rfl rfl rfl (Ob' fun r31 hr31 => (AOR.step (@LT.callF Try.prog _ _ 66 _ _ [(.c (lo 35 r6.1.length)), (.c (iC 1))] _ _ [] _ _ _ _ ((show Fw.Fn Try.prog 66 [(.c (lo 35 r6.1.length)), (.c (iC 1))] [(35, (pR 3 encInt r6.1))] (Iv r31.1) [(35, (pR 3 encInt r31.2))] [35] [] from Fw.Fn.ren [(0, 35)] (w_laws_markIntS r6.1 1 r31 hr31) rfl)) rfl cb66 (.cons (.c (.same rfl)) (.cons (.c (.same rfl)) .nil)) rfl rfl ⟨rfl, trivial⟩) ⟨rfl, rfl, rfl, trivial⟩ ⟨rfl, trivial⟩ rfl rfl (asg (Iv r31.1) rfl rfl rfl rfl (On (Ws (Wr ?_)))))))
       refine asg (Iv 1) rfl ⟨rfl, rfl⟩ rfl rfl (On (Ws (Wr ?_)))
       refine mv (Cc (lo 35 r6.1.length)) rfl rfl rfl rfl (mv (Iv 1) rfl rfl rfl rfl (Ob' fun u32 hu32 => (Ob' fun r33 hr33 => (AOR.pure (@LT.callF Try.prog _ _ 67 _ _ [(.c (lo 35 r6.1.length)), (.c (iC 1))] _ _ [(35, (pR 3 encInt r31.2))] _ _ _ _ (w_laws_heldIntS r31.2 1 r33 hr33) rfl cb67 (.cons (.c (.tloc (same_eq hu32) rfl)) (.cons (.c (.same rfl)) .nil)) rfl rfl trivial) ⟨rfl, rfl, rfl, trivial⟩ ⟨rfl, trivial⟩ rfl rfl (asg (Iv r33) rfl rfl rfl rfl (On (Ws (Ws ?_))))))))
       refine en [(1, (Cc (.pl 21 0))), (4, (Cc (lo 28 r4.1.length))), (5, (Bv r4.2)), (7, (Cc (lo 35 r6.1.length))), (10, (Iv r31.1)), (11, (Iv r33))] [(21, (.row 70 [[(iC aT.Framework.Graph.Points), (xF encTBar aT.Framework.Graph.Bars), (xF encTPlace aT.Framework.Places), (xF encInt aT.Kinds)]])), (28, (pR 3 encInt r4.1)), (35, (pR 3 encInt r31.2))] ⟨rfl, rfl, rfl, rfl, rfl, rfl, trivial⟩ ⟨rfl, rfl, rfl, trivial⟩ (Wr (mv (Iv r33) rfl rfl rfl rfl (Op20 (LT.lss rfl) rfl ⟨rfl, rfl⟩ rfl rfl (On (AWR.cond rfl (fun hc34 => ?_) (fun hc34 => ?_))))))
       ·refine Ws (Wr ?_)
        refine asg (Bv false) rfl ⟨rfl, rfl⟩ rfl rfl (On (AWR.ret (FPost.mk (.inr rfl) ⟨rfl, trivial⟩ trivial rfl ⟨PermP.sc, trivial⟩ trivial)))
       ·refine AWR.skip (Ws (Ws (Wr ?_)))
        refine mv (Iv r33) rfl rfl rfl rfl (mv (Iv r31.1) rfl rfl rfl rfl (Op20 (LT.neq rfl) rfl rfl rfl rfl (On (AWR.cond rfl (fun hc35 => ?_) (fun hc35 => ?_)))))
        ·refine Ws (Wr ?_)
         refine asg (Bv false) rfl ⟨rfl, rfl⟩ rfl rfl (On (AWR.ret (FPost.mk (.inr rfl) ⟨rfl, trivial⟩ trivial rfl ⟨PermP.sc, trivial⟩ trivial)))
        ·refine AWR.skip (Ws (Wr ?_))
         refine Op11 (LT.bloadN (out := [(iC aT.Framework.Graph.Points), (xF encTBar aT.Framework.Graph.Bars), (xF encTPlace aT.Framework.Places), (xF encInt aT.Kinds)]) rfl ag70 (infS inf70) sz70 (by exact rfl) (by exact rfl)) rfl rfl rfl rfl (Ob' fun r36 hr36 => (AOR.step (@LT.callF Try.prog _ _ 61 _ _ [(.agg [(iC aT.Framework.Graph.Points), (xF encTBar aT.Framework.Graph.Bars), (xF encTPlace aT.Framework.Places), (xF encInt aT.Kinds)])] _ _ [] _ _ _ _ ((show Fw.Fn Try.prog 61 [(.agg [(iC aT.Framework.Graph.Points), (xF encTBar aT.Framework.Graph.Bars), (xF encTPlace aT.Framework.Places), (xF encInt aT.Kinds)])] [] (Ag  [(iC r36.Framework.Graph.Points), (lo 47 r36.Framework.Graph.Bars.length), (lo 48 r36.Framework.Places.length), (lo 49 r36.Kinds.length)]) [(47, (pR 62 encTBar r36.Framework.Graph.Bars)), (48, (pR 94 encTPlace r36.Framework.Places)), (49, (pR 3 encInt r36.Kinds))] [] [47, 48, 49] from Fw.Fn.ren [(0, 47), (1, 48), (2, 49)] (w_laws_toTensegrity aT r36 hr36) rfl)) rfl cb61 (.cons (.agg (.cons (.same rfl) (.cons (.same rfl) (.cons (.same rfl) (.cons (.same rfl) .nil))))) .nil) rfl rfl trivial) ⟨rfl, rfl, trivial⟩ trivial rfl rfl (Ob' fun r37 hr37 => (AOR.step (@LT.callF Try.prog _ _ 62 _ _ [(.agg [(iC r36.Framework.Graph.Points), (lo 47 r36.Framework.Graph.Bars.length), (lo 48 r36.Framework.Places.length), (lo 49 r36.Kinds.length)])] _ _ [] _ _ _ _ ((show Fw.Fn Try.prog 62 [(.agg [(iC r36.Framework.Graph.Points), (lo 47 r36.Framework.Graph.Bars.length), (lo 48 r36.Framework.Places.length), (lo 49 r36.Kinds.length)])] [(47, (pR 62 encTBar r36.Framework.Graph.Bars)), (48, (pR 94 encTPlace r36.Framework.Places)), (49, (pR 3 encInt r36.Kinds))] (.tup [(.c (lo 51 r37.1.length)), (.c (bC r37.2.1))]) [(47, (pR 62 encTBar r37.2.2.1)), (48, (pR 94 encTPlace r37.2.2.2.1)), (49, (pR 3 encInt r37.2.2.2.2)), (51, (pR 3 encInt r37.1))] [47, 48, 49] [51] from Fw.Fn.ren [(0, 47), (1, 48), (2, 49), (3, 51)] (w_impl_FindStrictStress r36 r37 hr37) rfl)) rfl cb62 (.cons (.agg (.cons (.same rfl) (.cons (.same rfl) (.cons (.same rfl) (.cons (.same rfl) .nil))))) .nil) rfl rfl ⟨rfl, rfl, rfl, trivial⟩) ⟨rfl, rfl, trivial⟩ ⟨rfl, rfl, rfl, trivial⟩ rfl rfl (mv (.tup [(.c (lo 51 r37.1.length)), (.c (bC r37.2.1))]) rfl rfl rfl rfl (Op10 (LT.extract (v := (.c (lo 51 r37.1.length))) rfl (by exact rfl)) rfl rfl rfl (Op10 (LT.extract (v := (.c (bC r37.2.1))) rfl (by exact rfl)) rfl rfl rfl (asg (Cc (lo 51 r37.1.length)) rfl rfl rfl rfl (asg (Bv r37.2.1) rfl rfl rfl rfl (On (Ws (Ws ?_))))))))))))
         refine AWR.joinK (fun j40 => ([(7, (Cc (lo 35 r31.2.length))), (10, (Iv r31.1)), (87, (Bv j40))], [(35, (pR 3 encInt r31.2))])) ?_ (fun j40 _ => ?_)
         ·refine en [(4, (Cc (lo 28 r4.1.length))), (5, (Bv r4.2)), (7, (Cc (lo 35 r6.1.length))), (10, (Iv r31.1)), (12, (Cc (lo 51 r37.1.length))), (13, (Bv r37.2.1))] [(28, (pR 3 encInt r4.1)), (35, (pR 3 encInt r31.2)), (51, (pR 3 encInt r37.1))] ⟨rfl, rfl, rfl, rfl, rfl, rfl, trivial⟩ ⟨rfl, rfl, rfl, trivial⟩ (Wr (mv (Cc (lo 51 r37.1.length)) rfl rfl rfl rfl (mv (Cc (lo 28 r4.1.length)) rfl rfl rfl rfl (Ob' fun r41 hr41 => (AOR.pure (@LT.callF Try.prog _ _ 63 _ _ [(.c (lo 51 r37.1.length)), (.c (lo 28 r4.1.length))] _ _ [(51, (pR 3 encInt r37.1)), (28, (pR 3 encInt r4.1))] _ _ _ _ (w_laws_eqIntS r37.1 r4.1 r41 hr41) rfl cb63 (.cons (.c (.tloc rfl rfl)) (.cons (.c (.tloc rfl rfl)) .nil)) rfl rfl trivial) ⟨rfl, rfl, rfl, trivial⟩ ⟨rfl, rfl, trivial⟩ rfl rfl (Op10 (LT.not rfl) rfl rfl rfl (mv (Bv (!r41)) rfl rfl rfl rfl (AOR.split (fun hb42 => ?_) (fun hb42 => ?_)))))))))
          ·refine Ok rfl rfl rfl (by rw [hb42]; rfl) rfl (Ok rfl rfl rfl (by rw [hb42]; rfl) rfl (Ok rfl rfl rfl (by rw [hb42]; rfl) rfl (Op20 (LT.pickT (v := (Bv true)) rfl hb42) rfl ⟨rfl, rfl⟩ rfl rfl (On (AWR.bind fun u43 hu43 => (AWR.nil ⟨rfl, Ent.of ⟨(congrArg (fun l1 => (some (AV.s (.c (lo 35 l1))) : Option AV)) (same_eq hu43)), rfl, rfl, trivial⟩ ⟨rfl, trivial⟩⟩))))))
          ·refine mv (Bv r37.2.1) rfl rfl ⟨_, rfl, .inl ⟨_, rfl, (by rw [hb42]; rfl)⟩⟩ rfl (mv (Bv r4.2) rfl rfl ⟨_, rfl, .inl ⟨_, rfl, (by rw [hb42]; rfl)⟩⟩ rfl (Op20 (LT.neqB rfl und4) rfl rfl ⟨_, rfl, .inl ⟨_, rfl, (by rw [hb42]; rfl)⟩⟩ rfl (Op20 (LT.pickF (v := (Bv (r37.2.1 != r4.2))) rfl hb42) rfl rfl rfl rfl (On (AWR.bind fun u44 hu44 => (AWR.nil ⟨rfl, Ent.of ⟨(congrArg (fun l1 => (some (AV.s (.c (lo 35 l1))) : Option AV)) (same_eq hu44)), rfl, rfl, trivial⟩ ⟨rfl, trivial⟩⟩))))))
         ·refine AWR.cond rfl (fun hc45 => ?_) (fun hc45 => ?_)
          ·refine Ws (Wr ?_)
           refine asg (Bv false) rfl ⟨rfl, rfl⟩ rfl rfl (On (AWR.ret (FPost.mk (.inr rfl) ⟨rfl, trivial⟩ trivial rfl ⟨PermP.sc, trivial⟩ trivial)))
          ·refine AWR.skip (Ws (Wr ?_))
           refine asg (Iv 1) rfl ⟨rfl, rfl⟩ rfl rfl (On (Ws (Wr ?_)))
           refine mv (Cc (lo 35 r31.2.length)) rfl rfl rfl rfl (mv (Iv 1) rfl rfl rfl rfl (Ob' fun r46 hr46 => (AOR.pure (@LT.callF Try.prog _ _ 67 _ _ [(.c (lo 35 r31.2.length)), (.c (iC 1))] _ _ [(35, (pR 3 encInt r31.2))] _ _ _ _ (w_laws_heldIntS r31.2 1 r46 hr46) rfl cb67 (.cons (.c (.tloc rfl rfl)) (.cons (.c (.same rfl)) .nil)) rfl rfl trivial) ⟨rfl, rfl, rfl, trivial⟩ ⟨rfl, trivial⟩ rfl rfl (asg (Iv r46) rfl rfl rfl rfl (On (Ws (Ws (Wr ?_))))))))
           refine mv (Iv r46) rfl rfl rfl rfl (Op20 (LT.lss rfl) rfl ⟨rfl, rfl⟩ rfl rfl (On (AWR.cond rfl (fun hc47 => ?_) (fun hc47 => ?_))))
           ·refine Ws (Wr ?_)
            refine asg (Bv false) rfl ⟨rfl, rfl⟩ rfl rfl (On (AWR.ret (FPost.mk (.inr rfl) ⟨rfl, trivial⟩ trivial rfl ⟨PermP.sc, trivial⟩ trivial)))
           ·refine AWR.skip (Ws (Ws (Wr ?_)))
            refine mv (Iv r46) rfl rfl rfl rfl (mv (Iv r31.1) rfl rfl rfl rfl (Op20 (LT.neq rfl) rfl rfl rfl rfl (On (AWR.cond rfl (fun hc48 => ?_) (fun hc48 => ?_)))))
            ·refine Ws (Wr ?_)
             refine asg (Bv false) rfl ⟨rfl, rfl⟩ rfl rfl (On (AWR.ret (FPost.mk (.inr rfl) ⟨rfl, trivial⟩ trivial rfl ⟨PermP.sc, trivial⟩ trivial)))
            ·refine AWR.skip (Ws (Wr ?_))
             refine asg (Bv true) rfl ⟨rfl, rfl⟩ rfl rfl (On (AWR.ret (FPost.mk (.inr rfl) ⟨rfl, trivial⟩ trivial rfl ⟨PermP.sc, trivial⟩ trivial)))
end Go.Proofs.Ytghofbijdnenoaa
end
section
set_option linter.unusedVariables false
set_option linter.unusedSimpArgs false
set_option linter.unnecessarySimpa false
namespace Go.Fw
open Go.ChangeShapes Go.WideShapes Go.ChangeAt Go.RowKit
open Go.Proofs.Ytghofbijdnenoaa (Rows.uptoBulk Rows.uptoBulkAll)
abbrev Bof (W : World) : Nat → Prop := fun b => b < W.heap.size
abbrev Rno : Nat → Prop := fun _ => False
abbrev gno : Nat → GS := fun _ => .dead
def Opn {α : Type} (P : Program) (t : TypeId) (s : Nat) (enc : α → List PV) (wt : α → Nat) (ok : α → Prop) : Prop :=
  ∀ (H : Type) (e : TypeId × Value → H) (W : World) (base : Nat) (spare : Nat → Bool) (held : Bool) (fuel : Nat) (cs : List Value) (x : DataW H × List MemPlace), DataW.trod e P W base spare held fuel t cs = some x →
    ∃ a : α, ok a ∧ wt a ≤ Go.Proofs.Ytghofbijdnenoaa.Rows.uptoBulk x.1 ∧ cs.length = s ∧ (enc a).length = s ∧ ∀ (k : Nat) p, (enc a)[k]? = some p → ∃ u, cs[k]? = some u ∧ RPV W Rno (Bof W) p u
def okI (n : Int) : Prop := -9223372036854775808 ≤ n ∧ n ≤ 9223372036854775807
def okL {α : Type} (ok : α → Prop) (xs : List α) : Prop := ∀ x ∈ xs, ok x
def wtI (_ : Int) : Nat := 1
def wtL {α : Type} (wt : α → Nat) (xs : List α) : Nat := (xs.map wt).sum + 1
section
variable {P : Program}
theorem one1 {p q : PV} {cs : List Value} {v : Value} {W : World} (hcs : cs = [v]) (h : RPV W Rno (Bof W) p v) : ∀ (k : Nat) r, [p][k]? = some r → ∃ u, cs[k]? = some u ∧ RPV W Rno (Bof W) r u := fun k r hk => by
  subst hcs
  cases k with
  | zero => simp at hk; subst hk; exact ⟨v, rfl, h⟩
  | succ k => simp at hk
theorem Opn.int {t : TypeId} (ht : P.underlying t = some (.int .i64)) : Opn P t 1 (fun n : Int => [.sc (.int .i64 n)]) wtI okI := fun H e W base spare held fuel cs x h => by
  obtain ⟨n, rfl, rfl, hw⟩ := DataW.trod_int ht h
  refine ⟨n, ?_, by simp [wtI, Go.Proofs.Ytghofbijdnenoaa.Rows.uptoBulk], rfl, rfl, one1 (q := .sc (.int .i64 n)) rfl (.sc rfl)⟩
  simp [Lit.wf, IntKind.min, IntKind.max, IntKind.signed, IntKind.bits] at hw
  exact ⟨by omega, by omega⟩
theorem list_of {α : Type} {p : Nat → α → Prop} : ∀ n : Nat, (∀ i, i < n → ∃ a, p i a) → ∃ xs : List α, xs.length = n ∧ ∀ (i : Nat) a, xs[i]? = some a → p i a
  | 0, _ => ⟨[], rfl, fun i a h => by simp at h⟩
  | n + 1, h => by
    obtain ⟨xs, h1, h2⟩ := list_of n fun i hi => h i (by omega)
    obtain ⟨a, ha⟩ := h n (by omega)
    refine ⟨xs ++ [a], by simp [h1], fun i b hb => ?_⟩
    rw [List.getElem?_append] at hb
    split at hb
    · exact h2 i b hb
    · rename_i hn
      have hi : i - xs.length = 0 := by
        have := (List.getElem?_eq_some_iff.1 hb).1
        simp at this
        omega
      rw [hi] at hb
      simp at hb
      subst hb
      have : i = n := by omega
      subst this
      exact ha
theorem bulk_sum {α : Type} {H : Type} {wt : α → Nat} {D : Nat → DataW H} : ∀ (xs : List α) (k : Nat), (∀ (i : Nat) a, xs[i]? = some a → wt a ≤ Go.Proofs.Ytghofbijdnenoaa.Rows.uptoBulk (D (k + i))) →
    (xs.map wt).sum ≤ Go.Proofs.Ytghofbijdnenoaa.Rows.uptoBulkAll ((List.range' k xs.length).map D)
  | [], _, _ => by simp [Go.Proofs.Ytghofbijdnenoaa.Rows.uptoBulkAll]
  | a :: r, k, h => by
    have h0 := h 0 a rfl
    have ih := bulk_sum r (k + 1) fun i b hb => by
      have := h (i + 1) b (by simpa using hb)
      rwa [show k + 1 + i = k + (i + 1) by omega]
    rw [Nat.add_zero] at h0
    simp only [List.map_cons, List.sum_cons, List.length_cons, List.range'_succ, Go.Proofs.Ytghofbijdnenoaa.Rows.uptoBulkAll]
    omega
theorem cell_lt {w : World} {a : Addr} {v : Value} (h : w.cell? a = some v) : a.block < w.heap.size := by
  unfold World.cell? at h
  cases hb : w.heap[a.block]? with
  | none => rw [hb] at h; simp at h
  | some o => exact (Array.getElem?_eq_some_iff.1 hb).1
theorem Opn.slice {α : Type} {t e : TypeId} {s : Nat} {enc : α → List PV} {wt : α → Nat} {ok : α → Prop} (ht : P.underlying t = some (.slice e)) (hs : P.cellsOf e = s) (hs0 : 0 < s) (he : Opn P e s enc wt ok) :
    Opn P t 1 (fun xs : List α => [.xs false (xs.map enc)]) (wtL wt) (okL ok) := fun H en W base spare held fuel cs x h => by
  rcases Go.Deep.open_slice ht h with ⟨rfl, rfl⟩ | ⟨a, len, cap, m, n, D, Pl, rfl, hb, hl, hm, hmm, rfl, hi⟩
  · refine ⟨[], ?_, ?_, rfl, rfl, one1 (q := .xs false []) rfl .emp⟩
    · intro x hx; cases hx
    · simp [wtL, Go.Proofs.Ytghofbijdnenoaa.Rows.uptoBulk]
  · have hml : len ≤ m := by rw [hmm]; split <;> omega
    obtain ⟨xs, hxl, hx⟩ := list_of (p := fun i (b : α) => ok b ∧ wt b ≤ Go.Proofs.Ytghofbijdnenoaa.Rows.uptoBulk (D i) ∧ (enc b).length = s ∧ ∀ (k : Nat) p, (enc b)[k]? = some p → ∃ u, W.cell? (a.add (i * s + k)) = some u ∧ RPV W Rno (Bof W) p u) len (fun i hil => by
      obtain ⟨cs', hc, htr⟩ := hi i (by omega)
      obtain ⟨b, h1, h2, h3, h4, h5⟩ := he _ _ _ _ _ _ _ _ _ htr
      obtain ⟨_, hcl, hat⟩ := World.cells?_some hc
      refine ⟨b, h1, h2, h4, fun k p hk => ?_⟩
      obtain ⟨u, hu, hr⟩ := h5 k p hk
      refine ⟨u, ?_, hr⟩
      have hks : k < s := by rw [← h4]; exact (List.getElem?_eq_some_iff.1 hk).1
      have := hat k (by rw [hs]; exact hks)
      rw [add_add, hs] at this
      rw [this]
      exact hu)
    refine ⟨xs, fun b hb => ?_, ?_, rfl, rfl, one1 (q := .sc undef) rfl ?_⟩
    · obtain ⟨i, hib⟩ := List.getElem?_of_mem hb
      exact (hx i b hib).1
    · have := bulk_sum (wt := wt) (D := D) xs 0 (fun i b hb => by rw [Nat.zero_add]; exact (hx i b hb).2.1)
      simp only [wtL, Go.Proofs.Ytghofbijdnenoaa.Rows.uptoBulk]
      rw [hxl, ← List.range_eq_range'] at this
      omega
    · cases hxs : xs with
      | nil =>
        have : len = 0 := by rw [← hxl, hxs]; rfl
        subst this
        exact .emp
      | cons b r =>
        rw [← hxs]
        have hget : ∀ (j k : Nat) cs p, (xs.map enc)[j]? = some cs → cs[k]? = some p → ∃ u, W.cell? (a.add (j * s + k)) = some u ∧ RPV W Rno (Bof W) p u := fun j k cs p hj hk => by
          rw [List.getElem?_map] at hj
          cases hjx : xs[j]? with
          | none => rw [hjx] at hj; cases hj
          | some c =>
            rw [hjx] at hj
            injection hj with hj
            subst hj
            exact (hx j c hjx).2.2.2 k p hk
        refine .xs (s := s) (fun j k => (W.cell? (a.add (j * s + k))).getD undef) (by simp [hxl]) ?_ (by simp [hxl]; exact hl) (fun cs hcs => ?_) (fun j k cs p hj hk => ?_) (fun j k cs p hj hk => ?_)
        · have h0 := hx 0 b (by rw [hxs]; rfl)
          have hlt : 0 < (enc b).length := by rw [h0.2.2.1]; exact hs0
          obtain ⟨u, hu, _⟩ := h0.2.2.2 0 (enc b)[0] (List.getElem?_eq_getElem hlt)
          have := cell_lt hu
          rw [add_block] at this
          exact this
        · obtain ⟨c, hc, rfl⟩ := List.mem_map.1 hcs
          obtain ⟨i, hic⟩ := List.getElem?_of_mem hc
          exact (hx i c hic).2.2.1
        · obtain ⟨u, hu, _⟩ := hget j k cs p hj hk
          rw [hu]; rfl
        · obtain ⟨u, hu, hr⟩ := hget j k cs p hj hk
          rw [hu]
          exact hr
def st2 (P : Program) (t : TypeId) : Option (Nat × Nat × Nat × Nat) := match P.underlying t with
  | some (.struct fs) => match fs.toList with
    | [f0, f1] => some (f0.type, f0.offset, f1.type, f1.offset)
    | _ => none
  | _ => none
theorem Opn.struct2 {α β γ : Type} {t t1 t2 : TypeId} {s1 s2 : Nat} {enc1 : α → List PV} {enc2 : β → List PV} {enc : γ → List PV} {wt1 : α → Nat} {wt2 : β → Nat} {wt : γ → Nat} {ok1 : α → Prop} {ok2 : β → Prop} {ok : γ → Prop} (mk : α → β → γ)
    (ht : st2 P t = some (t1, 0, t2, s1)) (hc : P.cellsOf t = s1 + s2) (hc1 : P.cellsOf t1 = s1) (hc2 : P.cellsOf t2 = s2) (h1 : Opn P t1 s1 enc1 wt1 ok1) (h2 : Opn P t2 s2 enc2 wt2 ok2)
    (he : ∀ a b, enc (mk a b) = enc1 a ++ enc2 b) (hw : ∀ a b, wt (mk a b) = wt1 a + wt2 b) (ho : ∀ a b, ok1 a → ok2 b → ok (mk a b)) : Opn P t (s1 + s2) enc wt ok := fun H e W base spare held fuel cs x h => by
  unfold st2 at ht
  split at ht
  · rename_i fs hfs
    split at ht
    · rename_i f0 f1 hfl
      obtain ⟨l⟩ := fs
      simp only at hfl
      subst hfl
      simp only [Option.some.injEq, Prod.mk.injEq] at ht
      obtain ⟨rfl, ho0, rfl, ho1⟩ := ht
      obtain ⟨y0, y1, n, rfl, hl, h3, h4⟩ := Go.ChangeShapes.trod_struct2 hfs h
      rw [ho0, hc1] at h3
      rw [ho1, hc2] at h4
      obtain ⟨a, a1, a2, a3, a4, a5⟩ := h1 _ _ _ _ _ _ _ _ _ h3
      obtain ⟨b, b1, b2, b3, b4, b5⟩ := h2 _ _ _ _ _ _ _ _ _ h4
      refine ⟨mk a b, ho a b a1 b1, ?_, by rw [hl, hc], by rw [he, List.length_append, a4, b4], fun k p hk => ?_⟩
      · rw [hw]
        simp only [Go.Proofs.Ytghofbijdnenoaa.Rows.uptoBulk, Go.Proofs.Ytghofbijdnenoaa.Rows.uptoBulkAll]
        omega
      · rw [he, List.getElem?_append] at hk
        split at hk
        · rename_i hlt
          rw [a4] at hlt
          obtain ⟨u, hu, hr⟩ := a5 k p hk
          refine ⟨u, ?_, hr⟩
          rw [List.getElem?_take, if_pos hlt, List.drop_zero] at hu
          exact hu
        · rename_i hlt
          rw [a4] at hlt hk
          obtain ⟨u, hu, hr⟩ := b5 _ p hk
          refine ⟨u, ?_, hr⟩
          rw [List.getElem?_take] at hu
          split at hu
          · rw [List.getElem?_drop] at hu
            rwa [show s1 + (k - s1) = k by omega] at hu
          · cases hu
    · cases ht
  · cases ht
theorem len_wtL {α : Type} {wt : α → Nat} (h : ∀ x, 1 ≤ wt x) (xs : List α) : xs.length ≤ wtL wt xs := by
  unfold wtL
  induction xs with
  | nil => simp
  | cons x r ih =>
    have := h x
    simp only [List.map_cons, List.sum_cons, List.length_cons] at ih ⊢
    omega
theorem Opn.argN {α : Type} {t : TypeId} {s : Nat} {enc : α → List PV} {wt : α → Nat} {ok : α → Prop} (h : Opn P t s enc wt ok) {H : Type} {e : TypeId × Value → H} {W : World} {sp : Nat → Bool} {v : Value} {d : DataW H} {ps : List MemPlace}
    (hv : ∃ cs : Array Value, v = .agg cs) (hd : DataW.Trod e P W 0 sp true t v d ps) : ∃ a : α, ok a ∧ wt a ≤ Go.Proofs.Ytghofbijdnenoaa.Rows.uptoBulk d ∧ RS P W Rno (Bof W) gno (.agg ((enc a).map .pv)) v := by
  obtain ⟨cs, rfl⟩ := hv
  obtain ⟨fuel, hf⟩ := hd
  obtain ⟨a, h1, h2, h3, h4, h5⟩ := h _ _ _ _ _ _ _ _ _ hf
  refine ⟨a, h1, h2, cs.toList, by simp, by rw [List.length_map, h4]; simpa [Value.cells] using h3, fun k x hk => ?_⟩
  rw [List.getElem?_map] at hk
  cases hp : (enc a)[k]? with
  | none => rw [hp] at hk; cases hk
  | some p =>
    rw [hp] at hk
    injection hk with hk
    subst hk
    obtain ⟨u, hu, hr⟩ := h5 k p hp
    exact ⟨u, by simpa [Value.cells] using hu, hr.oneCell, hr⟩
def ArgR (P : Program) (W : World) : List SV → List Value → Prop
  | [], [] => True
  | x :: xs, v :: vs => RS P W Rno (Bof W) gno x v ∧ ArgR P W xs vs
  | _, _ => False
theorem ArgR.spec {W : World} : ∀ {xs : List SV} {vs : List Value}, ArgR P W xs vs → vs.length = xs.length ∧ ∀ (k : Nat) x, xs[k]? = some x → ∃ u, vs[k]? = some u ∧ RS P W Rno (Bof W) gno x u
  | [], [], _ => ⟨rfl, fun k x hk => by simp at hk⟩
  | [], _ :: _, h => h.elim
  | _ :: _, [], h => h.elim
  | x :: xs, v :: vs, h => by
    obtain ⟨h1, h2⟩ := ArgR.spec h.2
    refine ⟨by simp [h1], fun k y hk => ?_⟩
    cases k with
    | zero => simp at hk; subst hk; exact ⟨v, rfl, h.1⟩
    | succ k => exact h2 k y (by simpa using hk)
theorem Fn.called {f : FuncId} {xs : List SV} (hf : Fw.Fn P f xs [] (.s (.c (bC true))) [] [] []) {W : World} {args : Array Value} (ha : ArgR P W xs args.toList) : Calls P f args W fun e W' => e = .returned (.bool true) ∧ Below W.heap.size W W' := by
  obtain ⟨h1, h2⟩ := ha.spec
  have hw : WF Rno (Bof W) gno W := ⟨fun b hb => hb.elim, fun b hb => hb, fun n b hg => hg.elim, fun n m b hg => hg.elim, fun n j k b h => (by cases h)⟩
  have := hf Rno (Bof W) gno W args.toList hw h1 h2 (fun p hp => by cases hp)
  rw [show args.toList.toArray = args from by simp] at this
  refine this.mono fun e W' hp => ?_
  obtain ⟨u, R', B', g', rfl, had, _, hv, _⟩ := hp
  have hu : u = .bool true := by
    obtain ⟨_, h3⟩ := hv
    cases h3
    rfl
  subst hu
  exact ⟨rfl, had.os, had.tape, had.output, had.size, fun k hk => had.heap k hk fun n hn => by cases hn⟩
theorem trodAll_stays {H : Type} {e : TypeId × Value → H} (hl : laidOutB P = true) {W W' : World} {sp : Nat → Bool} (hb : Below W.heap.size W W') : ∀ {ts : List TypeId} {vs : List Value} {ds : List (DataW H)} {ps : List MemPlace}, (ts.all fun t => P.readableRec t && decide (t < P.types.size)) = true →
    DataW.TrodAll e P W 0 (fun _ => true) true ts vs ds ps → (∀ p ∈ ps, p.block < W.heap.size) → (∀ p ∈ ps, sp p.block = true) → DataW.TrodAll e P W' 0 sp true ts vs ds ps
  | [], [], [], _, _, h, _, _ => h
  | t :: ts, v :: vs, d :: ds, ps, hr, h, hlt, hs => by
    obtain ⟨p, q, h1, h2, rfl⟩ := h
    simp only [List.all_cons, Bool.and_eq_true, decide_eq_true_eq] at hr
    exact ⟨p, q, Go.WideElems.Trod_stays hl hr.1.1 hr.1.2 h1 (fun x hx => hb.same (hlt x (List.mem_append_left _ hx))) (fun x hx => hs x (List.mem_append_left _ hx)), trodAll_stays hl hb hr.2 h2 (fun x hx => hlt x (List.mem_append_right _ hx)) (fun x hx => hs x (List.mem_append_right _ hx)), rfl⟩
  | [], [], _ :: _, _, _, h, _, _ => h.elim
  | [], _ :: _, _, _, _, h, _, _ => h.elim
  | _ :: _, [], _, _, _, h, _, _ => h.elim
  | _ :: _, _ :: _, [], _, _, h, _, _ => h.elim
theorem post_of_fw {H : Type} {e : TypeId × Value → H} {f : Func} {s : ChangeSpec} {apart handsOn again : Bool} {fresh : Bool} {W W' : World} {args : Array Value} {ds gs : List (DataW H)} {before : List MemPlace} {tb : TypeId} (hW : DataW.Whole e P f.params.toList s.vars apart W args.toList ds gs before) (hl : laidOutB P = true)
    (hr : (f.params.toList.all fun t => P.readableRec t && decide (t < P.types.size)) = true) (hb : Below W.heap.size W W') (hv : s.vars = []) (hf : s.fn H ds = { results := [.lit (.bool true)], args := ds }) (hrt : f.resultTypes = #[tb]) (htb : P.underlying tb = some .bool) :
    s.post e P f apart fresh handsOn again W args (.bool true) W' := by
  have hlt : ∀ p ∈ before, p.block < W.heap.size := fun p hp => hW.lt p hp
  have hW0 := hW
  obtain ⟨p, q, hA, hV, hpq, hz, hn⟩ := hW
  rw [hv] at hV
  obtain ⟨rfl, rfl⟩ : gs = [] ∧ q = [] := by
    cases gs with
    | nil => exact ⟨rfl, hV⟩
    | cons _ _ => exact hV.elim
  rw [List.append_nil] at hpq
  subst hpq
  have hargs : ∀ sp : Nat → Bool, (∀ p ∈ before, sp p.block = true) → DataW.TrodAll e P W' 0 sp true f.params.toList args.toList ds before := fun sp hs => trodAll_stays hl hb hr hA hlt hs
  have hres : ∀ (b : Nat) (sp : Nat → Bool) (hd : Bool), DataW.TrodAll e P W' b sp hd f.resultTypes.toList ((Value.bool true).resultList f.resultTypes.size) [.lit (.bool true)] [] := fun b sp hd => by
    rw [hrt]
    exact ⟨[], [], shut_bool htb _, rfl, rfl⟩
  have hfd : s.fn H (ds ++ []) = { results := [.lit (.bool true)], args := ds } := by rw [List.append_nil]; exact hf
  have hold : ∀ p ∈ before, (fun b => decide (b < W.heap.size)) p.block = true := fun p hp => by simpa using hlt p hp
  have hvs : ∀ sp : Nat → Bool, DataW.TrodVars e P W' sp s.vars [] [] := fun sp => by rw [hv]; rfl
  refine ⟨ds, [], before, [], before, [], hW0, ?_, ?_, ?_, World.keptBut_mono (fun p hp => ⟨hp, ?_⟩) (hb.frame (· ∈ before)), fun _ => ?_⟩
  · rw [hfd]; exact hres _ _ _
  · rw [hfd]; exact hargs _ hold
  · rw [hfd]; exact hvs _
  · exact Or.inr (Or.inl hp)
  · refine ⟨ok_one hrt rfl (okWide_bool_mk htb _), ?_⟩
    · refine ⟨_, _, ([] ++ before) ++ [], ⟨[] ++ before, [], trodAll_append (hargs _ (fun _ _ => rfl)) (hres _ _ _), hvs _, rfl, ?_, ?_⟩, ?_⟩
      · intro b off hp
        have hin : MemPlace.cell b off ∈ before := by simpa using hp
        rw [hb.frozen (hlt _ hin)]
        exact hz b off hin
      · intro ha
        simpa using hn ha
      · intro p hp _
        simpa using hp
end
end Go.Fw
end
section
set_option linter.unusedVariables false
set_option linter.unusedSimpArgs false
set_option linter.unnecessarySimpa false
open Go Go.Fw
namespace Go.Proofs.Ytghofbijdnenoaa
theorem oC162 : Try.prog.cellsOf 162 = 2 := by kernel_rfl
theorem oC170 : Try.prog.cellsOf 170 = 2 := by kernel_rfl
theorem oC3 : Try.prog.cellsOf 3 = 1 := by kernel_rfl
theorem oC37 : Try.prog.cellsOf 37 = 1 := by kernel_rfl
theorem oC48 : Try.prog.cellsOf 48 = 1 := by kernel_rfl
theorem oC50 : Try.prog.cellsOf 50 = 2 := by kernel_rfl
theorem oC66 : Try.prog.cellsOf 66 = 1 := by kernel_rfl
theorem oC68 : Try.prog.cellsOf 68 = 3 := by kernel_rfl
theorem oC70 : Try.prog.cellsOf 70 = 4 := by kernel_rfl
theorem oS162 : st2 Try.prog 162 = some (3, 0, 3, 1) := by kernel_rfl
theorem oS170 : st2 Try.prog 170 = some (3, 0, 3, 1) := by kernel_rfl
theorem oS50 : st2 Try.prog 50 = some (3, 0, 48, 1) := by kernel_rfl
theorem oS68 : st2 Try.prog 68 = some (50, 0, 66, 2) := by kernel_rfl
theorem oS70 : st2 Try.prog 70 = some (68, 0, 37, 3) := by kernel_rfl
theorem oU3 : Try.prog.underlying 3 = some (.int .i64) := by kernel_rfl
theorem oU37 : Try.prog.underlying 37 = some (.slice 3) := by kernel_rfl
theorem oU48 : Try.prog.underlying 48 = some (.slice 162) := by kernel_rfl
theorem oU66 : Try.prog.underlying 66 = some (.slice 170) := by kernel_rfl
theorem oX70 : Try.prog.underlying 70 = some (.struct (Try.prog.fieldsOf 70)) := by kernel_rfl
def e_TBar (a : TBar) : List PV := [.sc (.int .i64 a.A), .sc (.int .i64 a.B)]
def wt_TBar (a : TBar) : Nat := wtI a.A + wtI a.B
def ok_TBar (a : TBar) : Prop := okI a.A ∧ okI a.B
theorem opn_162 : Opn Try.prog 162 2 e_TBar wt_TBar ok_TBar := Opn.struct2 (enc1 := (fun n : Int => [.sc (.int .i64 n)])) (enc2 := (fun n : Int => [.sc (.int .i64 n)])) TBar.mk oS162 oC162 oC3 oC3 (Opn.int oU3) (Opn.int oU3) (fun _ _ => rfl) (fun _ _ => rfl) (fun _ _ h1 h2 => ⟨h1, h2⟩)
def e_TGraph (a : TGraph) : List PV := [.sc (.int .i64 a.Points), .xs false (a.Bars.map encTBar)]
def wt_TGraph (a : TGraph) : Nat := wtI a.Points + (wtL wt_TBar) a.Bars
def ok_TGraph (a : TGraph) : Prop := okI a.Points ∧ (okL ok_TBar) a.Bars
theorem opn_50 : Opn Try.prog 50 2 e_TGraph wt_TGraph ok_TGraph := Opn.struct2 (enc1 := (fun n : Int => [.sc (.int .i64 n)])) (enc2 := (fun xs => [.xs false (xs.map e_TBar)])) TGraph.mk oS50 oC50 oC3 oC48 (Opn.int oU3) (Opn.slice oU48 oC162 (by decide) opn_162) (fun _ _ => rfl) (fun _ _ => rfl) (fun _ _ h1 h2 => ⟨h1, h2⟩)
def e_TPlace (a : TPlace) : List PV := [.sc (.int .i64 a.X), .sc (.int .i64 a.Y)]
def wt_TPlace (a : TPlace) : Nat := wtI a.X + wtI a.Y
def ok_TPlace (a : TPlace) : Prop := okI a.X ∧ okI a.Y
theorem opn_170 : Opn Try.prog 170 2 e_TPlace wt_TPlace ok_TPlace := Opn.struct2 (enc1 := (fun n : Int => [.sc (.int .i64 n)])) (enc2 := (fun n : Int => [.sc (.int .i64 n)])) TPlace.mk oS170 oC170 oC3 oC3 (Opn.int oU3) (Opn.int oU3) (fun _ _ => rfl) (fun _ _ => rfl) (fun _ _ h1 h2 => ⟨h1, h2⟩)
def e_TFramework (a : TFramework) : List PV := [.sc (.int .i64 a.Graph.Points), .xs false (a.Graph.Bars.map encTBar), .xs false (a.Places.map encTPlace)]
def wt_TFramework (a : TFramework) : Nat := wt_TGraph a.Graph + (wtL wt_TPlace) a.Places
def ok_TFramework (a : TFramework) : Prop := ok_TGraph a.Graph ∧ (okL ok_TPlace) a.Places
theorem opn_68 : Opn Try.prog 68 3 e_TFramework wt_TFramework ok_TFramework := Opn.struct2 (enc1 := e_TGraph) (enc2 := (fun xs => [.xs false (xs.map e_TPlace)])) TFramework.mk oS68 oC68 oC50 oC66 opn_50 (Opn.slice oU66 oC170 (by decide) opn_170) (fun _ _ => rfl) (fun _ _ => rfl) (fun _ _ h1 h2 => ⟨h1, h2⟩)
def e_TTensegrity (a : TTensegrity) : List PV := [.sc (.int .i64 a.Framework.Graph.Points), .xs false (a.Framework.Graph.Bars.map encTBar), .xs false (a.Framework.Places.map encTPlace), .xs false (a.Kinds.map encInt)]
def wt_TTensegrity (a : TTensegrity) : Nat := wt_TFramework a.Framework + (wtL wtI) a.Kinds
def ok_TTensegrity (a : TTensegrity) : Prop := ok_TFramework a.Framework ∧ (okL okI) a.Kinds
theorem opn_70 : Opn Try.prog 70 4 e_TTensegrity wt_TTensegrity ok_TTensegrity := Opn.struct2 (enc1 := e_TFramework) (enc2 := (fun xs => [.xs false (xs.map (fun n : Int => [.sc (.int .i64 n)]))])) TTensegrity.mk oS70 oC70 oC68 oC37 opn_68 (Opn.slice oU37 oC3 (by decide) (Opn.int oU3)) (fun _ _ => rfl) (fun _ _ => rfl) (fun _ _ h1 h2 => ⟨h1, h2⟩)
end Go.Proofs.Ytghofbijdnenoaa
end
