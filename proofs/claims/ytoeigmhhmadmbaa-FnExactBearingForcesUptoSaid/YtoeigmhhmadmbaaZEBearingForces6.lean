/- Parts of a proof that a law of the program holds: what the program computes, and why that is right. -/
import Derived.Test.YtoeigmhhmadmbaaRows
import Derived.ProofKit
import Derived.OpenShut
import Derived.JoinedCond
import Derived.Carry
import Derived.Deep.Slices
import Derived.ChangeSame
import Derived.Test.YtoeigmhhmadmbaaZEBearingForces5
section
set_option linter.unusedVariables false
set_option linter.unusedSimpArgs false
set_option linter.unnecessarySimpa false
open Go Go.Fw
namespace Go.Proofs.Ytoeigmhhmadmbaa
set_option maxRecDepth 100000 in
set_option maxHeartbeats 8000000 in
theorem w_laws_FnExactBearingForces (aF : TFramework) (aLoad : (List Int)) : ∀ t, m_laws_FnExactBearingForces aF aLoad = some t → Fw.Fn Try.prog 5 [(.agg [(iC aF.Graph.Points), (.pv (.xs false (aF.Graph.Bars.map encTBar))), (.pv (.xs false (aF.Places.map encTPlace)))]), (.c (.pv (.xs false (aLoad.map encInt))))] [] (.s (.c (bC t))) [] [] [] := by
  refine Fw.Fn.of (P := Try.prog) (X := []) (pn := []) (rs := (fun (t : Bool) => [(.c (bC t))])) (dfs := (fun (t : Bool) => [])) Try.func5 rfl Try.ntmps5 (Nat.le_of_ble_eq_true rfl) rfl ?_
  intro w0 U0 R0 g0
  unfold m_laws_FnExactBearingForces
  refine AWR.seq ?_
  refine AWR.region ?_
  refine AOR.step (LT.box (n := 21) (v := (.agg [(iC aF.Graph.Points), (.pv (.xs false (aF.Graph.Bars.map encTBar))), (.pv (.xs false (aF.Places.map encTPlace)))])) rfl sz53 (by exact rfl)) ⟨rfl, trivial⟩ trivial rfl rfl ?_
  refine AOR.pure (LT.assign (v := (.s (.c (bC false)))) rfl) ⟨⟨rfl, rfl⟩, trivial⟩ trivial rfl rfl ?_
  refine AOR.nil ?_
  refine AWR.seq ?_
  refine AWR.seq ?_
  refine AWR.region ?_
  refine AOR.pure (LT.move (v := (.s (.c (.pv (.xs false (aLoad.map encInt)))))) rfl) ⟨rfl, trivial⟩ trivial rfl rfl ?_
  refine AOR.pure (LT.tlenRO rfl und37) ⟨rfl, trivial⟩ trivial rfl rfl ?_
  refine AOR.pure (LT.gtr rfl) ⟨rfl, ⟨rfl, rfl⟩, trivial⟩ trivial rfl rfl ?_
  refine AOR.nil ?_
  refine AWR.cond rfl (fun hc1 => ?_) (fun hc1 => ?_)
  · refine AWR.seq ?_
    refine AWR.region ?_
    refine AOR.pure (LT.assign (v := (.s (.c (bC true)))) rfl) ⟨⟨rfl, rfl⟩, trivial⟩ trivial rfl rfl ?_
    refine AOR.nil ?_
    refine AWR.ret (FPost.mk (.inr rfl) ⟨rfl, trivial⟩ trivial rfl ⟨PermP.sc, trivial⟩ trivial)
  · refine AWR.skip ?_
    refine AWR.seq ?_
    refine AWR.region ?_
    refine AOR.pure (LT.assign (v := (.s (.c (iC 1048576)))) rfl) ⟨⟨rfl, rfl⟩, trivial⟩ trivial rfl rfl ?_
    refine AOR.nil ?_
    refine AWR.seq ?_
    refine AWR.region ?_
    refine AOR.pure (LT.bloadN (out := [(iC aF.Graph.Points), (.pv (.xs false (aF.Graph.Bars.map encTBar))), (.pv (.xs false (aF.Places.map encTPlace)))]) rfl ag53 (infS inf53) sz53 (by exact rfl) (by exact rfl)) ⟨rfl, trivial⟩ ⟨rfl, trivial⟩ rfl rfl ?_
    refine AOR.pure (LT.move (v := (.s (.c (iC 1048576)))) rfl) ⟨rfl, trivial⟩ trivial rfl rfl ?_
    refine AOR.bind fun r2 hr2 => ?_
    refine AOR.pure (@LT.callF Try.prog _ _ 43 _ _ [(.agg [(iC aF.Graph.Points), (.pv (.xs false (aF.Graph.Bars.map encTBar))), (.pv (.xs false (aF.Places.map encTPlace)))]), (.c (iC 1048576))] _ _ [] _ _ _ _ (w_laws_szFramework aF 1048576 r2 hr2) rfl cb43 (.cons (.agg (.cons (.same rfl) (.cons (.same rfl) (.cons (.same rfl) .nil)))) (.cons (.c (.same rfl)) .nil)) rfl rfl trivial) ⟨rfl, rfl, rfl, trivial⟩ trivial rfl rfl ?_
    refine AOR.pure (LT.assign (v := (.s (.c (iC r2)))) rfl) ⟨rfl, trivial⟩ trivial rfl rfl ?_
    refine AOR.nil ?_
    refine AWR.seq ?_
    refine AWR.seq ?_
    refine AWR.ent (Ent.of (σ' := [(1, (.s (.c (.pv (.xs false (aLoad.map encInt)))))), (2, (.s (.c (.pl 21 0)))), (5, (.s (.c (iC r2))))]) (m' := [(21, (.row 53 [[(iC aF.Graph.Points), (.pv (.xs false (aF.Graph.Bars.map encTBar))), (.pv (.xs false (aF.Places.map encTPlace)))]]))]) ⟨rfl, rfl, rfl, trivial⟩ ⟨rfl, trivial⟩) ?_
    refine AWR.region ?_
    refine AOR.pure (LT.move (v := (.s (.c (iC r2)))) rfl) ⟨rfl, trivial⟩ trivial rfl rfl ?_
    refine AOR.pure (LT.lss rfl) ⟨rfl, ⟨rfl, rfl⟩, trivial⟩ trivial rfl rfl ?_
    refine AOR.nil ?_
    refine AWR.cond rfl (fun hc3 => ?_) (fun hc3 => ?_)
    · refine AWR.seq ?_
      refine AWR.region ?_
      refine AOR.pure (LT.assign (v := (.s (.c (bC true)))) rfl) ⟨⟨rfl, rfl⟩, trivial⟩ trivial rfl rfl ?_
      refine AOR.nil ?_
      refine AWR.ret (FPost.mk (.inr rfl) ⟨rfl, trivial⟩ trivial rfl ⟨PermP.sc, trivial⟩ trivial)
    · refine AWR.skip ?_
      refine AWR.seq ?_
      refine AWR.region ?_
      refine AOR.pure (LT.bloadN (out := [(iC aF.Graph.Points), (.pv (.xs false (aF.Graph.Bars.map encTBar))), (.pv (.xs false (aF.Places.map encTPlace)))]) rfl ag53 (infS inf53) sz53 (by exact rfl) (by exact rfl)) ⟨rfl, trivial⟩ ⟨rfl, trivial⟩ rfl rfl ?_
      refine AOR.bind fun r4 hr4 => ?_
      refine AOR.step (@LT.callF Try.prog _ _ 44 _ _ [(.agg [(iC aF.Graph.Points), (.pv (.xs false (aF.Graph.Bars.map encTBar))), (.pv (.xs false (aF.Places.map encTPlace)))])] _ _ [] _ _ _ _ ((show Fw.Fn Try.prog 44 [(.agg [(iC aF.Graph.Points), (.pv (.xs false (aF.Graph.Bars.map encTBar))), (.pv (.xs false (aF.Places.map encTPlace)))])] [] (.s (.agg [(iC r4.Graph.Points), (.loc 24 0 r4.Graph.Bars.length), (.loc 25 0 r4.Places.length)])) [(24, (.prow 79 (r4.Graph.Bars.map encTBar))), (25, (.prow 95 (r4.Places.map encTPlace)))] [] [24, 25] from Fw.Fn.ren [(0, 24), (1, 25)] (w_laws_toFramework aF r4 hr4) rfl)) rfl cb44 (.cons (.agg (.cons (.same rfl) (.cons (.same rfl) (.cons (.same rfl) .nil)))) .nil) rfl rfl trivial) ⟨rfl, rfl, trivial⟩ trivial rfl rfl ?_
      refine AOR.pure (LT.move (v := (.s (.c (.pv (.xs false (aLoad.map encInt)))))) rfl) ⟨rfl, trivial⟩ trivial rfl rfl ?_
      refine AOR.bind fun r5 hr5 => ?_
      refine AOR.step (@LT.callF Try.prog _ _ 39 _ _ [(.c (.pv (.xs false (aLoad.map encInt))))] _ _ [] _ _ _ _ ((show Fw.Fn Try.prog 39 [(.c (.pv (.xs false (aLoad.map encInt))))] [] (.s (.c (.loc 27 0 r5.length))) [(27, (.prow 3 (r5.map encInt)))] [] [27] from Fw.Fn.ren [(0, 27)] (w_laws_toIntS aLoad r5 hr5) rfl)) rfl cb39 (.cons (.c (.same rfl)) .nil) rfl rfl trivial) ⟨rfl, rfl, trivial⟩ trivial rfl rfl ?_
      refine AOR.bind fun r6 hr6 => ?_
      refine AOR.step (@LT.callF Try.prog _ _ 24 _ _ [(.agg [(iC r4.Graph.Points), (.loc 24 0 r4.Graph.Bars.length), (.loc 25 0 r4.Places.length)]), (.c (.loc 27 0 r5.length))] _ _ [(24, (.prow 79 (r4.Graph.Bars.map encTBar))), (25, (.prow 95 (r4.Places.map encTPlace))), (27, (.prow 3 (r5.map encInt)))] _ _ _ _ ((show Fw.Fn Try.prog 24 [(.agg [(iC r4.Graph.Points), (.pv (.xs false (r4.Graph.Bars.map encTBar))), (.pv (.xs false (r4.Places.map encTPlace)))]), (.c (.pv (.xs false (r5.map encInt))))] [] (.tup [(.c (.loc 29 0 r6.1.length)), (.c (iC r6.2.1)), (.c (bC r6.2.2))]) [(29, (.prow 3 (r6.1.map encInt)))] [] [29] from Fw.Fn.ren [(0, 29)] (w_spec_BearingForces r4 r5 r6 hr6) rfl)) rfl cb24 (.cons (.agg (.cons (.same rfl) (.cons (.tloc rfl rfl) (.cons (.tloc rfl rfl) .nil)))) (.cons (.c (.tloc rfl rfl)) .nil)) rfl rfl trivial) ⟨rfl, rfl, rfl, trivial⟩ ⟨rfl, rfl, rfl, trivial⟩ rfl rfl ?_
      refine AOR.pure (LT.move (v := (.tup [(.c (.loc 29 0 r6.1.length)), (.c (iC r6.2.1)), (.c (bC r6.2.2))])) rfl) ⟨rfl, trivial⟩ trivial rfl rfl ?_
      refine AOR.pure (LT.extract (v := (.c (.loc 29 0 r6.1.length))) rfl (by exact rfl)) ⟨rfl, trivial⟩ trivial rfl rfl ?_
      refine AOR.pure (LT.extract (v := (.c (iC r6.2.1))) rfl (by exact rfl)) ⟨rfl, trivial⟩ trivial rfl rfl ?_
      refine AOR.pure (LT.extract (v := (.c (bC r6.2.2))) rfl (by exact rfl)) ⟨rfl, trivial⟩ trivial rfl rfl ?_
      refine AOR.pure (LT.assign (v := (.s (.c (.loc 29 0 r6.1.length)))) rfl) ⟨rfl, trivial⟩ trivial rfl rfl ?_
      refine AOR.pure (LT.assign (v := (.s (.c (iC r6.2.1)))) rfl) ⟨rfl, trivial⟩ trivial rfl rfl ?_
      refine AOR.pure (LT.assign (v := (.s (.c (bC r6.2.2)))) rfl) ⟨rfl, trivial⟩ trivial rfl rfl ?_
      refine AOR.nil ?_
      refine AWR.seq ?_
      refine AWR.ent (Ent.of (σ' := [(1, (.s (.c (.pv (.xs false (aLoad.map encInt)))))), (2, (.s (.c (.pl 21 0)))), (6, (.s (.c (.loc 29 0 r6.1.length)))), (7, (.s (.c (iC r6.2.1)))), (8, (.s (.c (bC r6.2.2))))]) (m' := [(21, (.row 53 [[(iC aF.Graph.Points), (.pv (.xs false (aF.Graph.Bars.map encTBar))), (.pv (.xs false (aF.Places.map encTPlace)))]])), (29, (.prow 3 (r6.1.map encInt)))]) ⟨rfl, rfl, rfl, rfl, rfl, trivial⟩ ⟨rfl, rfl, trivial⟩) ?_
      refine AWR.region ?_
      refine AOR.pure (LT.bloadN (out := [(iC aF.Graph.Points), (.pv (.xs false (aF.Graph.Bars.map encTBar))), (.pv (.xs false (aF.Places.map encTPlace)))]) rfl ag53 (infS inf53) sz53 (by exact rfl) (by exact rfl)) ⟨rfl, trivial⟩ ⟨rfl, trivial⟩ rfl rfl ?_
      refine AOR.bind fun r7 hr7 => ?_
      refine AOR.step (@LT.callF Try.prog _ _ 44 _ _ [(.agg [(iC aF.Graph.Points), (.pv (.xs false (aF.Graph.Bars.map encTBar))), (.pv (.xs false (aF.Places.map encTPlace)))])] _ _ [] _ _ _ _ ((show Fw.Fn Try.prog 44 [(.agg [(iC aF.Graph.Points), (.pv (.xs false (aF.Graph.Bars.map encTBar))), (.pv (.xs false (aF.Places.map encTPlace)))])] [] (.s (.agg [(iC r7.Graph.Points), (.loc 31 0 r7.Graph.Bars.length), (.loc 32 0 r7.Places.length)])) [(31, (.prow 79 (r7.Graph.Bars.map encTBar))), (32, (.prow 95 (r7.Places.map encTPlace)))] [] [31, 32] from Fw.Fn.ren [(0, 31), (1, 32)] (w_laws_toFramework aF r7 hr7) rfl)) rfl cb44 (.cons (.agg (.cons (.same rfl) (.cons (.same rfl) (.cons (.same rfl) .nil)))) .nil) rfl rfl trivial) ⟨rfl, rfl, trivial⟩ trivial rfl rfl ?_
      refine AOR.step (LT.alloc (n := 33) (cells := [(iC 0), (sC nilV), (sC nilV)]) rfl ti29 rfl rfl rfl) trivial trivial rfl rfl ?_
      refine AOR.step (LT.bstore (v := (.agg [(iC r7.Graph.Points), (.loc 31 0 r7.Graph.Bars.length), (.loc 32 0 r7.Places.length)])) (out := [(iC r7.Graph.Points), (.loc 31 0 r7.Graph.Bars.length), (.loc 32 0 r7.Places.length)]) rfl rfl (infS inf29) sz29 (by exact rfl) (by exact Nat.le_of_ble_eq_true rfl) (by exact rfl)) ⟨rfl, rfl, trivial⟩ ⟨rfl, trivial⟩ rfl rfl ?_
      refine AOR.nil ?_
      refine AWR.seq ?_
      refine AWR.region ?_
      refine AOR.pure (LT.move (v := (.s (.c (.pv (.xs false (aLoad.map encInt)))))) rfl) ⟨rfl, trivial⟩ trivial rfl rfl ?_
      refine AOR.bind fun r8 hr8 => ?_
      refine AOR.step (@LT.callF Try.prog _ _ 39 _ _ [(.c (.pv (.xs false (aLoad.map encInt))))] _ _ [] _ _ _ _ ((show Fw.Fn Try.prog 39 [(.c (.pv (.xs false (aLoad.map encInt))))] [] (.s (.c (.loc 35 0 r8.length))) [(35, (.prow 3 (r8.map encInt)))] [] [35] from Fw.Fn.ren [(0, 35)] (w_laws_toIntS aLoad r8 hr8) rfl)) rfl cb39 (.cons (.c (.same rfl)) .nil) rfl rfl trivial) ⟨rfl, rfl, trivial⟩ trivial rfl rfl ?_
      refine AOR.pure (LT.assign (v := (.s (.c (.loc 35 0 r8.length)))) rfl) ⟨rfl, trivial⟩ trivial rfl rfl ?_
      refine AOR.nil ?_
      refine AWR.seq ?_
      refine AWR.ent (Ent.of (σ' := [(1, (.s (.c (.pv (.xs false (aLoad.map encInt)))))), (2, (.s (.c (.pl 21 0)))), (6, (.s (.c (.loc 29 0 r6.1.length)))), (7, (.s (.c (iC r6.2.1)))), (8, (.s (.c (bC r6.2.2)))), (9, (.s (.c (.pl 33 0)))), (10, (.s (.c (.loc 35 0 r8.length))))]) (m' := [(21, (.row 53 [[(iC aF.Graph.Points), (.pv (.xs false (aF.Graph.Bars.map encTBar))), (.pv (.xs false (aF.Places.map encTPlace)))]])), (29, (.prow 3 (r6.1.map encInt))), (31, (.prow 79 (r7.Graph.Bars.map encTBar))), (32, (.prow 95 (r7.Places.map encTPlace))), (33, (.row 29 [[(iC r7.Graph.Points), (.loc 31 0 r7.Graph.Bars.length), (.loc 32 0 r7.Places.length)]])), (35, (.prow 3 (r8.map encInt)))]) ⟨rfl, rfl, rfl, rfl, rfl, rfl, rfl, trivial⟩ ⟨rfl, rfl, rfl, rfl, rfl, rfl, trivial⟩) ?_
      refine AWR.region ?_
      refine AOR.pure (LT.bloadN (out := [(iC r7.Graph.Points), (.loc 31 0 r7.Graph.Bars.length), (.loc 32 0 r7.Places.length)]) rfl ag29 (infS inf29) sz29 (by exact rfl) (by exact rfl)) ⟨rfl, trivial⟩ ⟨rfl, trivial⟩ rfl rfl ?_
      refine AOR.pure (LT.move (v := (.s (.c (.loc 35 0 r8.length)))) rfl) ⟨rfl, trivial⟩ trivial rfl rfl ?_
      refine AOR.bind fun r9 hr9 => ?_
      refine AOR.step (@LT.callF Try.prog _ _ 23 _ _ [(.agg [(iC r7.Graph.Points), (.loc 31 0 r7.Graph.Bars.length), (.loc 32 0 r7.Places.length)]), (.c (.loc 35 0 r8.length))] _ _ [(31, (.prow 79 (r7.Graph.Bars.map encTBar))), (32, (.prow 95 (r7.Places.map encTPlace))), (35, (.prow 3 (r8.map encInt)))] _ _ _ _ ((show Fw.Fn Try.prog 23 [(.agg [(iC r7.Graph.Points), (.pv (.xs false (r7.Graph.Bars.map encTBar))), (.pv (.xs false (r7.Places.map encTPlace)))]), (.c (.pv (.xs false (r8.map encInt))))] [] (.tup [(.c (.loc 37 0 r9.1.length)), (.c (iC r9.2.1)), (.c (bC r9.2.2))]) [(37, (.prow 3 (r9.1.map encInt)))] [] [37] from Fw.Fn.ren [(0, 37)] (w_impl_BearingForces r7 r8 r9 hr9) rfl)) rfl cb23 (.cons (.agg (.cons (.same rfl) (.cons (.tloc rfl rfl) (.cons (.tloc rfl rfl) .nil)))) (.cons (.c (.tloc rfl rfl)) .nil)) rfl rfl trivial) ⟨rfl, rfl, rfl, trivial⟩ ⟨rfl, rfl, rfl, trivial⟩ rfl rfl ?_
      refine AOR.pure (LT.move (v := (.tup [(.c (.loc 37 0 r9.1.length)), (.c (iC r9.2.1)), (.c (bC r9.2.2))])) rfl) ⟨rfl, trivial⟩ trivial rfl rfl ?_
      refine AOR.pure (LT.extract (v := (.c (.loc 37 0 r9.1.length))) rfl (by exact rfl)) ⟨rfl, trivial⟩ trivial rfl rfl ?_
      refine AOR.pure (LT.extract (v := (.c (iC r9.2.1))) rfl (by exact rfl)) ⟨rfl, trivial⟩ trivial rfl rfl ?_
      refine AOR.pure (LT.extract (v := (.c (bC r9.2.2))) rfl (by exact rfl)) ⟨rfl, trivial⟩ trivial rfl rfl ?_
      refine AOR.pure (LT.assign (v := (.s (.c (.loc 37 0 r9.1.length)))) rfl) ⟨rfl, trivial⟩ trivial rfl rfl ?_
      refine AOR.pure (LT.assign (v := (.s (.c (iC r9.2.1)))) rfl) ⟨rfl, trivial⟩ trivial rfl rfl ?_
      refine AOR.pure (LT.assign (v := (.s (.c (bC r9.2.2)))) rfl) ⟨rfl, trivial⟩ trivial rfl rfl ?_
      refine AOR.nil ?_
      refine AWR.seq ?_
      refine AWR.seq ?_
      refine AWR.joinK (fun j13 => ([(1, (.s (.c (.pv (.xs false (aLoad.map encInt)))))), (2, (.s (.c (.pl 21 0)))), (6, (.s (.c (.loc 29 0 r6.1.length)))), (7, (.s (.c (iC r6.2.1)))), (8, (.s (.c (bC r6.2.2)))), (9, (.s (.c (.pl 33 0)))), (10, (.s (.c (.loc 35 0 r8.length)))), (11, (.s (.c (.loc 37 0 r9.1.length)))), (12, (.s (.c (iC r9.2.1)))), (13, (.s (.c (bC r9.2.2)))), (61, (.s (.c (bC j13))))], [(21, (.row 53 [[(iC aF.Graph.Points), (.pv (.xs false (aF.Graph.Bars.map encTBar))), (.pv (.xs false (aF.Places.map encTPlace)))]])), (29, (.prow 3 (r6.1.map encInt))), (31, (.prow 79 (r7.Graph.Bars.map encTBar))), (32, (.prow 95 (r7.Places.map encTPlace))), (33, (.row 29 [[(iC r7.Graph.Points), (.loc 31 0 r7.Graph.Bars.length), (.loc 32 0 r7.Places.length)]])), (35, (.prow 3 (r8.map encInt))), (37, (.prow 3 (r9.1.map encInt)))])) ?_ (fun j13 _ => ?_)
      · refine AWR.ent (Ent.of (σ' := [(1, (.s (.c (.pv (.xs false (aLoad.map encInt)))))), (2, (.s (.c (.pl 21 0)))), (6, (.s (.c (.loc 29 0 r6.1.length)))), (7, (.s (.c (iC r6.2.1)))), (8, (.s (.c (bC r6.2.2)))), (9, (.s (.c (.pl 33 0)))), (10, (.s (.c (.loc 35 0 r8.length)))), (11, (.s (.c (.loc 37 0 r9.1.length)))), (12, (.s (.c (iC r9.2.1)))), (13, (.s (.c (bC r9.2.2))))]) (m' := [(21, (.row 53 [[(iC aF.Graph.Points), (.pv (.xs false (aF.Graph.Bars.map encTBar))), (.pv (.xs false (aF.Places.map encTPlace)))]])), (29, (.prow 3 (r6.1.map encInt))), (31, (.prow 79 (r7.Graph.Bars.map encTBar))), (32, (.prow 95 (r7.Places.map encTPlace))), (33, (.row 29 [[(iC r7.Graph.Points), (.loc 31 0 r7.Graph.Bars.length), (.loc 32 0 r7.Places.length)]])), (35, (.prow 3 (r8.map encInt))), (37, (.prow 3 (r9.1.map encInt)))]) ⟨rfl, rfl, rfl, rfl, rfl, rfl, rfl, rfl, rfl, rfl, trivial⟩ ⟨rfl, rfl, rfl, rfl, rfl, rfl, rfl, trivial⟩) ?_
        refine AWR.region ?_
        refine AOR.pure (LT.move (v := (.s (.c (.loc 37 0 r9.1.length)))) rfl) ⟨rfl, trivial⟩ trivial rfl rfl ?_
        refine AOR.pure (LT.move (v := (.s (.c (.loc 29 0 r6.1.length)))) rfl) ⟨rfl, trivial⟩ trivial rfl rfl ?_
        refine AOR.bind fun r14 hr14 => ?_
        refine AOR.pure (@LT.callF Try.prog _ _ 42 _ _ [(.c (.loc 37 0 r9.1.length)), (.c (.loc 29 0 r6.1.length))] _ _ [(37, (.prow 3 (r9.1.map encInt))), (29, (.prow 3 (r6.1.map encInt)))] _ _ _ _ (w_laws_eqIntS r9.1 r6.1 r14 hr14) rfl cb42 (.cons (.c (.tloc rfl rfl)) (.cons (.c (.tloc rfl rfl)) .nil)) rfl rfl trivial) ⟨rfl, rfl, rfl, trivial⟩ ⟨rfl, rfl, trivial⟩ rfl rfl ?_
        refine AOR.pure (LT.not rfl) ⟨rfl, trivial⟩ trivial rfl rfl ?_
        refine AOR.pure (LT.move (v := (.s (.c (bC (!r14))))) rfl) ⟨rfl, trivial⟩ trivial rfl rfl ?_
        refine AOR.split (fun hb15 => ?_) (fun hb15 => ?_)
        · refine AOR.skip ⟨_, rfl, .inl ⟨_, rfl, (by rw [hb15]; rfl)⟩⟩ rfl ?_
          refine AOR.skip ⟨_, rfl, .inl ⟨_, rfl, (by rw [hb15]; rfl)⟩⟩ rfl ?_
          refine AOR.skip ⟨_, rfl, .inl ⟨_, rfl, (by rw [hb15]; rfl)⟩⟩ rfl ?_
          refine AOR.pure (LT.pickT (v := (.s (.c (bC true)))) rfl hb15) ⟨rfl, ⟨rfl, rfl⟩, trivial⟩ trivial rfl rfl ?_
          refine AOR.pure (LT.move (v := (.s (.c (bC true)))) rfl) ⟨rfl, trivial⟩ trivial rfl rfl ?_
          refine AOR.skip ⟨_, rfl, .inl ⟨_, rfl, rfl⟩⟩ rfl ?_
          refine AOR.skip ⟨_, rfl, .inl ⟨_, rfl, rfl⟩⟩ rfl ?_
          refine AOR.skip ⟨_, rfl, .inl ⟨_, rfl, rfl⟩⟩ rfl ?_
          refine AOR.pure (LT.pickT (v := (.s (.c (bC true)))) rfl rfl) ⟨rfl, ⟨rfl, rfl⟩, trivial⟩ trivial rfl rfl ?_
          refine AOR.nil ?_
          refine AWR.nil ⟨rfl, Ent.of ⟨rfl, rfl, rfl, rfl, rfl, rfl, rfl, rfl, rfl, rfl, rfl, trivial⟩ ⟨rfl, rfl, rfl, rfl, rfl, rfl, rfl, trivial⟩⟩
        · refine AOR.pure (LT.move (v := (.s (.c (iC r9.2.1)))) rfl) ⟨rfl, trivial⟩ trivial ⟨_, rfl, .inl ⟨_, rfl, (by rw [hb15]; rfl)⟩⟩ rfl ?_
          refine AOR.pure (LT.move (v := (.s (.c (iC r6.2.1)))) rfl) ⟨rfl, trivial⟩ trivial ⟨_, rfl, .inl ⟨_, rfl, (by rw [hb15]; rfl)⟩⟩ rfl ?_
          refine AOR.pure (LT.neq rfl) ⟨rfl, rfl, trivial⟩ trivial ⟨_, rfl, .inl ⟨_, rfl, (by rw [hb15]; rfl)⟩⟩ rfl ?_
          refine AOR.pure (LT.pickF (v := (.s (.c (bC (r9.2.1 != r6.2.1))))) rfl hb15) ⟨rfl, rfl, trivial⟩ trivial rfl rfl ?_
          refine AOR.pure (LT.move (v := (.s (.c (bC (r9.2.1 != r6.2.1))))) rfl) ⟨rfl, trivial⟩ trivial rfl rfl ?_
          refine AOR.split (fun hb16 => ?_) (fun hb16 => ?_)
          · refine AOR.skip ⟨_, rfl, .inl ⟨_, rfl, (by rw [hb16]; rfl)⟩⟩ rfl ?_
            refine AOR.skip ⟨_, rfl, .inl ⟨_, rfl, (by rw [hb16]; rfl)⟩⟩ rfl ?_
            refine AOR.skip ⟨_, rfl, .inl ⟨_, rfl, (by rw [hb16]; rfl)⟩⟩ rfl ?_
            refine AOR.pure (LT.pickT (v := (.s (.c (bC true)))) rfl hb16) ⟨rfl, ⟨rfl, rfl⟩, trivial⟩ trivial rfl rfl ?_
            refine AOR.nil ?_
            refine AWR.nil ⟨rfl, Ent.of ⟨rfl, rfl, rfl, rfl, rfl, rfl, rfl, rfl, rfl, rfl, rfl, trivial⟩ ⟨rfl, rfl, rfl, rfl, rfl, rfl, rfl, trivial⟩⟩
          · refine AOR.pure (LT.move (v := (.s (.c (bC r9.2.2)))) rfl) ⟨rfl, trivial⟩ trivial ⟨_, rfl, .inl ⟨_, rfl, (by rw [hb16]; rfl)⟩⟩ rfl ?_
            refine AOR.pure (LT.move (v := (.s (.c (bC r6.2.2)))) rfl) ⟨rfl, trivial⟩ trivial ⟨_, rfl, .inl ⟨_, rfl, (by rw [hb16]; rfl)⟩⟩ rfl ?_
            refine AOR.pure (LT.neqB rfl und4) ⟨rfl, rfl, trivial⟩ trivial ⟨_, rfl, .inl ⟨_, rfl, (by rw [hb16]; rfl)⟩⟩ rfl ?_
            refine AOR.pure (LT.pickF (v := (.s (.c (bC (r9.2.2 != r6.2.2))))) rfl hb16) ⟨rfl, rfl, trivial⟩ trivial rfl rfl ?_
            refine AOR.nil ?_
            refine AWR.nil ⟨rfl, Ent.of ⟨rfl, rfl, rfl, rfl, rfl, rfl, rfl, rfl, rfl, rfl, rfl, trivial⟩ ⟨rfl, rfl, rfl, rfl, rfl, rfl, rfl, trivial⟩⟩
      · refine AWR.cond rfl (fun hc17 => ?_) (fun hc17 => ?_)
        · refine AWR.seq ?_
          refine AWR.region ?_
          refine AOR.pure (LT.assign (v := (.s (.c (bC false)))) rfl) ⟨⟨rfl, rfl⟩, trivial⟩ trivial rfl rfl ?_
          refine AOR.nil ?_
          refine AWR.ret (FPost.mk (.inr rfl) ⟨rfl, trivial⟩ trivial rfl ⟨PermP.sc, trivial⟩ trivial)
        · refine AWR.skip ?_
          refine AWR.seq ?_
          refine AWR.seq ?_
          refine AWR.draw mixed ?_
          refine AOD.pure (LT.bloadN (out := [(iC r7.Graph.Points), (.loc 31 0 r7.Graph.Bars.length), (.loc 32 0 r7.Places.length)]) rfl ag29 (infS inf29) sz29 (by exact rfl) (by exact rfl)) ⟨rfl, trivial⟩ ⟨rfl, trivial⟩ rfl rfl ?_
          refine AOD.pure (LT.bloadN (out := [(iC aF.Graph.Points), (.pv (.xs false (aF.Graph.Bars.map encTBar))), (.pv (.xs false (aF.Places.map encTPlace)))]) rfl ag53 (infS inf53) sz53 (by exact rfl) (by exact rfl)) ⟨rfl, trivial⟩ ⟨rfl, trivial⟩ rfl rfl ?_
          refine AOD.bind fun r18 hr18 => ?_
          refine AOD.step (@LT.callF Try.prog _ _ 44 _ _ [(.agg [(iC aF.Graph.Points), (.pv (.xs false (aF.Graph.Bars.map encTBar))), (.pv (.xs false (aF.Places.map encTPlace)))])] _ _ [] _ _ _ _ ((show Fw.Fn Try.prog 44 [(.agg [(iC aF.Graph.Points), (.pv (.xs false (aF.Graph.Bars.map encTBar))), (.pv (.xs false (aF.Places.map encTPlace)))])] [] (.s (.agg [(iC r18.Graph.Points), (.loc 40 0 r18.Graph.Bars.length), (.loc 41 0 r18.Places.length)])) [(40, (.prow 79 (r18.Graph.Bars.map encTBar))), (41, (.prow 95 (r18.Places.map encTPlace)))] [] [40, 41] from Fw.Fn.ren [(0, 40), (1, 41)] (w_laws_toFramework aF r18 hr18) rfl)) rfl cb44 (.cons (.agg (.cons (.same rfl) (.cons (.same rfl) (.cons (.same rfl) .nil)))) .nil) rfl rfl trivial) ⟨rfl, rfl, trivial⟩ trivial rfl rfl ?_
          refine AOD.bind fun r19 hr19 => ?_
          refine AOD.pure (@LT.callF Try.prog _ _ 45 _ _ [(.agg [(iC r7.Graph.Points), (.loc 31 0 r7.Graph.Bars.length), (.loc 32 0 r7.Places.length)]), (.agg [(iC r18.Graph.Points), (.loc 40 0 r18.Graph.Bars.length), (.loc 41 0 r18.Places.length)])] _ _ [(31, (.prow 79 (r7.Graph.Bars.map encTBar))), (32, (.prow 95 (r7.Places.map encTPlace))), (40, (.prow 79 (r18.Graph.Bars.map encTBar))), (41, (.prow 95 (r18.Places.map encTPlace)))] _ _ _ _ (w_laws_eqFramework r7 r18 r19 hr19) rfl cb45 (.cons (.agg (.cons (.same rfl) (.cons (.tloc rfl rfl) (.cons (.tloc rfl rfl) .nil)))) (.cons (.agg (.cons (.same rfl) (.cons (.tloc rfl rfl) (.cons (.tloc rfl rfl) .nil)))) .nil)) rfl rfl trivial) ⟨rfl, rfl, rfl, trivial⟩ ⟨rfl, rfl, rfl, rfl, trivial⟩ rfl rfl ?_
          refine AOD.pure (LT.not rfl) ⟨rfl, trivial⟩ trivial rfl rfl ?_
          refine AOD.nil (by kernel_rfl) ?_
          refine AWR.cond rfl (fun hc20 => ?_) (fun hc20 => ?_)
          · refine AWR.seq ?_
            refine AWR.region ?_
            refine AOR.pure (LT.assign (v := (.s (.c (bC false)))) rfl) ⟨⟨rfl, rfl⟩, trivial⟩ trivial rfl rfl ?_
            refine AOR.nil ?_
            refine AWR.ret (FPost.mk (.inr rfl) ⟨rfl, trivial⟩ trivial rfl ⟨PermP.sc, trivial⟩ trivial)
          · refine AWR.skip ?_
            refine AWR.seq ?_
            refine AWR.seq ?_
            refine AWR.region ?_
            refine AOR.pure (LT.move (v := (.s (.c (.loc 35 0 r8.length)))) rfl) ⟨rfl, trivial⟩ trivial rfl rfl ?_
            refine AOR.pure (LT.move (v := (.s (.c (.pv (.xs false (aLoad.map encInt)))))) rfl) ⟨rfl, trivial⟩ trivial rfl rfl ?_
            refine AOR.bind fun r21 hr21 => ?_
            refine AOR.step (@LT.callF Try.prog _ _ 39 _ _ [(.c (.pv (.xs false (aLoad.map encInt))))] _ _ [] _ _ _ _ ((show Fw.Fn Try.prog 39 [(.c (.pv (.xs false (aLoad.map encInt))))] [] (.s (.c (.loc 44 0 r21.length))) [(44, (.prow 3 (r21.map encInt)))] [] [44] from Fw.Fn.ren [(0, 44)] (w_laws_toIntS aLoad r21 hr21) rfl)) rfl cb39 (.cons (.c (.same rfl)) .nil) rfl rfl trivial) ⟨rfl, rfl, trivial⟩ trivial rfl rfl ?_
            refine AOR.bind fun r22 hr22 => ?_
            refine AOR.pure (@LT.callF Try.prog _ _ 42 _ _ [(.c (.loc 35 0 r8.length)), (.c (.loc 44 0 r21.length))] _ _ [(35, (.prow 3 (r8.map encInt))), (44, (.prow 3 (r21.map encInt)))] _ _ _ _ (w_laws_eqIntS r8 r21 r22 hr22) rfl cb42 (.cons (.c (.tloc rfl rfl)) (.cons (.c (.tloc rfl rfl)) .nil)) rfl rfl trivial) ⟨rfl, rfl, rfl, trivial⟩ ⟨rfl, rfl, trivial⟩ rfl rfl ?_
            refine AOR.pure (LT.not rfl) ⟨rfl, trivial⟩ trivial rfl rfl ?_
            refine AOR.nil ?_
            refine AWR.cond rfl (fun hc23 => ?_) (fun hc23 => ?_)
            · refine AWR.seq ?_
              refine AWR.ent (Ent.of (σ' := []) (m' := []) trivial trivial) ?_
              refine AWR.region ?_
              refine AOR.pure (LT.assign (v := (.s (.c (bC false)))) rfl) ⟨⟨rfl, rfl⟩, trivial⟩ trivial rfl rfl ?_
              refine AOR.nil ?_
              refine AWR.ret (FPost.mk (.inr rfl) ⟨rfl, trivial⟩ trivial rfl ⟨PermP.sc, trivial⟩ trivial)
            · refine AWR.skip ?_
              refine AWR.seq ?_
              refine AWR.ent (Ent.of (σ' := [(1, (.s (.c (.pv (.xs false (aLoad.map encInt)))))), (2, (.s (.c (.pl 21 0)))), (6, (.s (.c (.loc 29 0 r6.1.length)))), (7, (.s (.c (iC r6.2.1)))), (8, (.s (.c (bC r6.2.2)))), (9, (.s (.c (.pl 33 0)))), (10, (.s (.c (.loc 35 0 r8.length)))), (11, (.s (.c (.loc 37 0 r9.1.length)))), (12, (.s (.c (iC r9.2.1)))), (13, (.s (.c (bC r9.2.2))))]) (m' := [(21, (.row 53 [[(iC aF.Graph.Points), (.pv (.xs false (aF.Graph.Bars.map encTBar))), (.pv (.xs false (aF.Places.map encTPlace)))]])), (29, (.prow 3 (r6.1.map encInt))), (31, (.prow 79 (r7.Graph.Bars.map encTBar))), (32, (.prow 95 (r7.Places.map encTPlace))), (33, (.row 29 [[(iC r7.Graph.Points), (.loc 31 0 r7.Graph.Bars.length), (.loc 32 0 r7.Places.length)]])), (35, (.prow 3 (r8.map encInt))), (37, (.prow 3 (r9.1.map encInt)))]) ⟨rfl, rfl, rfl, rfl, rfl, rfl, rfl, rfl, rfl, rfl, trivial⟩ ⟨rfl, rfl, rfl, rfl, rfl, rfl, rfl, trivial⟩) ?_
              refine AWR.region ?_
              refine AOR.pure (LT.assign (v := (.s (.c (iC 1)))) rfl) ⟨⟨rfl, rfl⟩, trivial⟩ trivial rfl rfl ?_
              refine AOR.nil ?_
              refine AWR.seq ?_
              refine AWR.region ?_
              refine AOR.pure (LT.bloadN (out := [(iC r7.Graph.Points), (.loc 31 0 r7.Graph.Bars.length), (.loc 32 0 r7.Places.length)]) rfl ag29 (infS inf29) sz29 (by exact rfl) (by exact rfl)) ⟨rfl, trivial⟩ ⟨rfl, trivial⟩ rfl rfl ?_
              refine AOR.pure (LT.move (v := (.s (.c (iC 1)))) rfl) ⟨rfl, trivial⟩ trivial rfl rfl ?_
              refine AOR.bind fun r24 hr24 => ?_
              refine AOR.step (@LT.callF Try.prog _ _ 46 _ _ [(.agg [(iC r7.Graph.Points), (.loc 31 0 r7.Graph.Bars.length), (.loc 32 0 r7.Places.length)]), (.c (iC 1))] _ _ [] _ _ _ _ ((show Fw.Fn Try.prog 46 [(.agg [(iC r7.Graph.Points), (.loc 31 0 r7.Graph.Bars.length), (.loc 32 0 r7.Places.length)]), (.c (iC 1))] [(31, (.prow 79 (r7.Graph.Bars.map encTBar))), (32, (.prow 95 (r7.Places.map encTPlace)))] (.s (.c (iC r24.1))) [(31, (.prow 79 (r24.2.1.map encTBar))), (32, (.prow 95 (r24.2.2.map encTPlace)))] [31, 32] [] from Fw.Fn.ren [(0, 31), (1, 32)] (w_laws_markFramework r7 1 r24 hr24) rfl)) rfl cb46 (.cons (.agg (.cons (.same rfl) (.cons (.same rfl) (.cons (.same rfl) .nil)))) (.cons (.c (.same rfl)) .nil)) rfl rfl ⟨rfl, rfl, trivial⟩) ⟨rfl, rfl, rfl, trivial⟩ ⟨rfl, rfl, trivial⟩ rfl rfl ?_
              refine AOR.pure (LT.assign (v := (.s (.c (iC r24.1)))) rfl) ⟨rfl, trivial⟩ trivial rfl rfl ?_
              refine AOR.nil ?_
              refine AWR.seq ?_
              refine AWR.region ?_
              refine AOR.pure (LT.move (v := (.s (.c (.loc 35 0 r8.length)))) rfl) ⟨rfl, trivial⟩ trivial rfl rfl ?_
              refine AOR.pure (LT.move (v := (.s (.c (iC r24.1)))) rfl) ⟨rfl, trivial⟩ trivial rfl rfl ?_
              refine AOR.bind fun r25 hr25 => ?_
              refine AOR.step (@LT.callF Try.prog _ _ 47 _ _ [(.c (.loc 35 0 r8.length)), (.c (iC r24.1))] _ _ [] _ _ _ _ ((show Fw.Fn Try.prog 47 [(.c (.loc 35 0 r8.length)), (.c (iC r24.1))] [(35, (.prow 3 (r8.map encInt)))] (.s (.c (iC r25.1))) [(35, (.prow 3 (r25.2.map encInt)))] [35] [] from Fw.Fn.ren [(0, 35)] (w_laws_markIntS r8 r24.1 r25 hr25) rfl)) rfl cb47 (.cons (.c (.same rfl)) (.cons (.c (.same rfl)) .nil)) rfl rfl ⟨rfl, trivial⟩) ⟨rfl, rfl, rfl, trivial⟩ ⟨rfl, trivial⟩ rfl rfl ?_
              refine AOR.pure (LT.assign (v := (.s (.c (iC r25.1)))) rfl) ⟨rfl, trivial⟩ trivial rfl rfl ?_
              refine AOR.nil ?_
              refine AWR.seq ?_
              refine AWR.seq ?_
              refine AWR.joinK (fun j30 => ([(1, (.s (.c (.pv (.xs false (aLoad.map encInt)))))), (2, (.s (.c (.pl 21 0)))), (6, (.s (.c (.loc 29 0 r6.1.length)))), (7, (.s (.c (iC r6.2.1)))), (8, (.s (.c (bC r6.2.2)))), (11, (.s (.c (.loc 37 0 r9.1.length)))), (95, (.s (.c (bC j30))))], [(21, (.row 53 [[(iC aF.Graph.Points), (.pv (.xs false (aF.Graph.Bars.map encTBar))), (.pv (.xs false (aF.Places.map encTPlace)))]])), (29, (.prow 3 (r6.1.map encInt))), (37, (.prow 3 (r9.1.map encInt)))])) ?_ (fun j30 _ => ?_)
              · refine AWR.ent (Ent.of (σ' := [(1, (.s (.c (.pv (.xs false (aLoad.map encInt)))))), (2, (.s (.c (.pl 21 0)))), (6, (.s (.c (.loc 29 0 r6.1.length)))), (7, (.s (.c (iC r6.2.1)))), (8, (.s (.c (bC r6.2.2)))), (11, (.s (.c (.loc 37 0 r9.1.length)))), (12, (.s (.c (iC r9.2.1)))), (13, (.s (.c (bC r9.2.2)))), (14, (.s (.c (iC r25.1))))]) (m' := [(21, (.row 53 [[(iC aF.Graph.Points), (.pv (.xs false (aF.Graph.Bars.map encTBar))), (.pv (.xs false (aF.Places.map encTPlace)))]])), (29, (.prow 3 (r6.1.map encInt))), (37, (.prow 3 (r9.1.map encInt)))]) ⟨rfl, rfl, rfl, rfl, rfl, rfl, rfl, rfl, rfl, trivial⟩ ⟨rfl, rfl, rfl, trivial⟩) ?_
                refine AWR.region ?_
                refine AOR.pure (LT.move (v := (.s (.c (iC r25.1)))) rfl) ⟨rfl, trivial⟩ trivial rfl rfl ?_
                refine AOR.pure (LT.lss rfl) ⟨rfl, ⟨rfl, rfl⟩, trivial⟩ trivial rfl rfl ?_
                refine AOR.pure (LT.move (v := (.s (.c (bC (decide (r25.1 < 0)))))) rfl) ⟨rfl, trivial⟩ trivial rfl rfl ?_
                refine AOR.split (fun hb31 => ?_) (fun hb31 => ?_)
                · refine AOR.skip ⟨_, rfl, .inl ⟨_, rfl, (by rw [hb31]; rfl)⟩⟩ rfl ?_
                  refine AOR.skip ⟨_, rfl, .inl ⟨_, rfl, (by rw [hb31]; rfl)⟩⟩ rfl ?_
                  refine AOR.skip ⟨_, rfl, .inl ⟨_, rfl, (by rw [hb31]; rfl)⟩⟩ rfl ?_
                  refine AOR.skip ⟨_, rfl, .inl ⟨_, rfl, (by rw [hb31]; rfl)⟩⟩ rfl ?_
                  refine AOR.pure (LT.pickT (v := (.s (.c (bC true)))) rfl hb31) ⟨rfl, ⟨rfl, rfl⟩, trivial⟩ trivial rfl rfl ?_
                  refine AOR.pure (LT.move (v := (.s (.c (bC true)))) rfl) ⟨rfl, trivial⟩ trivial rfl rfl ?_
                  refine AOR.skip ⟨_, rfl, .inl ⟨_, rfl, rfl⟩⟩ rfl ?_
                  refine AOR.skip ⟨_, rfl, .inl ⟨_, rfl, rfl⟩⟩ rfl ?_
                  refine AOR.skip ⟨_, rfl, .inl ⟨_, rfl, rfl⟩⟩ rfl ?_
                  refine AOR.pure (LT.pickT (v := (.s (.c (bC true)))) rfl rfl) ⟨rfl, ⟨rfl, rfl⟩, trivial⟩ trivial rfl rfl ?_
                  refine AOR.pure (LT.move (v := (.s (.c (bC true)))) rfl) ⟨rfl, trivial⟩ trivial rfl rfl ?_
                  refine AOR.skip ⟨_, rfl, .inl ⟨_, rfl, rfl⟩⟩ rfl ?_
                  refine AOR.skip ⟨_, rfl, .inl ⟨_, rfl, rfl⟩⟩ rfl ?_
                  refine AOR.skip ⟨_, rfl, .inl ⟨_, rfl, rfl⟩⟩ rfl ?_
                  refine AOR.pure (LT.pickT (v := (.s (.c (bC true)))) rfl rfl) ⟨rfl, ⟨rfl, rfl⟩, trivial⟩ trivial rfl rfl ?_
                  refine AOR.nil ?_
                  refine AWR.nil ⟨rfl, Ent.of ⟨rfl, rfl, rfl, rfl, rfl, rfl, rfl, trivial⟩ ⟨rfl, rfl, rfl, trivial⟩⟩
                · refine AOR.pure (LT.move (v := (.s (.c (.loc 37 0 r9.1.length)))) rfl) ⟨rfl, trivial⟩ trivial ⟨_, rfl, .inl ⟨_, rfl, (by rw [hb31]; rfl)⟩⟩ rfl ?_
                  refine AOR.pure (LT.move (v := (.s (.c (.loc 29 0 r6.1.length)))) rfl) ⟨rfl, trivial⟩ trivial ⟨_, rfl, .inl ⟨_, rfl, (by rw [hb31]; rfl)⟩⟩ rfl ?_
                  refine AOR.bind fun r32 hr32 => ?_
                  refine AOR.pure (@LT.callF Try.prog _ _ 42 _ _ [(.c (.loc 37 0 r9.1.length)), (.c (.loc 29 0 r6.1.length))] _ _ [(37, (.prow 3 (r9.1.map encInt))), (29, (.prow 3 (r6.1.map encInt)))] _ _ _ _ (w_laws_eqIntS r9.1 r6.1 r32 hr32) rfl cb42 (.cons (.c (.tloc rfl rfl)) (.cons (.c (.tloc rfl rfl)) .nil)) rfl rfl trivial) ⟨rfl, rfl, rfl, trivial⟩ ⟨rfl, rfl, trivial⟩ ⟨_, rfl, .inl ⟨_, rfl, (by rw [hb31]; rfl)⟩⟩ rfl ?_
                  refine AOR.pure (LT.not rfl) ⟨rfl, trivial⟩ trivial ⟨_, rfl, .inl ⟨_, rfl, (by rw [hb31]; rfl)⟩⟩ rfl ?_
                  refine AOR.pure (LT.pickF (v := (.s (.c (bC (!r32))))) rfl hb31) ⟨rfl, rfl, trivial⟩ trivial rfl rfl ?_
                  refine AOR.pure (LT.move (v := (.s (.c (bC (!r32))))) rfl) ⟨rfl, trivial⟩ trivial rfl rfl ?_
                  refine AOR.split (fun hb33 => ?_) (fun hb33 => ?_)
                  · refine AOR.skip ⟨_, rfl, .inl ⟨_, rfl, (by rw [hb33]; rfl)⟩⟩ rfl ?_
                    refine AOR.skip ⟨_, rfl, .inl ⟨_, rfl, (by rw [hb33]; rfl)⟩⟩ rfl ?_
                    refine AOR.skip ⟨_, rfl, .inl ⟨_, rfl, (by rw [hb33]; rfl)⟩⟩ rfl ?_
                    refine AOR.pure (LT.pickT (v := (.s (.c (bC true)))) rfl hb33) ⟨rfl, ⟨rfl, rfl⟩, trivial⟩ trivial rfl rfl ?_
                    refine AOR.pure (LT.move (v := (.s (.c (bC true)))) rfl) ⟨rfl, trivial⟩ trivial rfl rfl ?_
                    refine AOR.skip ⟨_, rfl, .inl ⟨_, rfl, rfl⟩⟩ rfl ?_
                    refine AOR.skip ⟨_, rfl, .inl ⟨_, rfl, rfl⟩⟩ rfl ?_
                    refine AOR.skip ⟨_, rfl, .inl ⟨_, rfl, rfl⟩⟩ rfl ?_
                    refine AOR.pure (LT.pickT (v := (.s (.c (bC true)))) rfl rfl) ⟨rfl, ⟨rfl, rfl⟩, trivial⟩ trivial rfl rfl ?_
                    refine AOR.nil ?_
                    refine AWR.nil ⟨rfl, Ent.of ⟨rfl, rfl, rfl, rfl, rfl, rfl, rfl, trivial⟩ ⟨rfl, rfl, rfl, trivial⟩⟩
                  · refine AOR.pure (LT.move (v := (.s (.c (iC r9.2.1)))) rfl) ⟨rfl, trivial⟩ trivial ⟨_, rfl, .inl ⟨_, rfl, (by rw [hb33]; rfl)⟩⟩ rfl ?_
                    refine AOR.pure (LT.move (v := (.s (.c (iC r6.2.1)))) rfl) ⟨rfl, trivial⟩ trivial ⟨_, rfl, .inl ⟨_, rfl, (by rw [hb33]; rfl)⟩⟩ rfl ?_
                    refine AOR.pure (LT.neq rfl) ⟨rfl, rfl, trivial⟩ trivial ⟨_, rfl, .inl ⟨_, rfl, (by rw [hb33]; rfl)⟩⟩ rfl ?_
                    refine AOR.pure (LT.pickF (v := (.s (.c (bC (r9.2.1 != r6.2.1))))) rfl hb33) ⟨rfl, rfl, trivial⟩ trivial rfl rfl ?_
                    refine AOR.pure (LT.move (v := (.s (.c (bC (r9.2.1 != r6.2.1))))) rfl) ⟨rfl, trivial⟩ trivial rfl rfl ?_
                    refine AOR.split (fun hb34 => ?_) (fun hb34 => ?_)
                    · refine AOR.skip ⟨_, rfl, .inl ⟨_, rfl, (by rw [hb34]; rfl)⟩⟩ rfl ?_
                      refine AOR.skip ⟨_, rfl, .inl ⟨_, rfl, (by rw [hb34]; rfl)⟩⟩ rfl ?_
                      refine AOR.skip ⟨_, rfl, .inl ⟨_, rfl, (by rw [hb34]; rfl)⟩⟩ rfl ?_
                      refine AOR.pure (LT.pickT (v := (.s (.c (bC true)))) rfl hb34) ⟨rfl, ⟨rfl, rfl⟩, trivial⟩ trivial rfl rfl ?_
                      refine AOR.nil ?_
                      refine AWR.nil ⟨rfl, Ent.of ⟨rfl, rfl, rfl, rfl, rfl, rfl, rfl, trivial⟩ ⟨rfl, rfl, rfl, trivial⟩⟩
                    · refine AOR.pure (LT.move (v := (.s (.c (bC r9.2.2)))) rfl) ⟨rfl, trivial⟩ trivial ⟨_, rfl, .inl ⟨_, rfl, (by rw [hb34]; rfl)⟩⟩ rfl ?_
                      refine AOR.pure (LT.move (v := (.s (.c (bC r6.2.2)))) rfl) ⟨rfl, trivial⟩ trivial ⟨_, rfl, .inl ⟨_, rfl, (by rw [hb34]; rfl)⟩⟩ rfl ?_
                      refine AOR.pure (LT.neqB rfl und4) ⟨rfl, rfl, trivial⟩ trivial ⟨_, rfl, .inl ⟨_, rfl, (by rw [hb34]; rfl)⟩⟩ rfl ?_
                      refine AOR.pure (LT.pickF (v := (.s (.c (bC (r9.2.2 != r6.2.2))))) rfl hb34) ⟨rfl, rfl, trivial⟩ trivial rfl rfl ?_
                      refine AOR.nil ?_
                      refine AWR.nil ⟨rfl, Ent.of ⟨rfl, rfl, rfl, rfl, rfl, rfl, rfl, trivial⟩ ⟨rfl, rfl, rfl, trivial⟩⟩
              · refine AWR.cond rfl (fun hc35 => ?_) (fun hc35 => ?_)
                · refine AWR.seq ?_
                  refine AWR.region ?_
                  refine AOR.pure (LT.assign (v := (.s (.c (bC false)))) rfl) ⟨⟨rfl, rfl⟩, trivial⟩ trivial rfl rfl ?_
                  refine AOR.nil ?_
                  refine AWR.ret (FPost.mk (.inr rfl) ⟨rfl, trivial⟩ trivial rfl ⟨PermP.sc, trivial⟩ trivial)
                · refine AWR.skip ?_
                  refine AWR.seq ?_
                  refine AWR.region ?_
                  refine AOR.pure (LT.assign (v := (.s (.c (iC 1)))) rfl) ⟨⟨rfl, rfl⟩, trivial⟩ trivial rfl rfl ?_
                  refine AOR.nil ?_
                  refine AWR.seq ?_
                  refine AWR.region ?_
                  refine AOR.pure (LT.move (v := (.s (.c (.loc 37 0 r9.1.length)))) rfl) ⟨rfl, trivial⟩ trivial rfl rfl ?_
                  refine AOR.pure (LT.move (v := (.s (.c (iC 1)))) rfl) ⟨rfl, trivial⟩ trivial rfl rfl ?_
                  refine AOR.bind fun r36 hr36 => ?_
                  refine AOR.step (@LT.callF Try.prog _ _ 47 _ _ [(.c (.loc 37 0 r9.1.length)), (.c (iC 1))] _ _ [] _ _ _ _ ((show Fw.Fn Try.prog 47 [(.c (.loc 37 0 r9.1.length)), (.c (iC 1))] [(37, (.prow 3 (r9.1.map encInt)))] (.s (.c (iC r36.1))) [(37, (.prow 3 (r36.2.map encInt)))] [37] [] from Fw.Fn.ren [(0, 37)] (w_laws_markIntS r9.1 1 r36 hr36) rfl)) rfl cb47 (.cons (.c (.same rfl)) (.cons (.c (.same rfl)) .nil)) rfl rfl ⟨rfl, trivial⟩) ⟨rfl, rfl, rfl, trivial⟩ ⟨rfl, trivial⟩ rfl rfl ?_
                  refine AOR.pure (LT.assign (v := (.s (.c (iC r36.1)))) rfl) ⟨rfl, trivial⟩ trivial rfl rfl ?_
                  refine AOR.nil ?_
                  refine AWR.seq ?_
                  refine AWR.region ?_
                  refine AOR.pure (LT.assign (v := (.s (.c (iC 1)))) rfl) ⟨⟨rfl, rfl⟩, trivial⟩ trivial rfl rfl ?_
                  refine AOR.nil ?_
                  refine AWR.seq ?_
                  refine AWR.region ?_
                  refine AOR.pure (LT.move (v := (.s (.c (.loc 37 0 r9.1.length)))) rfl) ⟨rfl, trivial⟩ trivial rfl rfl ?_
                  refine AOR.pure (LT.move (v := (.s (.c (iC 1)))) rfl) ⟨rfl, trivial⟩ trivial rfl rfl ?_
                  refine AOR.bind fun u37 hu37 => ?_
                  refine AOR.bind fun r38 hr38 => ?_
                  refine AOR.pure (@LT.callF Try.prog _ _ 48 _ _ [(.c (.loc 37 0 r9.1.length)), (.c (iC 1))] _ _ [(37, (.prow 3 (r36.2.map encInt)))] _ _ _ _ (w_laws_heldIntS r36.2 1 r38 hr38) rfl cb48 (.cons (.c (.tloc (same_eq hu37) rfl)) (.cons (.c (.same rfl)) .nil)) rfl rfl trivial) ⟨rfl, rfl, rfl, trivial⟩ ⟨rfl, trivial⟩ rfl rfl ?_
                  refine AOR.pure (LT.assign (v := (.s (.c (iC r38)))) rfl) ⟨rfl, trivial⟩ trivial rfl rfl ?_
                  refine AOR.nil ?_
                  refine AWR.seq ?_
                  refine AWR.seq ?_
                  refine AWR.ent (Ent.of (σ' := [(1, (.s (.c (.pv (.xs false (aLoad.map encInt)))))), (2, (.s (.c (.pl 21 0)))), (6, (.s (.c (.loc 29 0 r6.1.length)))), (7, (.s (.c (iC r6.2.1)))), (8, (.s (.c (bC r6.2.2)))), (11, (.s (.c (.loc 37 0 r9.1.length)))), (15, (.s (.c (iC r36.1)))), (16, (.s (.c (iC r38))))]) (m' := [(21, (.row 53 [[(iC aF.Graph.Points), (.pv (.xs false (aF.Graph.Bars.map encTBar))), (.pv (.xs false (aF.Places.map encTPlace)))]])), (29, (.prow 3 (r6.1.map encInt))), (37, (.prow 3 (r36.2.map encInt)))]) ⟨rfl, rfl, rfl, rfl, rfl, rfl, rfl, rfl, trivial⟩ ⟨rfl, rfl, rfl, trivial⟩) ?_
                  refine AWR.region ?_
                  refine AOR.pure (LT.move (v := (.s (.c (iC r38)))) rfl) ⟨rfl, trivial⟩ trivial rfl rfl ?_
                  refine AOR.pure (LT.lss rfl) ⟨rfl, ⟨rfl, rfl⟩, trivial⟩ trivial rfl rfl ?_
                  refine AOR.nil ?_
                  refine AWR.cond rfl (fun hc39 => ?_) (fun hc39 => ?_)
                  · refine AWR.seq ?_
                    refine AWR.region ?_
                    refine AOR.pure (LT.assign (v := (.s (.c (bC false)))) rfl) ⟨⟨rfl, rfl⟩, trivial⟩ trivial rfl rfl ?_
                    refine AOR.nil ?_
                    refine AWR.ret (FPost.mk (.inr rfl) ⟨rfl, trivial⟩ trivial rfl ⟨PermP.sc, trivial⟩ trivial)
                  · refine AWR.skip ?_
                    refine AWR.seq ?_
                    refine AWR.seq ?_
                    refine AWR.region ?_
                    refine AOR.pure (LT.move (v := (.s (.c (iC r38)))) rfl) ⟨rfl, trivial⟩ trivial rfl rfl ?_
                    refine AOR.pure (LT.move (v := (.s (.c (iC r36.1)))) rfl) ⟨rfl, trivial⟩ trivial rfl rfl ?_
                    refine AOR.pure (LT.neq rfl) ⟨rfl, rfl, trivial⟩ trivial rfl rfl ?_
                    refine AOR.nil ?_
                    refine AWR.cond rfl (fun hc40 => ?_) (fun hc40 => ?_)
                    · refine AWR.seq ?_
                      refine AWR.region ?_
                      refine AOR.pure (LT.assign (v := (.s (.c (bC false)))) rfl) ⟨⟨rfl, rfl⟩, trivial⟩ trivial rfl rfl ?_
                      refine AOR.nil ?_
                      refine AWR.ret (FPost.mk (.inr rfl) ⟨rfl, trivial⟩ trivial rfl ⟨PermP.sc, trivial⟩ trivial)
                    · refine AWR.skip ?_
                      refine AWR.seq ?_
                      refine AWR.region ?_
                      refine AOR.pure (LT.bloadN (out := [(iC aF.Graph.Points), (.pv (.xs false (aF.Graph.Bars.map encTBar))), (.pv (.xs false (aF.Places.map encTPlace)))]) rfl ag53 (infS inf53) sz53 (by exact rfl) (by exact rfl)) ⟨rfl, trivial⟩ ⟨rfl, trivial⟩ rfl rfl ?_
                      refine AOR.bind fun r41 hr41 => ?_
                      refine AOR.step (@LT.callF Try.prog _ _ 44 _ _ [(.agg [(iC aF.Graph.Points), (.pv (.xs false (aF.Graph.Bars.map encTBar))), (.pv (.xs false (aF.Places.map encTPlace)))])] _ _ [] _ _ _ _ ((show Fw.Fn Try.prog 44 [(.agg [(iC aF.Graph.Points), (.pv (.xs false (aF.Graph.Bars.map encTBar))), (.pv (.xs false (aF.Places.map encTPlace)))])] [] (.s (.agg [(iC r41.Graph.Points), (.loc 52 0 r41.Graph.Bars.length), (.loc 53 0 r41.Places.length)])) [(52, (.prow 79 (r41.Graph.Bars.map encTBar))), (53, (.prow 95 (r41.Places.map encTPlace)))] [] [52, 53] from Fw.Fn.ren [(0, 52), (1, 53)] (w_laws_toFramework aF r41 hr41) rfl)) rfl cb44 (.cons (.agg (.cons (.same rfl) (.cons (.same rfl) (.cons (.same rfl) .nil)))) .nil) rfl rfl trivial) ⟨rfl, rfl, trivial⟩ trivial rfl rfl ?_
                      refine AOR.pure (LT.move (v := (.s (.c (.pv (.xs false (aLoad.map encInt)))))) rfl) ⟨rfl, trivial⟩ trivial rfl rfl ?_
                      refine AOR.bind fun r42 hr42 => ?_
                      refine AOR.step (@LT.callF Try.prog _ _ 39 _ _ [(.c (.pv (.xs false (aLoad.map encInt))))] _ _ [] _ _ _ _ ((show Fw.Fn Try.prog 39 [(.c (.pv (.xs false (aLoad.map encInt))))] [] (.s (.c (.loc 55 0 r42.length))) [(55, (.prow 3 (r42.map encInt)))] [] [55] from Fw.Fn.ren [(0, 55)] (w_laws_toIntS aLoad r42 hr42) rfl)) rfl cb39 (.cons (.c (.same rfl)) .nil) rfl rfl trivial) ⟨rfl, rfl, trivial⟩ trivial rfl rfl ?_
                      refine AOR.bind fun r43 hr43 => ?_
                      refine AOR.step (@LT.callF Try.prog _ _ 23 _ _ [(.agg [(iC r41.Graph.Points), (.loc 52 0 r41.Graph.Bars.length), (.loc 53 0 r41.Places.length)]), (.c (.loc 55 0 r42.length))] _ _ [(52, (.prow 79 (r41.Graph.Bars.map encTBar))), (53, (.prow 95 (r41.Places.map encTPlace))), (55, (.prow 3 (r42.map encInt)))] _ _ _ _ ((show Fw.Fn Try.prog 23 [(.agg [(iC r41.Graph.Points), (.pv (.xs false (r41.Graph.Bars.map encTBar))), (.pv (.xs false (r41.Places.map encTPlace)))]), (.c (.pv (.xs false (r42.map encInt))))] [] (.tup [(.c (.loc 57 0 r43.1.length)), (.c (iC r43.2.1)), (.c (bC r43.2.2))]) [(57, (.prow 3 (r43.1.map encInt)))] [] [57] from Fw.Fn.ren [(0, 57)] (w_impl_BearingForces r41 r42 r43 hr43) rfl)) rfl cb23 (.cons (.agg (.cons (.same rfl) (.cons (.tloc rfl rfl) (.cons (.tloc rfl rfl) .nil)))) (.cons (.c (.tloc rfl rfl)) .nil)) rfl rfl trivial) ⟨rfl, rfl, rfl, trivial⟩ ⟨rfl, rfl, rfl, trivial⟩ rfl rfl ?_
                      refine AOR.pure (LT.move (v := (.tup [(.c (.loc 57 0 r43.1.length)), (.c (iC r43.2.1)), (.c (bC r43.2.2))])) rfl) ⟨rfl, trivial⟩ trivial rfl rfl ?_
                      refine AOR.pure (LT.extract (v := (.c (.loc 57 0 r43.1.length))) rfl (by exact rfl)) ⟨rfl, trivial⟩ trivial rfl rfl ?_
                      refine AOR.pure (LT.extract (v := (.c (iC r43.2.1))) rfl (by exact rfl)) ⟨rfl, trivial⟩ trivial rfl rfl ?_
                      refine AOR.pure (LT.extract (v := (.c (bC r43.2.2))) rfl (by exact rfl)) ⟨rfl, trivial⟩ trivial rfl rfl ?_
                      refine AOR.pure (LT.assign (v := (.s (.c (.loc 57 0 r43.1.length)))) rfl) ⟨rfl, trivial⟩ trivial rfl rfl ?_
                      refine AOR.pure (LT.assign (v := (.s (.c (iC r43.2.1)))) rfl) ⟨rfl, trivial⟩ trivial rfl rfl ?_
                      refine AOR.pure (LT.assign (v := (.s (.c (bC r43.2.2)))) rfl) ⟨rfl, trivial⟩ trivial rfl rfl ?_
                      refine AOR.nil ?_
                      refine AWR.seq ?_
                      refine AWR.seq ?_
                      refine AWR.joinK (fun j47 => ([(11, (.s (.c (.loc 37 0 r36.2.length)))), (15, (.s (.c (iC r36.1)))), (129, (.s (.c (bC j47))))], [(37, (.prow 3 (r36.2.map encInt)))])) ?_ (fun j47 _ => ?_)
                      · refine AWR.ent (Ent.of (σ' := [(6, (.s (.c (.loc 29 0 r6.1.length)))), (7, (.s (.c (iC r6.2.1)))), (8, (.s (.c (bC r6.2.2)))), (11, (.s (.c (.loc 37 0 r9.1.length)))), (15, (.s (.c (iC r36.1)))), (17, (.s (.c (.loc 57 0 r43.1.length)))), (18, (.s (.c (iC r43.2.1)))), (19, (.s (.c (bC r43.2.2))))]) (m' := [(29, (.prow 3 (r6.1.map encInt))), (37, (.prow 3 (r36.2.map encInt))), (57, (.prow 3 (r43.1.map encInt)))]) ⟨rfl, rfl, rfl, rfl, rfl, rfl, rfl, rfl, trivial⟩ ⟨rfl, rfl, rfl, trivial⟩) ?_
                        refine AWR.region ?_
                        refine AOR.pure (LT.move (v := (.s (.c (.loc 57 0 r43.1.length)))) rfl) ⟨rfl, trivial⟩ trivial rfl rfl ?_
                        refine AOR.pure (LT.move (v := (.s (.c (.loc 29 0 r6.1.length)))) rfl) ⟨rfl, trivial⟩ trivial rfl rfl ?_
                        refine AOR.bind fun r48 hr48 => ?_
                        refine AOR.pure (@LT.callF Try.prog _ _ 42 _ _ [(.c (.loc 57 0 r43.1.length)), (.c (.loc 29 0 r6.1.length))] _ _ [(57, (.prow 3 (r43.1.map encInt))), (29, (.prow 3 (r6.1.map encInt)))] _ _ _ _ (w_laws_eqIntS r43.1 r6.1 r48 hr48) rfl cb42 (.cons (.c (.tloc rfl rfl)) (.cons (.c (.tloc rfl rfl)) .nil)) rfl rfl trivial) ⟨rfl, rfl, rfl, trivial⟩ ⟨rfl, rfl, trivial⟩ rfl rfl ?_
                        refine AOR.pure (LT.not rfl) ⟨rfl, trivial⟩ trivial rfl rfl ?_
                        refine AOR.pure (LT.move (v := (.s (.c (bC (!r48))))) rfl) ⟨rfl, trivial⟩ trivial rfl rfl ?_
                        refine AOR.split (fun hb49 => ?_) (fun hb49 => ?_)
                        · refine AOR.skip ⟨_, rfl, .inl ⟨_, rfl, (by rw [hb49]; rfl)⟩⟩ rfl ?_
                          refine AOR.skip ⟨_, rfl, .inl ⟨_, rfl, (by rw [hb49]; rfl)⟩⟩ rfl ?_
                          refine AOR.skip ⟨_, rfl, .inl ⟨_, rfl, (by rw [hb49]; rfl)⟩⟩ rfl ?_
                          refine AOR.pure (LT.pickT (v := (.s (.c (bC true)))) rfl hb49) ⟨rfl, ⟨rfl, rfl⟩, trivial⟩ trivial rfl rfl ?_
                          refine AOR.pure (LT.move (v := (.s (.c (bC true)))) rfl) ⟨rfl, trivial⟩ trivial rfl rfl ?_
                          refine AOR.skip ⟨_, rfl, .inl ⟨_, rfl, rfl⟩⟩ rfl ?_
                          refine AOR.skip ⟨_, rfl, .inl ⟨_, rfl, rfl⟩⟩ rfl ?_
                          refine AOR.skip ⟨_, rfl, .inl ⟨_, rfl, rfl⟩⟩ rfl ?_
                          refine AOR.pure (LT.pickT (v := (.s (.c (bC true)))) rfl rfl) ⟨rfl, ⟨rfl, rfl⟩, trivial⟩ trivial rfl rfl ?_
                          refine AOR.nil ?_
                          refine AWR.bind fun u50 hu50 => ?_
                          refine AWR.nil ⟨rfl, Ent.of ⟨(congrArg (fun l1 => (some (AV.s (.c (.loc 37 0 l1))) : Option AV)) (same_eq hu50)), rfl, rfl, trivial⟩ ⟨rfl, trivial⟩⟩
                        · refine AOR.pure (LT.move (v := (.s (.c (iC r43.2.1)))) rfl) ⟨rfl, trivial⟩ trivial ⟨_, rfl, .inl ⟨_, rfl, (by rw [hb49]; rfl)⟩⟩ rfl ?_
                          refine AOR.pure (LT.move (v := (.s (.c (iC r6.2.1)))) rfl) ⟨rfl, trivial⟩ trivial ⟨_, rfl, .inl ⟨_, rfl, (by rw [hb49]; rfl)⟩⟩ rfl ?_
                          refine AOR.pure (LT.neq rfl) ⟨rfl, rfl, trivial⟩ trivial ⟨_, rfl, .inl ⟨_, rfl, (by rw [hb49]; rfl)⟩⟩ rfl ?_
                          refine AOR.pure (LT.pickF (v := (.s (.c (bC (r43.2.1 != r6.2.1))))) rfl hb49) ⟨rfl, rfl, trivial⟩ trivial rfl rfl ?_
                          refine AOR.pure (LT.move (v := (.s (.c (bC (r43.2.1 != r6.2.1))))) rfl) ⟨rfl, trivial⟩ trivial rfl rfl ?_
                          refine AOR.split (fun hb51 => ?_) (fun hb51 => ?_)
                          · refine AOR.skip ⟨_, rfl, .inl ⟨_, rfl, (by rw [hb51]; rfl)⟩⟩ rfl ?_
                            refine AOR.skip ⟨_, rfl, .inl ⟨_, rfl, (by rw [hb51]; rfl)⟩⟩ rfl ?_
                            refine AOR.skip ⟨_, rfl, .inl ⟨_, rfl, (by rw [hb51]; rfl)⟩⟩ rfl ?_
                            refine AOR.pure (LT.pickT (v := (.s (.c (bC true)))) rfl hb51) ⟨rfl, ⟨rfl, rfl⟩, trivial⟩ trivial rfl rfl ?_
                            refine AOR.nil ?_
                            refine AWR.bind fun u52 hu52 => ?_
                            refine AWR.nil ⟨rfl, Ent.of ⟨(congrArg (fun l1 => (some (AV.s (.c (.loc 37 0 l1))) : Option AV)) (same_eq hu52)), rfl, rfl, trivial⟩ ⟨rfl, trivial⟩⟩
                          · refine AOR.pure (LT.move (v := (.s (.c (bC r43.2.2)))) rfl) ⟨rfl, trivial⟩ trivial ⟨_, rfl, .inl ⟨_, rfl, (by rw [hb51]; rfl)⟩⟩ rfl ?_
                            refine AOR.pure (LT.move (v := (.s (.c (bC r6.2.2)))) rfl) ⟨rfl, trivial⟩ trivial ⟨_, rfl, .inl ⟨_, rfl, (by rw [hb51]; rfl)⟩⟩ rfl ?_
                            refine AOR.pure (LT.neqB rfl und4) ⟨rfl, rfl, trivial⟩ trivial ⟨_, rfl, .inl ⟨_, rfl, (by rw [hb51]; rfl)⟩⟩ rfl ?_
                            refine AOR.pure (LT.pickF (v := (.s (.c (bC (r43.2.2 != r6.2.2))))) rfl hb51) ⟨rfl, rfl, trivial⟩ trivial rfl rfl ?_
                            refine AOR.nil ?_
                            refine AWR.bind fun u53 hu53 => ?_
                            refine AWR.nil ⟨rfl, Ent.of ⟨(congrArg (fun l1 => (some (AV.s (.c (.loc 37 0 l1))) : Option AV)) (same_eq hu53)), rfl, rfl, trivial⟩ ⟨rfl, trivial⟩⟩
                      · refine AWR.cond rfl (fun hc54 => ?_) (fun hc54 => ?_)
                        · refine AWR.seq ?_
                          refine AWR.region ?_
                          refine AOR.pure (LT.assign (v := (.s (.c (bC false)))) rfl) ⟨⟨rfl, rfl⟩, trivial⟩ trivial rfl rfl ?_
                          refine AOR.nil ?_
                          refine AWR.ret (FPost.mk (.inr rfl) ⟨rfl, trivial⟩ trivial rfl ⟨PermP.sc, trivial⟩ trivial)
                        · refine AWR.skip ?_
                          refine AWR.seq ?_
                          refine AWR.region ?_
                          refine AOR.pure (LT.assign (v := (.s (.c (iC 1)))) rfl) ⟨⟨rfl, rfl⟩, trivial⟩ trivial rfl rfl ?_
                          refine AOR.nil ?_
                          refine AWR.seq ?_
                          refine AWR.region ?_
                          refine AOR.pure (LT.move (v := (.s (.c (.loc 37 0 r36.2.length)))) rfl) ⟨rfl, trivial⟩ trivial rfl rfl ?_
                          refine AOR.pure (LT.move (v := (.s (.c (iC 1)))) rfl) ⟨rfl, trivial⟩ trivial rfl rfl ?_
                          refine AOR.bind fun r55 hr55 => ?_
                          refine AOR.pure (@LT.callF Try.prog _ _ 48 _ _ [(.c (.loc 37 0 r36.2.length)), (.c (iC 1))] _ _ [(37, (.prow 3 (r36.2.map encInt)))] _ _ _ _ (w_laws_heldIntS r36.2 1 r55 hr55) rfl cb48 (.cons (.c (.tloc rfl rfl)) (.cons (.c (.same rfl)) .nil)) rfl rfl trivial) ⟨rfl, rfl, rfl, trivial⟩ ⟨rfl, trivial⟩ rfl rfl ?_
                          refine AOR.pure (LT.assign (v := (.s (.c (iC r55)))) rfl) ⟨rfl, trivial⟩ trivial rfl rfl ?_
                          refine AOR.nil ?_
                          refine AWR.seq ?_
                          refine AWR.seq ?_
                          refine AWR.region ?_
                          refine AOR.pure (LT.move (v := (.s (.c (iC r55)))) rfl) ⟨rfl, trivial⟩ trivial rfl rfl ?_
                          refine AOR.pure (LT.lss rfl) ⟨rfl, ⟨rfl, rfl⟩, trivial⟩ trivial rfl rfl ?_
                          refine AOR.nil ?_
                          refine AWR.cond rfl (fun hc56 => ?_) (fun hc56 => ?_)
                          · refine AWR.seq ?_
                            refine AWR.region ?_
                            refine AOR.pure (LT.assign (v := (.s (.c (bC false)))) rfl) ⟨⟨rfl, rfl⟩, trivial⟩ trivial rfl rfl ?_
                            refine AOR.nil ?_
                            refine AWR.ret (FPost.mk (.inr rfl) ⟨rfl, trivial⟩ trivial rfl ⟨PermP.sc, trivial⟩ trivial)
                          · refine AWR.skip ?_
                            refine AWR.seq ?_
                            refine AWR.seq ?_
                            refine AWR.region ?_
                            refine AOR.pure (LT.move (v := (.s (.c (iC r55)))) rfl) ⟨rfl, trivial⟩ trivial rfl rfl ?_
                            refine AOR.pure (LT.move (v := (.s (.c (iC r36.1)))) rfl) ⟨rfl, trivial⟩ trivial rfl rfl ?_
                            refine AOR.pure (LT.neq rfl) ⟨rfl, rfl, trivial⟩ trivial rfl rfl ?_
                            refine AOR.nil ?_
                            refine AWR.cond rfl (fun hc57 => ?_) (fun hc57 => ?_)
                            · refine AWR.seq ?_
                              refine AWR.region ?_
                              refine AOR.pure (LT.assign (v := (.s (.c (bC false)))) rfl) ⟨⟨rfl, rfl⟩, trivial⟩ trivial rfl rfl ?_
                              refine AOR.nil ?_
                              refine AWR.ret (FPost.mk (.inr rfl) ⟨rfl, trivial⟩ trivial rfl ⟨PermP.sc, trivial⟩ trivial)
                            · refine AWR.skip ?_
                              refine AWR.seq ?_
                              refine AWR.region ?_
                              refine AOR.pure (LT.assign (v := (.s (.c (bC true)))) rfl) ⟨⟨rfl, rfl⟩, trivial⟩ trivial rfl rfl ?_
                              refine AOR.nil ?_
                              refine AWR.ret (FPost.mk (.inr rfl) ⟨rfl, trivial⟩ trivial rfl ⟨PermP.sc, trivial⟩ trivial)
end Go.Proofs.Ytoeigmhhmadmbaa
end
section
set_option linter.unusedVariables false
set_option linter.unusedSimpArgs false
set_option linter.unnecessarySimpa false
namespace Go.Fw
open Go.ChangeShapes Go.WideShapes Go.ChangeAt Go.RowKit
open Go.Proofs.Ytoeigmhhmadmbaa (Rows.uptoBulk Rows.uptoBulkAll)
abbrev Bof (W : World) : Nat → Prop := fun b => b < W.heap.size
abbrev Rno : Nat → Prop := fun _ => False
abbrev gno : Nat → GS := fun _ => .dead
def Opn {α : Type} (P : Program) (t : TypeId) (s : Nat) (enc : α → List PV) (wt : α → Nat) (ok : α → Prop) : Prop :=
  ∀ (H : Type) (e : TypeId × Value → H) (W : World) (base : Nat) (spare : Nat → Bool) (held : Bool) (fuel : Nat) (cs : List Value) (x : DataW H × List MemPlace), DataW.trod e P W base spare held fuel t cs = some x →
    ∃ a : α, ok a ∧ wt a ≤ Go.Proofs.Ytoeigmhhmadmbaa.Rows.uptoBulk x.1 ∧ cs.length = s ∧ (enc a).length = s ∧ ∀ (k : Nat) p, (enc a)[k]? = some p → ∃ u, cs[k]? = some u ∧ RPV W Rno (Bof W) p u
def okI (n : Int) : Prop := -9223372036854775808 ≤ n ∧ n ≤ 9223372036854775807
def okL {α : Type} (ok : α → Prop) (xs : List α) : Prop := ∀ x ∈ xs, ok x
def wtI (_ : Int) : Nat := 1
def wtL {α : Type} (wt : α → Nat) (xs : List α) : Nat := (xs.map wt).sum + 1
section
variable {P : Program}
theorem one1 {p q : PV} {cs : List Value} {v : Value} {W : World} (hcs : cs = [v]) (h : RPV W Rno (Bof W) p v) : ∀ (k : Nat) r, [p][k]? = some r → ∃ u, cs[k]? = some u ∧ RPV W Rno (Bof W) r u := fun k r hk => by
  subst hcs
  cases k with
  | zero => simp at hk; subst hk; exact ⟨v, rfl, h⟩
  | succ k => simp at hk
theorem Opn.int {t : TypeId} (ht : P.underlying t = some (.int .i64)) : Opn P t 1 (fun n : Int => [.sc (.int .i64 n)]) wtI okI := fun H e W base spare held fuel cs x h => by
  obtain ⟨n, rfl, rfl, hw⟩ := DataW.trod_int ht h
  refine ⟨n, ?_, by simp [wtI, Go.Proofs.Ytoeigmhhmadmbaa.Rows.uptoBulk], rfl, rfl, one1 (q := .sc (.int .i64 n)) rfl (.sc rfl)⟩
  simp [Lit.wf, IntKind.min, IntKind.max, IntKind.signed, IntKind.bits] at hw
  exact ⟨by omega, by omega⟩
theorem list_of {α : Type} {p : Nat → α → Prop} : ∀ n : Nat, (∀ i, i < n → ∃ a, p i a) → ∃ xs : List α, xs.length = n ∧ ∀ (i : Nat) a, xs[i]? = some a → p i a
  | 0, _ => ⟨[], rfl, fun i a h => by simp at h⟩
  | n + 1, h => by
    obtain ⟨xs, h1, h2⟩ := list_of n fun i hi => h i (by omega)
    obtain ⟨a, ha⟩ := h n (by omega)
    refine ⟨xs ++ [a], by simp [h1], fun i b hb => ?_⟩
    rw [List.getElem?_append] at hb
    split at hb
    · exact h2 i b hb
    · rename_i hn
      have hi : i - xs.length = 0 := by
        have := (List.getElem?_eq_some_iff.1 hb).1
        simp at this
        omega
      rw [hi] at hb
      simp at hb
      subst hb
      have : i = n := by omega
      subst this
      exact ha
theorem bulk_sum {α : Type} {H : Type} {wt : α → Nat} {D : Nat → DataW H} : ∀ (xs : List α) (k : Nat), (∀ (i : Nat) a, xs[i]? = some a → wt a ≤ Go.Proofs.Ytoeigmhhmadmbaa.Rows.uptoBulk (D (k + i))) →
    (xs.map wt).sum ≤ Go.Proofs.Ytoeigmhhmadmbaa.Rows.uptoBulkAll ((List.range' k xs.length).map D)
  | [], _, _ => by simp [Go.Proofs.Ytoeigmhhmadmbaa.Rows.uptoBulkAll]
  | a :: r, k, h => by
    have h0 := h 0 a rfl
    have ih := bulk_sum r (k + 1) fun i b hb => by
      have := h (i + 1) b (by simpa using hb)
      rwa [show k + 1 + i = k + (i + 1) by omega]
    rw [Nat.add_zero] at h0
    simp only [List.map_cons, List.sum_cons, List.length_cons, List.range'_succ, Go.Proofs.Ytoeigmhhmadmbaa.Rows.uptoBulkAll]
    omega
theorem cell_lt {w : World} {a : Addr} {v : Value} (h : w.cell? a = some v) : a.block < w.heap.size := by
  unfold World.cell? at h
  cases hb : w.heap[a.block]? with
  | none => rw [hb] at h; simp at h
  | some o => exact (Array.getElem?_eq_some_iff.1 hb).1
theorem Opn.slice {α : Type} {t e : TypeId} {s : Nat} {enc : α → List PV} {wt : α → Nat} {ok : α → Prop} (ht : P.underlying t = some (.slice e)) (hs : P.cellsOf e = s) (hs0 : 0 < s) (he : Opn P e s enc wt ok) :
    Opn P t 1 (fun xs : List α => [.xs false (xs.map enc)]) (wtL wt) (okL ok) := fun H en W base spare held fuel cs x h => by
  rcases Go.Deep.open_slice ht h with ⟨rfl, rfl⟩ | ⟨a, len, cap, m, n, D, Pl, rfl, hb, hl, hm, hmm, rfl, hi⟩
  · refine ⟨[], ?_, ?_, rfl, rfl, one1 (q := .xs false []) rfl .emp⟩
    · intro x hx; cases hx
    · simp [wtL, Go.Proofs.Ytoeigmhhmadmbaa.Rows.uptoBulk]
  · have hml : len ≤ m := by rw [hmm]; split <;> omega
    obtain ⟨xs, hxl, hx⟩ := list_of (p := fun i (b : α) => ok b ∧ wt b ≤ Go.Proofs.Ytoeigmhhmadmbaa.Rows.uptoBulk (D i) ∧ (enc b).length = s ∧ ∀ (k : Nat) p, (enc b)[k]? = some p → ∃ u, W.cell? (a.add (i * s + k)) = some u ∧ RPV W Rno (Bof W) p u) len (fun i hil => by
      obtain ⟨cs', hc, htr⟩ := hi i (by omega)
      obtain ⟨b, h1, h2, h3, h4, h5⟩ := he _ _ _ _ _ _ _ _ _ htr
      obtain ⟨_, hcl, hat⟩ := World.cells?_some hc
      refine ⟨b, h1, h2, h4, fun k p hk => ?_⟩
      obtain ⟨u, hu, hr⟩ := h5 k p hk
      refine ⟨u, ?_, hr⟩
      have hks : k < s := by rw [← h4]; exact (List.getElem?_eq_some_iff.1 hk).1
      have := hat k (by rw [hs]; exact hks)
      rw [add_add, hs] at this
      rw [this]
      exact hu)
    refine ⟨xs, fun b hb => ?_, ?_, rfl, rfl, one1 (q := .sc undef) rfl ?_⟩
    · obtain ⟨i, hib⟩ := List.getElem?_of_mem hb
      exact (hx i b hib).1
    · have := bulk_sum (wt := wt) (D := D) xs 0 (fun i b hb => by rw [Nat.zero_add]; exact (hx i b hb).2.1)
      simp only [wtL, Go.Proofs.Ytoeigmhhmadmbaa.Rows.uptoBulk]
      rw [hxl, ← List.range_eq_range'] at this
      omega
    · cases hxs : xs with
      | nil =>
        have : len = 0 := by rw [← hxl, hxs]; rfl
        subst this
        exact .emp
      | cons b r =>
        rw [← hxs]
        have hget : ∀ (j k : Nat) cs p, (xs.map enc)[j]? = some cs → cs[k]? = some p → ∃ u, W.cell? (a.add (j * s + k)) = some u ∧ RPV W Rno (Bof W) p u := fun j k cs p hj hk => by
          rw [List.getElem?_map] at hj
          cases hjx : xs[j]? with
          | none => rw [hjx] at hj; cases hj
          | some c =>
            rw [hjx] at hj
            injection hj with hj
            subst hj
            exact (hx j c hjx).2.2.2 k p hk
        refine .xs (s := s) (fun j k => (W.cell? (a.add (j * s + k))).getD undef) (by simp [hxl]) ?_ (by simp [hxl]; exact hl) (fun cs hcs => ?_) (fun j k cs p hj hk => ?_) (fun j k cs p hj hk => ?_)
        · have h0 := hx 0 b (by rw [hxs]; rfl)
          have hlt : 0 < (enc b).length := by rw [h0.2.2.1]; exact hs0
          obtain ⟨u, hu, _⟩ := h0.2.2.2 0 (enc b)[0] (List.getElem?_eq_getElem hlt)
          have := cell_lt hu
          rw [add_block] at this
          exact this
        · obtain ⟨c, hc, rfl⟩ := List.mem_map.1 hcs
          obtain ⟨i, hic⟩ := List.getElem?_of_mem hc
          exact (hx i c hic).2.2.1
        · obtain ⟨u, hu, _⟩ := hget j k cs p hj hk
          rw [hu]; rfl
        · obtain ⟨u, hu, hr⟩ := hget j k cs p hj hk
          rw [hu]
          exact hr
def st2 (P : Program) (t : TypeId) : Option (Nat × Nat × Nat × Nat) := match P.underlying t with
  | some (.struct fs) => match fs.toList with
    | [f0, f1] => some (f0.type, f0.offset, f1.type, f1.offset)
    | _ => none
  | _ => none
theorem Opn.struct2 {α β γ : Type} {t t1 t2 : TypeId} {s1 s2 : Nat} {enc1 : α → List PV} {enc2 : β → List PV} {enc : γ → List PV} {wt1 : α → Nat} {wt2 : β → Nat} {wt : γ → Nat} {ok1 : α → Prop} {ok2 : β → Prop} {ok : γ → Prop} (mk : α → β → γ)
    (ht : st2 P t = some (t1, 0, t2, s1)) (hc : P.cellsOf t = s1 + s2) (hc1 : P.cellsOf t1 = s1) (hc2 : P.cellsOf t2 = s2) (h1 : Opn P t1 s1 enc1 wt1 ok1) (h2 : Opn P t2 s2 enc2 wt2 ok2)
    (he : ∀ a b, enc (mk a b) = enc1 a ++ enc2 b) (hw : ∀ a b, wt (mk a b) = wt1 a + wt2 b) (ho : ∀ a b, ok1 a → ok2 b → ok (mk a b)) : Opn P t (s1 + s2) enc wt ok := fun H e W base spare held fuel cs x h => by
  unfold st2 at ht
  split at ht
  · rename_i fs hfs
    split at ht
    · rename_i f0 f1 hfl
      obtain ⟨l⟩ := fs
      simp only at hfl
      subst hfl
      simp only [Option.some.injEq, Prod.mk.injEq] at ht
      obtain ⟨rfl, ho0, rfl, ho1⟩ := ht
      obtain ⟨y0, y1, n, rfl, hl, h3, h4⟩ := Go.ChangeShapes.trod_struct2 hfs h
      rw [ho0, hc1] at h3
      rw [ho1, hc2] at h4
      obtain ⟨a, a1, a2, a3, a4, a5⟩ := h1 _ _ _ _ _ _ _ _ _ h3
      obtain ⟨b, b1, b2, b3, b4, b5⟩ := h2 _ _ _ _ _ _ _ _ _ h4
      refine ⟨mk a b, ho a b a1 b1, ?_, by rw [hl, hc], by rw [he, List.length_append, a4, b4], fun k p hk => ?_⟩
      · rw [hw]
        simp only [Go.Proofs.Ytoeigmhhmadmbaa.Rows.uptoBulk, Go.Proofs.Ytoeigmhhmadmbaa.Rows.uptoBulkAll]
        omega
      · rw [he, List.getElem?_append] at hk
        split at hk
        · rename_i hlt
          rw [a4] at hlt
          obtain ⟨u, hu, hr⟩ := a5 k p hk
          refine ⟨u, ?_, hr⟩
          rw [List.getElem?_take, if_pos hlt, List.drop_zero] at hu
          exact hu
        · rename_i hlt
          rw [a4] at hlt hk
          obtain ⟨u, hu, hr⟩ := b5 _ p hk
          refine ⟨u, ?_, hr⟩
          rw [List.getElem?_take] at hu
          split at hu
          · rw [List.getElem?_drop] at hu
            rwa [show s1 + (k - s1) = k by omega] at hu
          · cases hu
    · cases ht
  · cases ht
theorem len_wtL {α : Type} {wt : α → Nat} (h : ∀ x, 1 ≤ wt x) (xs : List α) : xs.length ≤ wtL wt xs := by
  unfold wtL
  induction xs with
  | nil => simp
  | cons x r ih =>
    have := h x
    simp only [List.map_cons, List.sum_cons, List.length_cons] at ih ⊢
    omega
theorem Opn.arg1 {α : Type} {t : TypeId} {enc : α → List PV} {wt : α → Nat} {ok : α → Prop} (h : Opn P t 1 enc wt ok) {p : α → PV} (hp : ∀ a, enc a = [p a]) {H : Type} {e : TypeId × Value → H} {W : World} {sp : Nat → Bool} {v : Value} {d : DataW H} {ps : List MemPlace}
    (hv : v.oneCell' = true) (hd : DataW.Trod e P W 0 sp true t v d ps) : ∃ a : α, ok a ∧ wt a ≤ Go.Proofs.Ytoeigmhhmadmbaa.Rows.uptoBulk d ∧ RS P W Rno (Bof W) gno (.c (.pv (p a))) v := by
  obtain ⟨fuel, hf⟩ := hd
  obtain ⟨a, h1, h2, h3, h4, h5⟩ := h _ _ _ _ _ _ _ _ _ hf
  refine ⟨a, h1, h2, ?_⟩
  have hc : v.cells = #[v] := oneCell_ne hv
  obtain ⟨u, hu, hr⟩ := h5 0 (p a) (by rw [hp]; rfl)
  rw [hc] at hu
  have : v = u := by simpa using hu
  subst this
  exact ⟨hv, hr⟩
theorem Opn.argN {α : Type} {t : TypeId} {s : Nat} {enc : α → List PV} {wt : α → Nat} {ok : α → Prop} (h : Opn P t s enc wt ok) {H : Type} {e : TypeId × Value → H} {W : World} {sp : Nat → Bool} {v : Value} {d : DataW H} {ps : List MemPlace}
    (hv : ∃ cs : Array Value, v = .agg cs) (hd : DataW.Trod e P W 0 sp true t v d ps) : ∃ a : α, ok a ∧ wt a ≤ Go.Proofs.Ytoeigmhhmadmbaa.Rows.uptoBulk d ∧ RS P W Rno (Bof W) gno (.agg ((enc a).map .pv)) v := by
  obtain ⟨cs, rfl⟩ := hv
  obtain ⟨fuel, hf⟩ := hd
  obtain ⟨a, h1, h2, h3, h4, h5⟩ := h _ _ _ _ _ _ _ _ _ hf
  refine ⟨a, h1, h2, cs.toList, by simp, by rw [List.length_map, h4]; simpa [Value.cells] using h3, fun k x hk => ?_⟩
  rw [List.getElem?_map] at hk
  cases hp : (enc a)[k]? with
  | none => rw [hp] at hk; cases hk
  | some p =>
    rw [hp] at hk
    injection hk with hk
    subst hk
    obtain ⟨u, hu, hr⟩ := h5 k p hp
    exact ⟨u, by simpa [Value.cells] using hu, hr.oneCell, hr⟩
def ArgR (P : Program) (W : World) : List SV → List Value → Prop
  | [], [] => True
  | x :: xs, v :: vs => RS P W Rno (Bof W) gno x v ∧ ArgR P W xs vs
  | _, _ => False
theorem ArgR.spec {W : World} : ∀ {xs : List SV} {vs : List Value}, ArgR P W xs vs → vs.length = xs.length ∧ ∀ (k : Nat) x, xs[k]? = some x → ∃ u, vs[k]? = some u ∧ RS P W Rno (Bof W) gno x u
  | [], [], _ => ⟨rfl, fun k x hk => by simp at hk⟩
  | [], _ :: _, h => h.elim
  | _ :: _, [], h => h.elim
  | x :: xs, v :: vs, h => by
    obtain ⟨h1, h2⟩ := ArgR.spec h.2
    refine ⟨by simp [h1], fun k y hk => ?_⟩
    cases k with
    | zero => simp at hk; subst hk; exact ⟨v, rfl, h.1⟩
    | succ k => exact h2 k y (by simpa using hk)
theorem Fn.called {f : FuncId} {xs : List SV} (hf : Fw.Fn P f xs [] (.s (.c (bC true))) [] [] []) {W : World} {args : Array Value} (ha : ArgR P W xs args.toList) : Calls P f args W fun e W' => e = .returned (.bool true) ∧ Below W.heap.size W W' := by
  obtain ⟨h1, h2⟩ := ha.spec
  have hw : WF Rno (Bof W) gno W := ⟨fun b hb => hb.elim, fun b hb => hb, fun n b hg => hg.elim, fun n m b hg => hg.elim, fun n j k b h => (by cases h)⟩
  have := hf Rno (Bof W) gno W args.toList hw h1 h2 (fun p hp => by cases hp)
  rw [show args.toList.toArray = args from by simp] at this
  refine this.mono fun e W' hp => ?_
  obtain ⟨u, R', B', g', rfl, had, _, hv, _⟩ := hp
  have hu : u = .bool true := by
    obtain ⟨_, h3⟩ := hv
    cases h3
    rfl
  subst hu
  exact ⟨rfl, had.os, had.tape, had.output, had.size, fun k hk => had.heap k hk fun n hn => by cases hn⟩
theorem trodAll_stays {H : Type} {e : TypeId × Value → H} (hl : laidOutB P = true) {W W' : World} {sp : Nat → Bool} (hb : Below W.heap.size W W') : ∀ {ts : List TypeId} {vs : List Value} {ds : List (DataW H)} {ps : List MemPlace}, (ts.all fun t => P.readableRec t && decide (t < P.types.size)) = true →
    DataW.TrodAll e P W 0 (fun _ => true) true ts vs ds ps → (∀ p ∈ ps, p.block < W.heap.size) → (∀ p ∈ ps, sp p.block = true) → DataW.TrodAll e P W' 0 sp true ts vs ds ps
  | [], [], [], _, _, h, _, _ => h
  | t :: ts, v :: vs, d :: ds, ps, hr, h, hlt, hs => by
    obtain ⟨p, q, h1, h2, rfl⟩ := h
    simp only [List.all_cons, Bool.and_eq_true, decide_eq_true_eq] at hr
    exact ⟨p, q, Go.WideElems.Trod_stays hl hr.1.1 hr.1.2 h1 (fun x hx => hb.same (hlt x (List.mem_append_left _ hx))) (fun x hx => hs x (List.mem_append_left _ hx)), trodAll_stays hl hb hr.2 h2 (fun x hx => hlt x (List.mem_append_right _ hx)) (fun x hx => hs x (List.mem_append_right _ hx)), rfl⟩
  | [], [], _ :: _, _, _, h, _, _ => h.elim
  | [], _ :: _, _, _, _, h, _, _ => h.elim
  | _ :: _, [], _, _, _, h, _, _ => h.elim
  | _ :: _, _ :: _, [], _, _, h, _, _ => h.elim
theorem post_of_fw {H : Type} {e : TypeId × Value → H} {f : Func} {s : ChangeSpec} {apart handsOn again : Bool} {fresh : Bool} {W W' : World} {args : Array Value} {ds gs : List (DataW H)} {before : List MemPlace} {tb : TypeId} (hW : DataW.Whole e P f.params.toList s.vars apart W args.toList ds gs before) (hl : laidOutB P = true)
    (hr : (f.params.toList.all fun t => P.readableRec t && decide (t < P.types.size)) = true) (hb : Below W.heap.size W W') (hv : s.vars = []) (hf : s.fn H ds = { results := [.lit (.bool true)], args := ds }) (hrt : f.resultTypes = #[tb]) (htb : P.underlying tb = some .bool) :
    s.post e P f apart fresh handsOn again W args (.bool true) W' := by
  have hlt : ∀ p ∈ before, p.block < W.heap.size := fun p hp => hW.lt p hp
  have hW0 := hW
  obtain ⟨p, q, hA, hV, hpq, hz, hn⟩ := hW
  rw [hv] at hV
  obtain ⟨rfl, rfl⟩ : gs = [] ∧ q = [] := by
    cases gs with
    | nil => exact ⟨rfl, hV⟩
    | cons _ _ => exact hV.elim
  rw [List.append_nil] at hpq
  subst hpq
  have hargs : ∀ sp : Nat → Bool, (∀ p ∈ before, sp p.block = true) → DataW.TrodAll e P W' 0 sp true f.params.toList args.toList ds before := fun sp hs => trodAll_stays hl hb hr hA hlt hs
  have hres : ∀ (b : Nat) (sp : Nat → Bool) (hd : Bool), DataW.TrodAll e P W' b sp hd f.resultTypes.toList ((Value.bool true).resultList f.resultTypes.size) [.lit (.bool true)] [] := fun b sp hd => by
    rw [hrt]
    exact ⟨[], [], shut_bool htb _, rfl, rfl⟩
  have hfd : s.fn H (ds ++ []) = { results := [.lit (.bool true)], args := ds } := by rw [List.append_nil]; exact hf
  have hold : ∀ p ∈ before, (fun b => decide (b < W.heap.size)) p.block = true := fun p hp => by simpa using hlt p hp
  have hvs : ∀ sp : Nat → Bool, DataW.TrodVars e P W' sp s.vars [] [] := fun sp => by rw [hv]; rfl
  refine ⟨ds, [], before, [], before, [], hW0, ?_, ?_, ?_, World.keptBut_mono (fun p hp => ⟨hp, ?_⟩) (hb.frame (· ∈ before)), fun _ => ?_⟩
  · rw [hfd]; exact hres _ _ _
  · rw [hfd]; exact hargs _ hold
  · rw [hfd]; exact hvs _
  · exact Or.inr (Or.inl hp)
  · refine ⟨ok_one hrt rfl (okWide_bool_mk htb _), ?_⟩
    · refine ⟨_, _, ([] ++ before) ++ [], ⟨[] ++ before, [], trodAll_append (hargs _ (fun _ _ => rfl)) (hres _ _ _), hvs _, rfl, ?_, ?_⟩, ?_⟩
      · intro b off hp
        have hin : MemPlace.cell b off ∈ before := by simpa using hp
        rw [hb.frozen (hlt _ hin)]
        exact hz b off hin
      · intro ha
        simpa using hn ha
      · intro p hp _
        simpa using hp
end
end Go.Fw
end
section
set_option linter.unusedVariables false
set_option linter.unusedSimpArgs false
set_option linter.unnecessarySimpa false
open Go Go.Fw
namespace Go.Proofs.Ytoeigmhhmadmbaa
theorem oC137 : Try.prog.cellsOf 137 = 2 := by kernel_rfl
theorem oC144 : Try.prog.cellsOf 144 = 2 := by kernel_rfl
theorem oC3 : Try.prog.cellsOf 3 = 1 := by kernel_rfl
theorem oC48 : Try.prog.cellsOf 48 = 1 := by kernel_rfl
theorem oC50 : Try.prog.cellsOf 50 = 2 := by kernel_rfl
theorem oC51 : Try.prog.cellsOf 51 = 1 := by kernel_rfl
theorem oC53 : Try.prog.cellsOf 53 = 3 := by kernel_rfl
theorem oS137 : st2 Try.prog 137 = some (3, 0, 3, 1) := by kernel_rfl
theorem oS144 : st2 Try.prog 144 = some (3, 0, 3, 1) := by kernel_rfl
theorem oS50 : st2 Try.prog 50 = some (3, 0, 48, 1) := by kernel_rfl
theorem oS53 : st2 Try.prog 53 = some (50, 0, 51, 2) := by kernel_rfl
theorem oU3 : Try.prog.underlying 3 = some (.int .i64) := by kernel_rfl
theorem oU37 : Try.prog.underlying 37 = some (.slice 3) := by kernel_rfl
theorem oU48 : Try.prog.underlying 48 = some (.slice 144) := by kernel_rfl
theorem oU51 : Try.prog.underlying 51 = some (.slice 137) := by kernel_rfl
theorem oX53 : Try.prog.underlying 53 = some (.struct (Try.prog.fieldsOf 53)) := by kernel_rfl
def e_TBar (a : TBar) : List PV := [.sc (.int .i64 a.A), .sc (.int .i64 a.B)]
def wt_TBar (a : TBar) : Nat := wtI a.A + wtI a.B
def ok_TBar (a : TBar) : Prop := okI a.A ∧ okI a.B
theorem opn_144 : Opn Try.prog 144 2 e_TBar wt_TBar ok_TBar := Opn.struct2 (enc1 := (fun n : Int => [.sc (.int .i64 n)])) (enc2 := (fun n : Int => [.sc (.int .i64 n)])) TBar.mk oS144 oC144 oC3 oC3 (Opn.int oU3) (Opn.int oU3) (fun _ _ => rfl) (fun _ _ => rfl) (fun _ _ h1 h2 => ⟨h1, h2⟩)
def e_TGraph (a : TGraph) : List PV := [.sc (.int .i64 a.Points), .xs false (a.Bars.map encTBar)]
def wt_TGraph (a : TGraph) : Nat := wtI a.Points + (wtL wt_TBar) a.Bars
def ok_TGraph (a : TGraph) : Prop := okI a.Points ∧ (okL ok_TBar) a.Bars
theorem opn_50 : Opn Try.prog 50 2 e_TGraph wt_TGraph ok_TGraph := Opn.struct2 (enc1 := (fun n : Int => [.sc (.int .i64 n)])) (enc2 := (fun xs => [.xs false (xs.map e_TBar)])) TGraph.mk oS50 oC50 oC3 oC48 (Opn.int oU3) (Opn.slice oU48 oC144 (by decide) opn_144) (fun _ _ => rfl) (fun _ _ => rfl) (fun _ _ h1 h2 => ⟨h1, h2⟩)
def e_TPlace (a : TPlace) : List PV := [.sc (.int .i64 a.X), .sc (.int .i64 a.Y)]
def wt_TPlace (a : TPlace) : Nat := wtI a.X + wtI a.Y
def ok_TPlace (a : TPlace) : Prop := okI a.X ∧ okI a.Y
theorem opn_137 : Opn Try.prog 137 2 e_TPlace wt_TPlace ok_TPlace := Opn.struct2 (enc1 := (fun n : Int => [.sc (.int .i64 n)])) (enc2 := (fun n : Int => [.sc (.int .i64 n)])) TPlace.mk oS137 oC137 oC3 oC3 (Opn.int oU3) (Opn.int oU3) (fun _ _ => rfl) (fun _ _ => rfl) (fun _ _ h1 h2 => ⟨h1, h2⟩)
def e_TFramework (a : TFramework) : List PV := [.sc (.int .i64 a.Graph.Points), .xs false (a.Graph.Bars.map encTBar), .xs false (a.Places.map encTPlace)]
def wt_TFramework (a : TFramework) : Nat := wt_TGraph a.Graph + (wtL wt_TPlace) a.Places
def ok_TFramework (a : TFramework) : Prop := ok_TGraph a.Graph ∧ (okL ok_TPlace) a.Places
theorem opn_53 : Opn Try.prog 53 3 e_TFramework wt_TFramework ok_TFramework := Opn.struct2 (enc1 := e_TGraph) (enc2 := (fun xs => [.xs false (xs.map e_TPlace)])) TFramework.mk oS53 oC53 oC50 oC51 opn_50 (Opn.slice oU51 oC137 (by decide) opn_137) (fun _ _ => rfl) (fun _ _ => rfl) (fun _ _ h1 h2 => ⟨h1, h2⟩)
def wt_TTensegrity (a : TTensegrity) : Nat := wt_TFramework a.Framework + (wtL wtI) a.Kinds
end Go.Proofs.Ytoeigmhhmadmbaa
end
