/- The code computes the models. Written by a program of mine. -/
import Derived.Test.YtiphmhofhgbhlaaGenF0
import Derived.Test.YtiphmhofhgbhlaaGenF6
import Derived.Test.YtiphmhofhgbhlaaGenF9
import Derived.Test.YtiphmhofhgbhlaaGenF11
set_option linter.unusedVariables false
set_option linter.unusedSimpArgs false
set_option linter.unnecessarySimpa false
open Go Go.Fw
namespace Go.Proofs.Ytiphmhofhgbhlaa
set_option maxRecDepth 100000 in
set_option maxHeartbeats 8000000 in
theorem w_laws_FnExactWhyNotGlobal (aG : TGraph) : ∀ t, m_laws_FnExactWhyNotGlobal aG = some t → Fw.Fn Try.prog 4 [(.agg [(iC aG.Points), (.pv (.xs false (aG.Bars.map encTBar)))])] [] (.s (.c (bC t))) [] [] [] := by
  refine Fw.Fn.of (P := Try.prog) (X := []) (pn := []) (rs := (fun (t : Bool) => [(.c (bC t))])) (dfs := (fun (t : Bool) => [])) Try.func4 rfl Try.ntmps4 (Nat.le_of_ble_eq_true rfl) rfl ?_
  intro w0 U0 R0 g0
  unfold m_laws_FnExactWhyNotGlobal
  refine AWR.seq ?_
  refine AWR.region ?_
  refine AOR.step (LT.box (n := 21) (v := (.agg [(iC aG.Points), (.pv (.xs false (aG.Bars.map encTBar)))])) rfl sz24 (by exact rfl)) ⟨rfl, trivial⟩ trivial rfl rfl ?_
  refine AOR.pure (LT.assign (v := (.s (.c (bC false)))) rfl) ⟨⟨rfl, rfl⟩, trivial⟩ trivial rfl rfl ?_
  refine AOR.nil ?_
  refine AWR.seq ?_
  refine AWR.region ?_
  refine AOR.pure (LT.assign (v := (.s (.c (iC 1048576)))) rfl) ⟨⟨rfl, rfl⟩, trivial⟩ trivial rfl rfl ?_
  refine AOR.nil ?_
  refine AWR.seq ?_
  refine AWR.region ?_
  refine AOR.pure (LT.bloadN (out := [(iC aG.Points), (.pv (.xs false (aG.Bars.map encTBar)))]) rfl ag24 (infS inf24) sz24 (by exact rfl) (by exact rfl)) ⟨rfl, trivial⟩ ⟨rfl, trivial⟩ rfl rfl ?_
  refine AOR.pure (LT.move (v := (.s (.c (iC 1048576)))) rfl) ⟨rfl, trivial⟩ trivial rfl rfl ?_
  refine AOR.bind fun r1 hr1 => ?_
  refine AOR.pure (@LT.callF Try.prog _ _ 8 _ _ [(.agg [(iC aG.Points), (.pv (.xs false (aG.Bars.map encTBar)))]), (.c (iC 1048576))] _ _ [] _ _ _ _ (w_laws_szGraph aG 1048576 r1 hr1) rfl cb8 (.cons (.agg (.cons (.same rfl) (.cons (.same rfl) .nil))) (.cons (.c (.same rfl)) .nil)) rfl rfl trivial) ⟨rfl, rfl, rfl, trivial⟩ trivial rfl rfl ?_
  refine AOR.pure (LT.assign (v := (.s (.c (iC r1)))) rfl) ⟨rfl, trivial⟩ trivial rfl rfl ?_
  refine AOR.nil ?_
  refine AWR.seq ?_
  refine AWR.seq ?_
  refine AWR.region ?_
  refine AOR.pure (LT.move (v := (.s (.c (iC r1)))) rfl) ⟨rfl, trivial⟩ trivial rfl rfl ?_
  refine AOR.pure (LT.lss rfl) ⟨rfl, ⟨rfl, rfl⟩, trivial⟩ trivial rfl rfl ?_
  refine AOR.nil ?_
  refine AWR.cond rfl (fun hc2 => ?_) (fun hc2 => ?_)
  · refine AWR.seq ?_
    refine AWR.ent (Ent.of (σ' := []) (m' := []) trivial trivial) ?_
    refine AWR.region ?_
    refine AOR.pure (LT.assign (v := (.s (.c (bC true)))) rfl) ⟨⟨rfl, rfl⟩, trivial⟩ trivial rfl rfl ?_
    refine AOR.nil ?_
    refine AWR.ret (FPost.mk (.inr rfl) ⟨rfl, trivial⟩ trivial rfl ⟨PermP.sc, trivial⟩ trivial)
  · refine AWR.skip ?_
    refine AWR.seq ?_
    refine AWR.ent (Ent.of (σ' := [(1, (.s (.c (.pl 21 0))))]) (m' := [(21, (.row 24 [[(iC aG.Points), (.pv (.xs false (aG.Bars.map encTBar)))]]))]) ⟨rfl, trivial⟩ ⟨rfl, trivial⟩) ?_
    refine AWR.region ?_
    refine AOR.pure (LT.bloadN (out := [(iC aG.Points), (.pv (.xs false (aG.Bars.map encTBar)))]) rfl ag24 (infS inf24) sz24 (by exact rfl) (by exact rfl)) ⟨rfl, trivial⟩ ⟨rfl, trivial⟩ rfl rfl ?_
    refine AOR.bind fun r3 hr3 => ?_
    refine AOR.step (@LT.callF Try.prog _ _ 10 _ _ [(.agg [(iC aG.Points), (.pv (.xs false (aG.Bars.map encTBar)))])] _ _ [] _ _ _ _ ((show Fw.Fn Try.prog 10 [(.agg [(iC aG.Points), (.pv (.xs false (aG.Bars.map encTBar)))])] [] (.s (.agg [(iC r3.Points), (.loc 24 0 r3.Bars.length)])) [(24, (.prow 60 (r3.Bars.map encTBar)))] [] [24] from Fw.Fn.ren [(0, 24)] (w_laws_toGraph aG r3 hr3) rfl)) rfl cb10 (.cons (.agg (.cons (.same rfl) (.cons (.same rfl) .nil))) .nil) rfl rfl trivial) ⟨rfl, rfl, trivial⟩ trivial rfl rfl ?_
    refine AOR.bind fun r4 hr4 => ?_
    refine AOR.pure (@LT.callF Try.prog _ _ 17 _ _ [(.agg [(iC r3.Points), (.loc 24 0 r3.Bars.length)])] _ _ [(24, (.prow 60 (r3.Bars.map encTBar)))] _ _ _ _ (w_spec_WhyNotGlobal r3 r4 hr4) rfl cb17 (.cons (.agg (.cons (.same rfl) (.cons (.tloc rfl rfl) .nil))) .nil) rfl rfl trivial) ⟨rfl, rfl, trivial⟩ ⟨rfl, trivial⟩ rfl rfl ?_
    refine AOR.pure (LT.assign (v := (.s (.c (sC (.string r4))))) rfl) ⟨rfl, trivial⟩ trivial rfl rfl ?_
    refine AOR.nil ?_
    refine AWR.seq ?_
    refine AWR.region ?_
    refine AOR.pure (LT.bloadN (out := [(iC aG.Points), (.pv (.xs false (aG.Bars.map encTBar)))]) rfl ag24 (infS inf24) sz24 (by exact rfl) (by exact rfl)) ⟨rfl, trivial⟩ ⟨rfl, trivial⟩ rfl rfl ?_
    refine AOR.bind fun r5 hr5 => ?_
    refine AOR.step (@LT.callF Try.prog _ _ 10 _ _ [(.agg [(iC aG.Points), (.pv (.xs false (aG.Bars.map encTBar)))])] _ _ [] _ _ _ _ ((show Fw.Fn Try.prog 10 [(.agg [(iC aG.Points), (.pv (.xs false (aG.Bars.map encTBar)))])] [] (.s (.agg [(iC r5.Points), (.loc 27 0 r5.Bars.length)])) [(27, (.prow 60 (r5.Bars.map encTBar)))] [] [27] from Fw.Fn.ren [(0, 27)] (w_laws_toGraph aG r5 hr5) rfl)) rfl cb10 (.cons (.agg (.cons (.same rfl) (.cons (.same rfl) .nil))) .nil) rfl rfl trivial) ⟨rfl, rfl, trivial⟩ trivial rfl rfl ?_
    refine AOR.step (LT.alloc (n := 28) (cells := [(iC 0), (sC nilV)]) rfl ti30 rfl rfl rfl) trivial trivial rfl rfl ?_
    refine AOR.step (LT.bstore (v := (.agg [(iC r5.Points), (.loc 27 0 r5.Bars.length)])) (out := [(iC r5.Points), (.loc 27 0 r5.Bars.length)]) rfl rfl (infS inf30) sz30 (by exact rfl) (by exact Nat.le_of_ble_eq_true rfl) (by exact rfl)) ⟨rfl, rfl, trivial⟩ ⟨rfl, trivial⟩ rfl rfl ?_
    refine AOR.nil ?_
    refine AWR.seq ?_
    refine AWR.ent (Ent.of (σ' := [(1, (.s (.c (.pl 21 0)))), (4, (.s (.c (sC (.string r4))))), (5, (.s (.c (.pl 28 0))))]) (m' := [(21, (.row 24 [[(iC aG.Points), (.pv (.xs false (aG.Bars.map encTBar)))]])), (27, (.prow 60 (r5.Bars.map encTBar))), (28, (.row 30 [[(iC r5.Points), (.loc 27 0 r5.Bars.length)]]))]) ⟨rfl, rfl, rfl, trivial⟩ ⟨rfl, rfl, rfl, trivial⟩) ?_
    refine AWR.region ?_
    refine AOR.pure (LT.bloadN (out := [(iC r5.Points), (.loc 27 0 r5.Bars.length)]) rfl ag30 (infS inf30) sz30 (by exact rfl) (by exact rfl)) ⟨rfl, trivial⟩ ⟨rfl, trivial⟩ rfl rfl ?_
    refine AOR.bind fun r6 hr6 => ?_
    refine AOR.pure (@LT.callF Try.prog _ _ 18 _ _ [(.agg [(iC r5.Points), (.loc 27 0 r5.Bars.length)])] _ _ [(27, (.prow 60 (r5.Bars.map encTBar)))] _ _ _ _ (w_impl_WhyNotGlobal r5 r6 hr6) rfl cb18 (.cons (.agg (.cons (.same rfl) (.cons (.tloc rfl rfl) .nil))) .nil) rfl rfl trivial) ⟨rfl, rfl, trivial⟩ ⟨rfl, trivial⟩ rfl rfl ?_
    refine AOR.pure (LT.assign (v := (.s (.c (sC (.string r6))))) rfl) ⟨rfl, trivial⟩ trivial rfl rfl ?_
    refine AOR.nil ?_
    refine AWR.seq ?_
    refine AWR.seq ?_
    refine AWR.region ?_
    refine AOR.pure (LT.move (v := (.s (.c (sC (.string r6))))) rfl) ⟨rfl, trivial⟩ trivial rfl rfl ?_
    refine AOR.pure (LT.move (v := (.s (.c (sC (.string r4))))) rfl) ⟨rfl, trivial⟩ trivial rfl rfl ?_
    refine AOR.pure (LT.neqS rfl) ⟨rfl, rfl, trivial⟩ trivial rfl rfl ?_
    refine AOR.nil ?_
    refine AWR.cond rfl (fun hc7 => ?_) (fun hc7 => ?_)
    · refine AWR.seq ?_
      refine AWR.region ?_
      refine AOR.pure (LT.assign (v := (.s (.c (bC false)))) rfl) ⟨⟨rfl, rfl⟩, trivial⟩ trivial rfl rfl ?_
      refine AOR.nil ?_
      refine AWR.ret (FPost.mk (.inr rfl) ⟨rfl, trivial⟩ trivial rfl ⟨PermP.sc, trivial⟩ trivial)
    · refine AWR.skip ?_
      refine AWR.seq ?_
      refine AWR.seq ?_
      refine AWR.draw mixed ?_
      refine AOD.pure (LT.bloadN (out := [(iC r5.Points), (.loc 27 0 r5.Bars.length)]) rfl ag30 (infS inf30) sz30 (by exact rfl) (by exact rfl)) ⟨rfl, trivial⟩ ⟨rfl, trivial⟩ rfl rfl ?_
      refine AOD.pure (LT.bloadN (out := [(iC aG.Points), (.pv (.xs false (aG.Bars.map encTBar)))]) rfl ag24 (infS inf24) sz24 (by exact rfl) (by exact rfl)) ⟨rfl, trivial⟩ ⟨rfl, trivial⟩ rfl rfl ?_
      refine AOD.bind fun r8 hr8 => ?_
      refine AOD.step (@LT.callF Try.prog _ _ 10 _ _ [(.agg [(iC aG.Points), (.pv (.xs false (aG.Bars.map encTBar)))])] _ _ [] _ _ _ _ ((show Fw.Fn Try.prog 10 [(.agg [(iC aG.Points), (.pv (.xs false (aG.Bars.map encTBar)))])] [] (.s (.agg [(iC r8.Points), (.loc 31 0 r8.Bars.length)])) [(31, (.prow 60 (r8.Bars.map encTBar)))] [] [31] from Fw.Fn.ren [(0, 31)] (w_laws_toGraph aG r8 hr8) rfl)) rfl cb10 (.cons (.agg (.cons (.same rfl) (.cons (.same rfl) .nil))) .nil) rfl rfl trivial) ⟨rfl, rfl, trivial⟩ trivial rfl rfl ?_
      refine AOD.bind fun r9 hr9 => ?_
      refine AOD.pure (@LT.callF Try.prog _ _ 13 _ _ [(.agg [(iC r5.Points), (.loc 27 0 r5.Bars.length)]), (.agg [(iC r8.Points), (.loc 31 0 r8.Bars.length)])] _ _ [(27, (.prow 60 (r5.Bars.map encTBar))), (31, (.prow 60 (r8.Bars.map encTBar)))] _ _ _ _ (w_laws_eqGraph r5 r8 r9 hr9) rfl cb13 (.cons (.agg (.cons (.same rfl) (.cons (.tloc rfl rfl) .nil))) (.cons (.agg (.cons (.same rfl) (.cons (.tloc rfl rfl) .nil))) .nil)) rfl rfl trivial) ⟨rfl, rfl, rfl, trivial⟩ ⟨rfl, rfl, trivial⟩ rfl rfl ?_
      refine AOD.pure (LT.not rfl) ⟨rfl, trivial⟩ trivial rfl rfl ?_
      refine AOD.nil (by kernel_rfl) ?_
      refine AWR.cond rfl (fun hc10 => ?_) (fun hc10 => ?_)
      · refine AWR.seq ?_
        refine AWR.ent (Ent.of (σ' := []) (m' := []) trivial trivial) ?_
        refine AWR.region ?_
        refine AOR.pure (LT.assign (v := (.s (.c (bC false)))) rfl) ⟨⟨rfl, rfl⟩, trivial⟩ trivial rfl rfl ?_
        refine AOR.nil ?_
        refine AWR.ret (FPost.mk (.inr rfl) ⟨rfl, trivial⟩ trivial rfl ⟨PermP.sc, trivial⟩ trivial)
      · refine AWR.skip ?_
        refine AWR.seq ?_
        refine AWR.ent (Ent.of (σ' := []) (m' := []) trivial trivial) ?_
        refine AWR.region ?_
        refine AOR.pure (LT.assign (v := (.s (.c (bC true)))) rfl) ⟨⟨rfl, rfl⟩, trivial⟩ trivial rfl rfl ?_
        refine AOR.nil ?_
        refine AWR.ret (FPost.mk (.inr rfl) ⟨rfl, trivial⟩ trivial rfl ⟨PermP.sc, trivial⟩ trivial)
end Go.Proofs.Ytiphmhofhgbhlaa
