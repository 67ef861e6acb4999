/- The code computes the models. Written by a program of mine. -/
import Derived.Test.YtihibpkbhjpajaaGenF3
import Derived.Test.YtihibpkbhjpajaaGenF4
import Derived.Test.YtihibpkbhjpajaaGenF27
import Derived.Test.YtihibpkbhjpajaaGenF28
set_option linter.unusedVariables false
set_option linter.unusedSimpArgs false
set_option linter.unnecessarySimpa false
open Go Go.Fw
namespace Go.Proofs.Ytihibpkbhjpajaa
set_option maxRecDepth 100000 in
set_option maxHeartbeats 8000000 in
theorem w_spec_ConnectivityOf (g : TGraph) : ∀ t, m_spec_ConnectivityOf g = some t → Fw.Fn Try.prog 61 [(.agg [(iC g.Points), (.pv (.xs false (g.Bars.map encTBar)))])] [] (.s (.c (iC t))) [] [] [] := by
  refine Fw.Fn.of (P := Try.prog) (X := []) (pn := []) (rs := (fun (t : Int) => [(.c (iC t))])) (dfs := (fun (t : Int) => [])) Try.func61 rfl Try.ntmps61 (Nat.le_of_ble_eq_true rfl) rfl ?_
  intro w0 U0 R0 g0
  unfold m_spec_ConnectivityOf
  refine AWR.seq ?_
  refine AWR.region ?_
  refine AOR.step (LT.box (n := 21) (v := (.agg [(iC g.Points), (.pv (.xs false (g.Bars.map encTBar)))])) rfl sz30 (by exact rfl)) ⟨rfl, trivial⟩ trivial rfl rfl ?_
  refine AOR.pure (LT.assign (v := (.s (.c (iC 0)))) rfl) ⟨⟨rfl, rfl⟩, trivial⟩ trivial rfl rfl ?_
  refine AOR.nil ?_
  refine AWR.seq ?_
  refine AWR.region ?_
  refine AOR.pure (LT.assign (v := (.s (.c (iC 0)))) rfl) ⟨⟨rfl, rfl⟩, trivial⟩ trivial rfl rfl ?_
  refine AOR.nil ?_
  refine AWR.seq ?_
  refine AWR.seq ?_
  refine AWR.region ?_
  refine AOR.pure (LT.assign (v := (.s (.c (iC 1)))) rfl) ⟨⟨rfl, rfl⟩, trivial⟩ trivial rfl rfl ?_
  refine AOR.nil ?_
  refine AWR.block ?_
  refine AWR.loop1 (id := 0) (m_spec_ConnectivityOf_L1 g) (fun s1 => ([(1, (.s (.c (.pl 21 0)))), (3, (.s (.c (iC s1.1)))), (4, (.s (.c (iC s1.2))))], [(21, (.row 30 [[(iC g.Points), (.pv (.xs false (g.Bars.map encTBar)))]]))])) (fun b12 => ([(3, (.s (.c (iC b12))))], [])) ?_ (Ent.of ⟨rfl, rfl, rfl, trivial⟩ ⟨rfl, trivial⟩) rfl (fun b12 _ => ?_)
  · intro s1
    unfold m_spec_ConnectivityOf_L1
    refine AWR.seq ?_
    refine AWR.seq ?_
    refine AWR.region ?_
    refine AOR.pure (LT.move (v := (.s (.c (iC s1.2)))) rfl) ⟨rfl, trivial⟩ trivial rfl rfl ?_
    refine AOR.pure (LT.leq rfl) ⟨rfl, ⟨rfl, rfl⟩, trivial⟩ trivial rfl rfl ?_
    refine AOR.nil ?_
    refine AWR.cond rfl (fun hc13 => ?_) (fun hc13 => ?_)
    · refine AWR.skip ?_
      refine AWR.seq ?_
      refine AWR.block ?_
      refine AWR.seq ?_
      refine AWR.region ?_
      refine AOR.pure (LT.bloadN (out := [(iC g.Points), (.pv (.xs false (g.Bars.map encTBar)))]) rfl ag30 (infS inf30) sz30 (by exact rfl) (by exact rfl)) ⟨rfl, trivial⟩ ⟨rfl, trivial⟩ rfl rfl ?_
      refine AOR.pure (LT.move (v := (.s (.c (iC s1.2)))) rfl) ⟨rfl, trivial⟩ trivial rfl rfl ?_
      refine AOR.bind fun r14 hr14 => ?_
      refine AOR.pure (@LT.callF Try.prog _ _ 53 _ _ [(.agg [(iC g.Points), (.pv (.xs false (g.Bars.map encTBar)))]), (.c (iC s1.2))] _ _ [] _ _ _ _ (w_spec_IsKConnected g s1.2 r14 hr14) rfl cb53 (.cons (.agg (.cons (.same rfl) (.cons (.same rfl) .nil))) (.cons (.c (.same rfl)) .nil)) rfl rfl trivial) ⟨rfl, rfl, rfl, trivial⟩ trivial rfl rfl ?_
      refine AOR.nil ?_
      refine AWR.joinK (fun j16 => ([(1, (.s (.c (.pl 21 0)))), (3, (.s (.c (iC j16)))), (4, (.s (.c (iC s1.2))))], [(21, (.row 30 [[(iC g.Points), (.pv (.xs false (g.Bars.map encTBar)))]]))])) ?_ (fun j16 _ => ?_)
      · refine AWR.cond rfl (fun hc17 => ?_) (fun hc17 => ?_)
        · refine AWR.region ?_
          refine AOR.pure (LT.move (v := (.s (.c (iC s1.2)))) rfl) ⟨rfl, trivial⟩ trivial rfl rfl ?_
          refine AOR.pure (LT.assign (v := (.s (.c (iC s1.2)))) rfl) ⟨rfl, trivial⟩ trivial rfl rfl ?_
          refine AOR.nil ?_
          refine AWR.nil ⟨rfl, Ent.of ⟨rfl, rfl, rfl, trivial⟩ ⟨rfl, trivial⟩⟩
        · refine AWR.skip ?_
          refine AWR.nil ⟨rfl, Ent.of ⟨rfl, rfl, rfl, trivial⟩ ⟨rfl, trivial⟩⟩
      · refine AWR.blk ?_
        refine AWR.region ?_
        refine AOR.pure (LT.move (v := (.s (.c (iC s1.2)))) rfl) ⟨rfl, trivial⟩ trivial rfl rfl ?_
        refine AOR.pure (LT.add rfl) ⟨rfl, ⟨rfl, rfl⟩, trivial⟩ trivial rfl rfl ?_
        refine AOR.pure (LT.assign (v := (.s (.c (iC (w64 (s1.2 + 1)))))) rfl) ⟨rfl, trivial⟩ trivial rfl rfl ?_
        refine AOR.nil ?_
        refine AWR.nil ⟨rfl, Ent.of ⟨rfl, rfl, rfl, trivial⟩ ⟨rfl, trivial⟩⟩
    · refine AWR.exit_end rfl ⟨rfl, Ent.of ⟨rfl, trivial⟩ trivial⟩
  · refine AWR.seq ?_
    refine AWR.region ?_
    refine AOR.pure (LT.move (v := (.s (.c (iC b12)))) rfl) ⟨rfl, trivial⟩ trivial rfl rfl ?_
    refine AOR.pure (LT.assign (v := (.s (.c (iC b12)))) rfl) ⟨rfl, trivial⟩ trivial rfl rfl ?_
    refine AOR.nil ?_
    refine AWR.ret (FPost.mk (.inr rfl) ⟨rfl, trivial⟩ trivial rfl ⟨PermP.sc, trivial⟩ trivial)
set_option maxRecDepth 100000 in
set_option maxHeartbeats 8000000 in
theorem w_impl_ConnectivityOf (g : TGraph) : ∀ t, m_impl_ConnectivityOf g = some t → Fw.Fn Try.prog 62 [(.agg [(iC g.Points), (.pv (.xs false (g.Bars.map encTBar)))])] [] (.s (.c (iC t))) [] [] [] := by
  refine Fw.Fn.of (P := Try.prog) (X := []) (pn := []) (rs := (fun (t : Int) => [(.c (iC t))])) (dfs := (fun (t : Int) => [])) Try.func62 rfl Try.ntmps62 (Nat.le_of_ble_eq_true rfl) rfl ?_
  intro w0 U0 R0 g0
  unfold m_impl_ConnectivityOf
  refine AWR.seq ?_
  refine AWR.region ?_
  refine AOR.step (LT.box (n := 21) (v := (.agg [(iC g.Points), (.pv (.xs false (g.Bars.map encTBar)))])) rfl sz30 (by exact rfl)) ⟨rfl, trivial⟩ trivial rfl rfl ?_
  refine AOR.pure (LT.assign (v := (.s (.c (iC 0)))) rfl) ⟨⟨rfl, rfl⟩, trivial⟩ trivial rfl rfl ?_
  refine AOR.nil ?_
  refine AWR.seq ?_
  refine AWR.seq ?_
  refine AWR.region ?_
  refine AOR.pure (LT.assign (v := (.s (.c (iC 3)))) rfl) ⟨⟨rfl, rfl⟩, trivial⟩ trivial rfl rfl ?_
  refine AOR.nil ?_
  refine AWR.block ?_
  refine AWR.loopR (id := 0) (m_impl_ConnectivityOf_L1 g) (fun s1 => ([(1, (.s (.c (.pl 21 0)))), (3, (.s (.c (iC s1))))], [(21, (.row 30 [[(iC g.Points), (.pv (.xs false (g.Bars.map encTBar)))]]))])) (fun b8 => ([], [])) (FPost Try.prog Try.f62.results.toList [] [] (fun (t : Int) => [(.c (iC t))]) (fun (t : Int) => [])) ?_ (Ent.of ⟨rfl, rfl, trivial⟩ ⟨rfl, trivial⟩) rfl (fun b8 _ => ?_) (by intro r t σ m ht hk; injection ht with ht; subst ht; exact hk)
  · intro s1
    unfold m_impl_ConnectivityOf_L1
    refine AWR.seq ?_
    refine AWR.seq ?_
    refine AWR.region ?_
    refine AOR.pure (LT.move (v := (.s (.c (iC s1)))) rfl) ⟨rfl, trivial⟩ trivial rfl rfl ?_
    refine AOR.pure (LT.gtr rfl) ⟨rfl, ⟨rfl, rfl⟩, trivial⟩ trivial rfl rfl ?_
    refine AOR.nil ?_
    refine AWR.cond rfl (fun hc9 => ?_) (fun hc9 => ?_)
    · refine AWR.skip ?_
      refine AWR.seq ?_
      refine AWR.block ?_
      refine AWR.seq ?_
      refine AWR.region ?_
      refine AOR.pure (LT.bloadN (out := [(iC g.Points), (.pv (.xs false (g.Bars.map encTBar)))]) rfl ag30 (infS inf30) sz30 (by exact rfl) (by exact rfl)) ⟨rfl, trivial⟩ ⟨rfl, trivial⟩ rfl rfl ?_
      refine AOR.pure (LT.move (v := (.s (.c (iC s1)))) rfl) ⟨rfl, trivial⟩ trivial rfl rfl ?_
      refine AOR.bind fun r10 hr10 => ?_
      refine AOR.pure (@LT.callF Try.prog _ _ 54 _ _ [(.agg [(iC g.Points), (.pv (.xs false (g.Bars.map encTBar)))]), (.c (iC s1))] _ _ [] _ _ _ _ (w_impl_IsKConnected g s1 r10 hr10) rfl cb54 (.cons (.agg (.cons (.same rfl) (.cons (.same rfl) .nil))) (.cons (.c (.same rfl)) .nil)) rfl rfl trivial) ⟨rfl, rfl, rfl, trivial⟩ trivial rfl rfl ?_
      refine AOR.nil ?_
      refine AWR.cond rfl (fun hc11 => ?_) (fun hc11 => ?_)
      · refine AWR.seq ?_
        refine AWR.region ?_
        refine AOR.pure (LT.move (v := (.s (.c (iC s1)))) rfl) ⟨rfl, trivial⟩ trivial rfl rfl ?_
        refine AOR.pure (LT.assign (v := (.s (.c (iC s1)))) rfl) ⟨rfl, trivial⟩ trivial rfl rfl ?_
        refine AOR.nil ?_
        refine AWR.ret ⟨rfl, FPost.mk (.inr rfl) ⟨rfl, trivial⟩ trivial rfl ⟨PermP.sc, trivial⟩ trivial⟩
      · refine AWR.skip ?_
        refine AWR.blk ?_
        refine AWR.region ?_
        refine AOR.pure (LT.move (v := (.s (.c (iC s1)))) rfl) ⟨rfl, trivial⟩ trivial rfl rfl ?_
        refine AOR.pure (LT.sub rfl) ⟨rfl, ⟨rfl, rfl⟩, trivial⟩ trivial rfl rfl ?_
        refine AOR.pure (LT.assign (v := (.s (.c (iC (w64 (s1 - 1)))))) rfl) ⟨rfl, trivial⟩ trivial rfl rfl ?_
        refine AOR.nil ?_
        refine AWR.nil ⟨rfl, Ent.of ⟨rfl, rfl, trivial⟩ ⟨rfl, trivial⟩⟩
    · refine AWR.exit_end rfl ⟨rfl, Ent.of trivial trivial⟩
  · refine AWR.seq ?_
    refine AWR.region ?_
    refine AOR.pure (LT.assign (v := (.s (.c (iC 0)))) rfl) ⟨⟨rfl, rfl⟩, trivial⟩ trivial rfl rfl ?_
    refine AOR.nil ?_
    refine AWR.ret (FPost.mk (.inr rfl) ⟨rfl, trivial⟩ trivial rfl ⟨PermP.sc, trivial⟩ trivial)
set_option maxRecDepth 100000 in
set_option maxHeartbeats 8000000 in
theorem w_laws_FnExactConnectivityOf (aG : TGraph) : ∀ t, m_laws_FnExactConnectivityOf aG = some t → Fw.Fn Try.prog 14 [(.agg [(iC aG.Points), (.pv (.xs false (aG.Bars.map encTBar)))])] [] (.s (.c (bC t))) [] [] [] := by
  refine Fw.Fn.of (P := Try.prog) (X := []) (pn := []) (rs := (fun (t : Bool) => [(.c (bC t))])) (dfs := (fun (t : Bool) => [])) Try.func14 rfl Try.ntmps14 (Nat.le_of_ble_eq_true rfl) rfl ?_
  intro w0 U0 R0 g0
  unfold m_laws_FnExactConnectivityOf
  refine AWR.seq ?_
  refine AWR.region ?_
  refine AOR.step (LT.box (n := 21) (v := (.agg [(iC aG.Points), (.pv (.xs false (aG.Bars.map encTBar)))])) rfl sz26 (by exact rfl)) ⟨rfl, trivial⟩ trivial rfl rfl ?_
  refine AOR.pure (LT.assign (v := (.s (.c (bC false)))) rfl) ⟨⟨rfl, rfl⟩, trivial⟩ trivial rfl rfl ?_
  refine AOR.nil ?_
  refine AWR.seq ?_
  refine AWR.region ?_
  refine AOR.pure (LT.assign (v := (.s (.c (iC 1048576)))) rfl) ⟨⟨rfl, rfl⟩, trivial⟩ trivial rfl rfl ?_
  refine AOR.nil ?_
  refine AWR.seq ?_
  refine AWR.region ?_
  refine AOR.pure (LT.bloadN (out := [(iC aG.Points), (.pv (.xs false (aG.Bars.map encTBar)))]) rfl ag26 (infS inf26) sz26 (by exact rfl) (by exact rfl)) ⟨rfl, trivial⟩ ⟨rfl, trivial⟩ rfl rfl ?_
  refine AOR.pure (LT.move (v := (.s (.c (iC 1048576)))) rfl) ⟨rfl, trivial⟩ trivial rfl rfl ?_
  refine AOR.bind fun r1 hr1 => ?_
  refine AOR.pure (@LT.callF Try.prog _ _ 17 _ _ [(.agg [(iC aG.Points), (.pv (.xs false (aG.Bars.map encTBar)))]), (.c (iC 1048576))] _ _ [] _ _ _ _ (w_laws_szGraph aG 1048576 r1 hr1) rfl cb17 (.cons (.agg (.cons (.same rfl) (.cons (.same rfl) .nil))) (.cons (.c (.same rfl)) .nil)) rfl rfl trivial) ⟨rfl, rfl, rfl, trivial⟩ trivial rfl rfl ?_
  refine AOR.pure (LT.assign (v := (.s (.c (iC r1)))) rfl) ⟨rfl, trivial⟩ trivial rfl rfl ?_
  refine AOR.nil ?_
  refine AWR.seq ?_
  refine AWR.seq ?_
  refine AWR.region ?_
  refine AOR.pure (LT.move (v := (.s (.c (iC r1)))) rfl) ⟨rfl, trivial⟩ trivial rfl rfl ?_
  refine AOR.pure (LT.lss rfl) ⟨rfl, ⟨rfl, rfl⟩, trivial⟩ trivial rfl rfl ?_
  refine AOR.nil ?_
  refine AWR.cond rfl (fun hc2 => ?_) (fun hc2 => ?_)
  · refine AWR.seq ?_
    refine AWR.ent (Ent.of (σ' := []) (m' := []) trivial trivial) ?_
    refine AWR.region ?_
    refine AOR.pure (LT.assign (v := (.s (.c (bC true)))) rfl) ⟨⟨rfl, rfl⟩, trivial⟩ trivial rfl rfl ?_
    refine AOR.nil ?_
    refine AWR.ret (FPost.mk (.inr rfl) ⟨rfl, trivial⟩ trivial rfl ⟨PermP.sc, trivial⟩ trivial)
  · refine AWR.skip ?_
    refine AWR.seq ?_
    refine AWR.ent (Ent.of (σ' := [(1, (.s (.c (.pl 21 0))))]) (m' := [(21, (.row 26 [[(iC aG.Points), (.pv (.xs false (aG.Bars.map encTBar)))]]))]) ⟨rfl, trivial⟩ ⟨rfl, trivial⟩) ?_
    refine AWR.region ?_
    refine AOR.pure (LT.bloadN (out := [(iC aG.Points), (.pv (.xs false (aG.Bars.map encTBar)))]) rfl ag26 (infS inf26) sz26 (by exact rfl) (by exact rfl)) ⟨rfl, trivial⟩ ⟨rfl, trivial⟩ rfl rfl ?_
    refine AOR.bind fun r3 hr3 => ?_
    refine AOR.step (@LT.callF Try.prog _ _ 19 _ _ [(.agg [(iC aG.Points), (.pv (.xs false (aG.Bars.map encTBar)))])] _ _ [] _ _ _ _ ((show Fw.Fn Try.prog 19 [(.agg [(iC aG.Points), (.pv (.xs false (aG.Bars.map encTBar)))])] [] (.s (.agg [(iC r3.Points), (.loc 24 0 r3.Bars.length)])) [(24, (.prow 88 (r3.Bars.map encTBar)))] [] [24] from Fw.Fn.ren [(0, 24)] (w_laws_toGraph aG r3 hr3) rfl)) rfl cb19 (.cons (.agg (.cons (.same rfl) (.cons (.same rfl) .nil))) .nil) rfl rfl trivial) ⟨rfl, rfl, trivial⟩ trivial rfl rfl ?_
    refine AOR.bind fun r4 hr4 => ?_
    refine AOR.pure (@LT.callF Try.prog _ _ 61 _ _ [(.agg [(iC r3.Points), (.loc 24 0 r3.Bars.length)])] _ _ [(24, (.prow 88 (r3.Bars.map encTBar)))] _ _ _ _ (w_spec_ConnectivityOf r3 r4 hr4) rfl cb61 (.cons (.agg (.cons (.same rfl) (.cons (.tloc rfl rfl) .nil))) .nil) rfl rfl trivial) ⟨rfl, rfl, trivial⟩ ⟨rfl, trivial⟩ rfl rfl ?_
    refine AOR.pure (LT.assign (v := (.s (.c (iC r4)))) rfl) ⟨rfl, trivial⟩ trivial rfl rfl ?_
    refine AOR.nil ?_
    refine AWR.seq ?_
    refine AWR.region ?_
    refine AOR.pure (LT.bloadN (out := [(iC aG.Points), (.pv (.xs false (aG.Bars.map encTBar)))]) rfl ag26 (infS inf26) sz26 (by exact rfl) (by exact rfl)) ⟨rfl, trivial⟩ ⟨rfl, trivial⟩ rfl rfl ?_
    refine AOR.bind fun r5 hr5 => ?_
    refine AOR.step (@LT.callF Try.prog _ _ 19 _ _ [(.agg [(iC aG.Points), (.pv (.xs false (aG.Bars.map encTBar)))])] _ _ [] _ _ _ _ ((show Fw.Fn Try.prog 19 [(.agg [(iC aG.Points), (.pv (.xs false (aG.Bars.map encTBar)))])] [] (.s (.agg [(iC r5.Points), (.loc 27 0 r5.Bars.length)])) [(27, (.prow 88 (r5.Bars.map encTBar)))] [] [27] from Fw.Fn.ren [(0, 27)] (w_laws_toGraph aG r5 hr5) rfl)) rfl cb19 (.cons (.agg (.cons (.same rfl) (.cons (.same rfl) .nil))) .nil) rfl rfl trivial) ⟨rfl, rfl, trivial⟩ trivial rfl rfl ?_
    refine AOR.step (LT.alloc (n := 28) (cells := [(iC 0), (sC nilV)]) rfl ti30 rfl rfl rfl) trivial trivial rfl rfl ?_
    refine AOR.step (LT.bstore (v := (.agg [(iC r5.Points), (.loc 27 0 r5.Bars.length)])) (out := [(iC r5.Points), (.loc 27 0 r5.Bars.length)]) rfl rfl (infS inf30) sz30 (by exact rfl) (by exact Nat.le_of_ble_eq_true rfl) (by exact rfl)) ⟨rfl, rfl, trivial⟩ ⟨rfl, trivial⟩ rfl rfl ?_
    refine AOR.nil ?_
    refine AWR.seq ?_
    refine AWR.ent (Ent.of (σ' := [(1, (.s (.c (.pl 21 0)))), (4, (.s (.c (iC r4)))), (5, (.s (.c (.pl 28 0))))]) (m' := [(21, (.row 26 [[(iC aG.Points), (.pv (.xs false (aG.Bars.map encTBar)))]])), (27, (.prow 88 (r5.Bars.map encTBar))), (28, (.row 30 [[(iC r5.Points), (.loc 27 0 r5.Bars.length)]]))]) ⟨rfl, rfl, rfl, trivial⟩ ⟨rfl, rfl, rfl, trivial⟩) ?_
    refine AWR.region ?_
    refine AOR.pure (LT.bloadN (out := [(iC r5.Points), (.loc 27 0 r5.Bars.length)]) rfl ag30 (infS inf30) sz30 (by exact rfl) (by exact rfl)) ⟨rfl, trivial⟩ ⟨rfl, trivial⟩ rfl rfl ?_
    refine AOR.bind fun r6 hr6 => ?_
    refine AOR.pure (@LT.callF Try.prog _ _ 62 _ _ [(.agg [(iC r5.Points), (.loc 27 0 r5.Bars.length)])] _ _ [(27, (.prow 88 (r5.Bars.map encTBar)))] _ _ _ _ (w_impl_ConnectivityOf r5 r6 hr6) rfl cb62 (.cons (.agg (.cons (.same rfl) (.cons (.tloc rfl rfl) .nil))) .nil) rfl rfl trivial) ⟨rfl, rfl, trivial⟩ ⟨rfl, trivial⟩ rfl rfl ?_
    refine AOR.pure (LT.assign (v := (.s (.c (iC r6)))) rfl) ⟨rfl, trivial⟩ trivial rfl rfl ?_
    refine AOR.nil ?_
    refine AWR.seq ?_
    refine AWR.seq ?_
    refine AWR.region ?_
    refine AOR.pure (LT.move (v := (.s (.c (iC r6)))) rfl) ⟨rfl, trivial⟩ trivial rfl rfl ?_
    refine AOR.pure (LT.move (v := (.s (.c (iC r4)))) rfl) ⟨rfl, trivial⟩ trivial rfl rfl ?_
    refine AOR.pure (LT.neq rfl) ⟨rfl, rfl, trivial⟩ trivial rfl rfl ?_
    refine AOR.nil ?_
    refine AWR.cond rfl (fun hc7 => ?_) (fun hc7 => ?_)
    · refine AWR.seq ?_
      refine AWR.region ?_
      refine AOR.pure (LT.assign (v := (.s (.c (bC false)))) rfl) ⟨⟨rfl, rfl⟩, trivial⟩ trivial rfl rfl ?_
      refine AOR.nil ?_
      refine AWR.ret (FPost.mk (.inr rfl) ⟨rfl, trivial⟩ trivial rfl ⟨PermP.sc, trivial⟩ trivial)
    · refine AWR.skip ?_
      refine AWR.seq ?_
      refine AWR.seq ?_
      refine AWR.draw mixed ?_
      refine AOD.pure (LT.bloadN (out := [(iC r5.Points), (.loc 27 0 r5.Bars.length)]) rfl ag30 (infS inf30) sz30 (by exact rfl) (by exact rfl)) ⟨rfl, trivial⟩ ⟨rfl, trivial⟩ rfl rfl ?_
      refine AOD.pure (LT.bloadN (out := [(iC aG.Points), (.pv (.xs false (aG.Bars.map encTBar)))]) rfl ag26 (infS inf26) sz26 (by exact rfl) (by exact rfl)) ⟨rfl, trivial⟩ ⟨rfl, trivial⟩ rfl rfl ?_
      refine AOD.bind fun r8 hr8 => ?_
      refine AOD.step (@LT.callF Try.prog _ _ 19 _ _ [(.agg [(iC aG.Points), (.pv (.xs false (aG.Bars.map encTBar)))])] _ _ [] _ _ _ _ ((show Fw.Fn Try.prog 19 [(.agg [(iC aG.Points), (.pv (.xs false (aG.Bars.map encTBar)))])] [] (.s (.agg [(iC r8.Points), (.loc 31 0 r8.Bars.length)])) [(31, (.prow 88 (r8.Bars.map encTBar)))] [] [31] from Fw.Fn.ren [(0, 31)] (w_laws_toGraph aG r8 hr8) rfl)) rfl cb19 (.cons (.agg (.cons (.same rfl) (.cons (.same rfl) .nil))) .nil) rfl rfl trivial) ⟨rfl, rfl, trivial⟩ trivial rfl rfl ?_
      refine AOD.bind fun r9 hr9 => ?_
      refine AOD.pure (@LT.callF Try.prog _ _ 21 _ _ [(.agg [(iC r5.Points), (.loc 27 0 r5.Bars.length)]), (.agg [(iC r8.Points), (.loc 31 0 r8.Bars.length)])] _ _ [(27, (.prow 88 (r5.Bars.map encTBar))), (31, (.prow 88 (r8.Bars.map encTBar)))] _ _ _ _ (w_laws_eqGraph r5 r8 r9 hr9) rfl cb21 (.cons (.agg (.cons (.same rfl) (.cons (.tloc rfl rfl) .nil))) (.cons (.agg (.cons (.same rfl) (.cons (.tloc rfl rfl) .nil))) .nil)) rfl rfl trivial) ⟨rfl, rfl, rfl, trivial⟩ ⟨rfl, rfl, trivial⟩ rfl rfl ?_
      refine AOD.pure (LT.not rfl) ⟨rfl, trivial⟩ trivial rfl rfl ?_
      refine AOD.nil (by kernel_rfl) ?_
      refine AWR.cond rfl (fun hc10 => ?_) (fun hc10 => ?_)
      · refine AWR.seq ?_
        refine AWR.ent (Ent.of (σ' := []) (m' := []) trivial trivial) ?_
        refine AWR.region ?_
        refine AOR.pure (LT.assign (v := (.s (.c (bC false)))) rfl) ⟨⟨rfl, rfl⟩, trivial⟩ trivial rfl rfl ?_
        refine AOR.nil ?_
        refine AWR.ret (FPost.mk (.inr rfl) ⟨rfl, trivial⟩ trivial rfl ⟨PermP.sc, trivial⟩ trivial)
      · refine AWR.skip ?_
        refine AWR.seq ?_
        refine AWR.ent (Ent.of (σ' := []) (m' := []) trivial trivial) ?_
        refine AWR.region ?_
        refine AOR.pure (LT.assign (v := (.s (.c (bC true)))) rfl) ⟨⟨rfl, rfl⟩, trivial⟩ trivial rfl rfl ?_
        refine AOR.nil ?_
        refine AWR.ret (FPost.mk (.inr rfl) ⟨rfl, trivial⟩ trivial rfl ⟨PermP.sc, trivial⟩ trivial)
end Go.Proofs.Ytihibpkbhjpajaa
