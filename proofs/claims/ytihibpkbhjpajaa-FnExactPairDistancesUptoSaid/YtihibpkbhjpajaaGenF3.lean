/- The code computes the models. Written by a program of mine. -/
import Derived.Test.YtihibpkbhjpajaaGenF2
set_option linter.unusedVariables false
set_option linter.unusedSimpArgs false
open Go Go.Fw
namespace Go.Proofs.Ytihibpkbhjpajaa
set_option maxRecDepth 100000 in
set_option maxHeartbeats 8000000 in
theorem w_laws_FnExactHingeGraph (aG : TGraph) : ∀ t, m_laws_FnExactHingeGraph aG = some t → Fw.Fn Try.prog 4 [(.agg [(iC aG.Points), (.pv (.xs false (aG.Bars.map encTBar)))])] [] (.s (.c (bC t))) [] [] [] := by
  refine Fw.Fn.of (P := Try.prog) (X := []) (pn := []) (rs := (fun (t : Bool) => [(.c (bC t))])) (dfs := (fun (t : Bool) => [])) Try.func4 rfl Try.ntmps4 (Nat.le_of_ble_eq_true rfl) rfl ?_
  intro w0 U0 R0 g0
  unfold m_laws_FnExactHingeGraph
  refine AWR.seq ?_
  refine AWR.region ?_
  refine AOR.step (LT.box (n := 21) (v := (.agg [(iC aG.Points), (.pv (.xs false (aG.Bars.map encTBar)))])) rfl sz26 (by exact rfl)) ⟨rfl, trivial⟩ trivial rfl rfl ?_
  refine AOR.pure (LT.assign (v := (.s (.c (bC false)))) rfl) ⟨⟨rfl, rfl⟩, trivial⟩ trivial rfl rfl ?_
  refine AOR.nil ?_
  refine AWR.seq ?_
  refine AWR.region ?_
  refine AOR.pure (LT.assign (v := (.s (.c (iC 1048576)))) rfl) ⟨⟨rfl, rfl⟩, trivial⟩ trivial rfl rfl ?_
  refine AOR.nil ?_
  refine AWR.seq ?_
  refine AWR.region ?_
  refine AOR.pure (LT.bloadN (out := [(iC aG.Points), (.pv (.xs false (aG.Bars.map encTBar)))]) rfl ag26 (infS inf26) sz26 (by exact rfl) (by exact rfl)) ⟨rfl, trivial⟩ ⟨rfl, trivial⟩ rfl rfl ?_
  refine AOR.pure (LT.move (v := (.s (.c (iC 1048576)))) rfl) ⟨rfl, trivial⟩ trivial rfl rfl ?_
  refine AOR.bind fun r1 hr1 => ?_
  refine AOR.pure (@LT.callF Try.prog _ _ 17 _ _ [(.agg [(iC aG.Points), (.pv (.xs false (aG.Bars.map encTBar)))]), (.c (iC 1048576))] _ _ [] _ _ _ _ (w_laws_szGraph aG 1048576 r1 hr1) rfl cb17 (.cons (.agg (.cons (.same rfl) (.cons (.same rfl) .nil))) (.cons (.c (.same rfl)) .nil)) rfl rfl trivial) ⟨rfl, rfl, rfl, trivial⟩ trivial rfl rfl ?_
  refine AOR.pure (LT.assign (v := (.s (.c (iC r1)))) rfl) ⟨rfl, trivial⟩ trivial rfl rfl ?_
  refine AOR.nil ?_
  refine AWR.seq ?_
  refine AWR.seq ?_
  refine AWR.region ?_
  refine AOR.pure (LT.move (v := (.s (.c (iC r1)))) rfl) ⟨rfl, trivial⟩ trivial rfl rfl ?_
  refine AOR.pure (LT.lss rfl) ⟨rfl, ⟨rfl, rfl⟩, trivial⟩ trivial rfl rfl ?_
  refine AOR.nil ?_
  refine AWR.cond rfl (fun hc2 => ?_) (fun hc2 => ?_)
  · refine AWR.seq ?_
    refine AWR.ent (Ent.of (σ' := []) (m' := []) trivial trivial) ?_
    refine AWR.region ?_
    refine AOR.pure (LT.assign (v := (.s (.c (bC true)))) rfl) ⟨⟨rfl, rfl⟩, trivial⟩ trivial rfl rfl ?_
    refine AOR.nil ?_
    refine AWR.ret (FPost.mk (.inr rfl) ⟨rfl, trivial⟩ trivial rfl ⟨PermP.sc, trivial⟩ trivial)
  · refine AWR.skip ?_
    refine AWR.seq ?_
    refine AWR.ent (Ent.of (σ' := [(1, (.s (.c (.pl 21 0))))]) (m' := [(21, (.row 26 [[(iC aG.Points), (.pv (.xs false (aG.Bars.map encTBar)))]]))]) ⟨rfl, trivial⟩ ⟨rfl, trivial⟩) ?_
    refine AWR.region ?_
    refine AOR.pure (LT.bloadN (out := [(iC aG.Points), (.pv (.xs false (aG.Bars.map encTBar)))]) rfl ag26 (infS inf26) sz26 (by exact rfl) (by exact rfl)) ⟨rfl, trivial⟩ ⟨rfl, trivial⟩ rfl rfl ?_
    refine AOR.bind fun r3 hr3 => ?_
    refine AOR.step (@LT.callF Try.prog _ _ 19 _ _ [(.agg [(iC aG.Points), (.pv (.xs false (aG.Bars.map encTBar)))])] _ _ [] _ _ _ _ ((show Fw.Fn Try.prog 19 [(.agg [(iC aG.Points), (.pv (.xs false (aG.Bars.map encTBar)))])] [] (.s (.agg [(iC r3.Points), (.loc 24 0 r3.Bars.length)])) [(24, (.prow 88 (r3.Bars.map encTBar)))] [] [24] from Fw.Fn.ren [(0, 24)] (w_laws_toGraph aG r3 hr3) rfl)) rfl cb19 (.cons (.agg (.cons (.same rfl) (.cons (.same rfl) .nil))) .nil) rfl rfl trivial) ⟨rfl, rfl, trivial⟩ trivial rfl rfl ?_
    refine AOR.bind fun r4 hr4 => ?_
    refine AOR.step (@LT.callF Try.prog _ _ 18 _ _ [(.agg [(iC r3.Points), (.loc 24 0 r3.Bars.length)])] _ _ [(24, (.prow 88 (r3.Bars.map encTBar)))] _ _ _ _ ((show Fw.Fn Try.prog 18 [(.agg [(iC r3.Points), (.pv (.xs false (r3.Bars.map encTBar)))])] [] (.tup [(.agg [(iC r4.1.Points), (.loc 26 0 r4.1.Bars.length)]), (.c (bC r4.2))]) [(26, (.prow 88 (r4.1.Bars.map encTBar)))] [] [26] from Fw.Fn.ren [(0, 26)] (w_spec_HingeGraph r3 r4 hr4) rfl)) rfl cb18 (.cons (.agg (.cons (.same rfl) (.cons (.tloc rfl rfl) .nil))) .nil) rfl rfl trivial) ⟨rfl, rfl, trivial⟩ ⟨rfl, trivial⟩ rfl rfl ?_
    refine AOR.pure (LT.move (v := (.tup [(.agg [(iC r4.1.Points), (.loc 26 0 r4.1.Bars.length)]), (.c (bC r4.2))])) rfl) ⟨rfl, trivial⟩ trivial rfl rfl ?_
    refine AOR.pure (LT.extract (v := (.agg [(iC r4.1.Points), (.loc 26 0 r4.1.Bars.length)])) rfl (by exact rfl)) ⟨rfl, trivial⟩ trivial rfl rfl ?_
    refine AOR.pure (LT.extract (v := (.c (bC r4.2))) rfl (by exact rfl)) ⟨rfl, trivial⟩ trivial rfl rfl ?_
    refine AOR.step (LT.alloc (n := 27) (cells := [(iC 0), (sC nilV)]) rfl ti30 rfl rfl rfl) trivial trivial rfl rfl ?_
    refine AOR.step (LT.bstore (v := (.agg [(iC r4.1.Points), (.loc 26 0 r4.1.Bars.length)])) (out := [(iC r4.1.Points), (.loc 26 0 r4.1.Bars.length)]) rfl rfl (infS inf30) sz30 (by exact rfl) (by exact Nat.le_of_ble_eq_true rfl) (by exact rfl)) ⟨rfl, rfl, trivial⟩ ⟨rfl, trivial⟩ rfl rfl ?_
    refine AOR.pure (LT.assign (v := (.s (.c (bC r4.2)))) rfl) ⟨rfl, trivial⟩ trivial rfl rfl ?_
    refine AOR.nil ?_
    refine AWR.seq ?_
    refine AWR.ent (Ent.of (σ' := [(1, (.s (.c (.pl 21 0)))), (4, (.s (.c (.pl 27 0)))), (5, (.s (.c (bC r4.2))))]) (m' := [(21, (.row 26 [[(iC aG.Points), (.pv (.xs false (aG.Bars.map encTBar)))]])), (26, (.prow 88 (r4.1.Bars.map encTBar))), (27, (.row 30 [[(iC r4.1.Points), (.loc 26 0 r4.1.Bars.length)]]))]) ⟨rfl, rfl, rfl, trivial⟩ ⟨rfl, rfl, rfl, trivial⟩) ?_
    refine AWR.region ?_
    refine AOR.pure (LT.bloadN (out := [(iC aG.Points), (.pv (.xs false (aG.Bars.map encTBar)))]) rfl ag26 (infS inf26) sz26 (by exact rfl) (by exact rfl)) ⟨rfl, trivial⟩ ⟨rfl, trivial⟩ rfl rfl ?_
    refine AOR.bind fun r5 hr5 => ?_
    refine AOR.step (@LT.callF Try.prog _ _ 19 _ _ [(.agg [(iC aG.Points), (.pv (.xs false (aG.Bars.map encTBar)))])] _ _ [] _ _ _ _ ((show Fw.Fn Try.prog 19 [(.agg [(iC aG.Points), (.pv (.xs false (aG.Bars.map encTBar)))])] [] (.s (.agg [(iC r5.Points), (.loc 29 0 r5.Bars.length)])) [(29, (.prow 88 (r5.Bars.map encTBar)))] [] [29] from Fw.Fn.ren [(0, 29)] (w_laws_toGraph aG r5 hr5) rfl)) rfl cb19 (.cons (.agg (.cons (.same rfl) (.cons (.same rfl) .nil))) .nil) rfl rfl trivial) ⟨rfl, rfl, trivial⟩ trivial rfl rfl ?_
    refine AOR.step (LT.alloc (n := 30) (cells := [(iC 0), (sC nilV)]) rfl ti30 rfl rfl rfl) trivial trivial rfl rfl ?_
    refine AOR.step (LT.bstore (v := (.agg [(iC r5.Points), (.loc 29 0 r5.Bars.length)])) (out := [(iC r5.Points), (.loc 29 0 r5.Bars.length)]) rfl rfl (infS inf30) sz30 (by exact rfl) (by exact Nat.le_of_ble_eq_true rfl) (by exact rfl)) ⟨rfl, rfl, trivial⟩ ⟨rfl, trivial⟩ rfl rfl ?_
    refine AOR.nil ?_
    refine AWR.seq ?_
    refine AWR.region ?_
    refine AOR.pure (LT.bloadN (out := [(iC r5.Points), (.loc 29 0 r5.Bars.length)]) rfl ag30 (infS inf30) sz30 (by exact rfl) (by exact rfl)) ⟨rfl, trivial⟩ ⟨rfl, trivial⟩ rfl rfl ?_
    refine AOR.bind fun r6 hr6 => ?_
    refine AOR.step (@LT.callF Try.prog _ _ 20 _ _ [(.agg [(iC r5.Points), (.loc 29 0 r5.Bars.length)])] _ _ [(29, (.prow 88 (r5.Bars.map encTBar)))] _ _ _ _ ((show Fw.Fn Try.prog 20 [(.agg [(iC r5.Points), (.pv (.xs false (r5.Bars.map encTBar)))])] [] (.tup [(.agg [(iC r6.1.Points), (.loc 32 0 r6.1.Bars.length)]), (.c (bC r6.2))]) [(32, (.prow 88 (r6.1.Bars.map encTBar)))] [] [32] from Fw.Fn.ren [(0, 32)] (w_impl_HingeGraph r5 r6 hr6) rfl)) rfl cb20 (.cons (.agg (.cons (.same rfl) (.cons (.tloc rfl rfl) .nil))) .nil) rfl rfl trivial) ⟨rfl, rfl, trivial⟩ ⟨rfl, trivial⟩ rfl rfl ?_
    refine AOR.pure (LT.move (v := (.tup [(.agg [(iC r6.1.Points), (.loc 32 0 r6.1.Bars.length)]), (.c (bC r6.2))])) rfl) ⟨rfl, trivial⟩ trivial rfl rfl ?_
    refine AOR.pure (LT.extract (v := (.agg [(iC r6.1.Points), (.loc 32 0 r6.1.Bars.length)])) rfl (by exact rfl)) ⟨rfl, trivial⟩ trivial rfl rfl ?_
    refine AOR.pure (LT.extract (v := (.c (bC r6.2))) rfl (by exact rfl)) ⟨rfl, trivial⟩ trivial rfl rfl ?_
    refine AOR.step (LT.alloc (n := 33) (cells := [(iC 0), (sC nilV)]) rfl ti30 rfl rfl rfl) trivial trivial rfl rfl ?_
    refine AOR.step (LT.bstore (v := (.agg [(iC r6.1.Points), (.loc 32 0 r6.1.Bars.length)])) (out := [(iC r6.1.Points), (.loc 32 0 r6.1.Bars.length)]) rfl rfl (infS inf30) sz30 (by exact rfl) (by exact Nat.le_of_ble_eq_true rfl) (by exact rfl)) ⟨rfl, rfl, trivial⟩ ⟨rfl, trivial⟩ rfl rfl ?_
    refine AOR.pure (LT.assign (v := (.s (.c (bC r6.2)))) rfl) ⟨rfl, trivial⟩ trivial rfl rfl ?_
    refine AOR.nil ?_
    refine AWR.seq ?_
    refine AWR.seq ?_
    refine AWR.joinK (fun j9 => ([(1, (.s (.c (.pl 21 0)))), (4, (.s (.c (.pl 27 0)))), (5, (.s (.c (bC r4.2)))), (6, (.s (.c (.pl 30 0)))), (7, (.s (.c (.pl 33 0)))), (8, (.s (.c (bC r6.2)))), (40, (.s (.c (bC j9))))], [(21, (.row 26 [[(iC aG.Points), (.pv (.xs false (aG.Bars.map encTBar)))]])), (26, (.prow 88 (r4.1.Bars.map encTBar))), (27, (.row 30 [[(iC r4.1.Points), (.loc 26 0 r4.1.Bars.length)]])), (29, (.prow 88 (r5.Bars.map encTBar))), (30, (.row 30 [[(iC r5.Points), (.loc 29 0 r5.Bars.length)]])), (32, (.prow 88 (r6.1.Bars.map encTBar))), (33, (.row 30 [[(iC r6.1.Points), (.loc 32 0 r6.1.Bars.length)]]))])) ?_ (fun j9 _ => ?_)
    · refine AWR.ent (Ent.of (σ' := [(1, (.s (.c (.pl 21 0)))), (4, (.s (.c (.pl 27 0)))), (5, (.s (.c (bC r4.2)))), (6, (.s (.c (.pl 30 0)))), (7, (.s (.c (.pl 33 0)))), (8, (.s (.c (bC r6.2))))]) (m' := [(21, (.row 26 [[(iC aG.Points), (.pv (.xs false (aG.Bars.map encTBar)))]])), (26, (.prow 88 (r4.1.Bars.map encTBar))), (27, (.row 30 [[(iC r4.1.Points), (.loc 26 0 r4.1.Bars.length)]])), (29, (.prow 88 (r5.Bars.map encTBar))), (30, (.row 30 [[(iC r5.Points), (.loc 29 0 r5.Bars.length)]])), (32, (.prow 88 (r6.1.Bars.map encTBar))), (33, (.row 30 [[(iC r6.1.Points), (.loc 32 0 r6.1.Bars.length)]]))]) ⟨rfl, rfl, rfl, rfl, rfl, rfl, trivial⟩ ⟨rfl, rfl, rfl, rfl, rfl, rfl, rfl, trivial⟩) ?_
      refine AWR.region ?_
      refine AOR.pure (LT.bloadN (out := [(iC r6.1.Points), (.loc 32 0 r6.1.Bars.length)]) rfl ag30 (infS inf30) sz30 (by exact rfl) (by exact rfl)) ⟨rfl, trivial⟩ ⟨rfl, trivial⟩ rfl rfl ?_
      refine AOR.pure (LT.bloadN (out := [(iC r4.1.Points), (.loc 26 0 r4.1.Bars.length)]) rfl ag30 (infS inf30) sz30 (by exact rfl) (by exact rfl)) ⟨rfl, trivial⟩ ⟨rfl, trivial⟩ rfl rfl ?_
      refine AOR.bind fun r10 hr10 => ?_
      refine AOR.pure (@LT.callF Try.prog _ _ 21 _ _ [(.agg [(iC r6.1.Points), (.loc 32 0 r6.1.Bars.length)]), (.agg [(iC r4.1.Points), (.loc 26 0 r4.1.Bars.length)])] _ _ [(32, (.prow 88 (r6.1.Bars.map encTBar))), (26, (.prow 88 (r4.1.Bars.map encTBar)))] _ _ _ _ (w_laws_eqGraph r6.1 r4.1 r10 hr10) rfl cb21 (.cons (.agg (.cons (.same rfl) (.cons (.tloc rfl rfl) .nil))) (.cons (.agg (.cons (.same rfl) (.cons (.tloc rfl rfl) .nil))) .nil)) rfl rfl trivial) ⟨rfl, rfl, rfl, trivial⟩ ⟨rfl, rfl, trivial⟩ rfl rfl ?_
      refine AOR.pure (LT.not rfl) ⟨rfl, trivial⟩ trivial rfl rfl ?_
      refine AOR.pure (LT.move (v := (.s (.c (bC (!r10))))) rfl) ⟨rfl, trivial⟩ trivial rfl rfl ?_
      refine AOR.split (fun hb11 => ?_) (fun hb11 => ?_)
      · refine AOR.skip ⟨_, rfl, .inl ⟨_, rfl, (by rw [hb11]; rfl)⟩⟩ rfl ?_
        refine AOR.skip ⟨_, rfl, .inl ⟨_, rfl, (by rw [hb11]; rfl)⟩⟩ rfl ?_
        refine AOR.skip ⟨_, rfl, .inl ⟨_, rfl, (by rw [hb11]; rfl)⟩⟩ rfl ?_
        refine AOR.pure (LT.pickT (v := (.s (.c (bC true)))) rfl hb11) ⟨rfl, ⟨rfl, rfl⟩, trivial⟩ trivial rfl rfl ?_
        refine AOR.nil ?_
        refine AWR.nil ⟨rfl, Ent.of ⟨rfl, rfl, rfl, rfl, rfl, rfl, rfl, trivial⟩ ⟨rfl, rfl, rfl, rfl, rfl, rfl, rfl, trivial⟩⟩
      · refine AOR.pure (LT.move (v := (.s (.c (bC r6.2)))) rfl) ⟨rfl, trivial⟩ trivial ⟨_, rfl, .inl ⟨_, rfl, (by rw [hb11]; rfl)⟩⟩ rfl ?_
        refine AOR.pure (LT.move (v := (.s (.c (bC r4.2)))) rfl) ⟨rfl, trivial⟩ trivial ⟨_, rfl, .inl ⟨_, rfl, (by rw [hb11]; rfl)⟩⟩ rfl ?_
        refine AOR.pure (LT.neqB rfl und4) ⟨rfl, rfl, trivial⟩ trivial ⟨_, rfl, .inl ⟨_, rfl, (by rw [hb11]; rfl)⟩⟩ rfl ?_
        refine AOR.pure (LT.pickF (v := (.s (.c (bC (r6.2 != r4.2))))) rfl hb11) ⟨rfl, rfl, trivial⟩ trivial rfl rfl ?_
        refine AOR.nil ?_
        refine AWR.nil ⟨rfl, Ent.of ⟨rfl, rfl, rfl, rfl, rfl, rfl, rfl, trivial⟩ ⟨rfl, rfl, rfl, rfl, rfl, rfl, rfl, trivial⟩⟩
    · refine AWR.cond rfl (fun hc12 => ?_) (fun hc12 => ?_)
      · refine AWR.seq ?_
        refine AWR.region ?_
        refine AOR.pure (LT.assign (v := (.s (.c (bC false)))) rfl) ⟨⟨rfl, rfl⟩, trivial⟩ trivial rfl rfl ?_
        refine AOR.nil ?_
        refine AWR.ret (FPost.mk (.inr rfl) ⟨rfl, trivial⟩ trivial rfl ⟨PermP.sc, trivial⟩ trivial)
      · refine AWR.skip ?_
        refine AWR.seq ?_
        refine AWR.seq ?_
        refine AWR.draw mixed ?_
        refine AOD.pure (LT.bloadN (out := [(iC r5.Points), (.loc 29 0 r5.Bars.length)]) rfl ag30 (infS inf30) sz30 (by exact rfl) (by exact rfl)) ⟨rfl, trivial⟩ ⟨rfl, trivial⟩ rfl rfl ?_
        refine AOD.pure (LT.bloadN (out := [(iC aG.Points), (.pv (.xs false (aG.Bars.map encTBar)))]) rfl ag26 (infS inf26) sz26 (by exact rfl) (by exact rfl)) ⟨rfl, trivial⟩ ⟨rfl, trivial⟩ rfl rfl ?_
        refine AOD.bind fun r13 hr13 => ?_
        refine AOD.step (@LT.callF Try.prog _ _ 19 _ _ [(.agg [(iC aG.Points), (.pv (.xs false (aG.Bars.map encTBar)))])] _ _ [] _ _ _ _ ((show Fw.Fn Try.prog 19 [(.agg [(iC aG.Points), (.pv (.xs false (aG.Bars.map encTBar)))])] [] (.s (.agg [(iC r13.Points), (.loc 36 0 r13.Bars.length)])) [(36, (.prow 88 (r13.Bars.map encTBar)))] [] [36] from Fw.Fn.ren [(0, 36)] (w_laws_toGraph aG r13 hr13) rfl)) rfl cb19 (.cons (.agg (.cons (.same rfl) (.cons (.same rfl) .nil))) .nil) rfl rfl trivial) ⟨rfl, rfl, trivial⟩ trivial rfl rfl ?_
        refine AOD.bind fun r14 hr14 => ?_
        refine AOD.pure (@LT.callF Try.prog _ _ 21 _ _ [(.agg [(iC r5.Points), (.loc 29 0 r5.Bars.length)]), (.agg [(iC r13.Points), (.loc 36 0 r13.Bars.length)])] _ _ [(29, (.prow 88 (r5.Bars.map encTBar))), (36, (.prow 88 (r13.Bars.map encTBar)))] _ _ _ _ (w_laws_eqGraph r5 r13 r14 hr14) rfl cb21 (.cons (.agg (.cons (.same rfl) (.cons (.tloc rfl rfl) .nil))) (.cons (.agg (.cons (.same rfl) (.cons (.tloc rfl rfl) .nil))) .nil)) rfl rfl trivial) ⟨rfl, rfl, rfl, trivial⟩ ⟨rfl, rfl, trivial⟩ rfl rfl ?_
        refine AOD.pure (LT.not rfl) ⟨rfl, trivial⟩ trivial rfl rfl ?_
        refine AOD.nil (by kernel_rfl) ?_
        refine AWR.cond rfl (fun hc15 => ?_) (fun hc15 => ?_)
        · refine AWR.seq ?_
          refine AWR.region ?_
          refine AOR.pure (LT.assign (v := (.s (.c (bC false)))) rfl) ⟨⟨rfl, rfl⟩, trivial⟩ trivial rfl rfl ?_
          refine AOR.nil ?_
          refine AWR.ret (FPost.mk (.inr rfl) ⟨rfl, trivial⟩ trivial rfl ⟨PermP.sc, trivial⟩ trivial)
        · refine AWR.skip ?_
          refine AWR.seq ?_
          refine AWR.region ?_
          refine AOR.pure (LT.assign (v := (.s (.c (iC 1)))) rfl) ⟨⟨rfl, rfl⟩, trivial⟩ trivial rfl rfl ?_
          refine AOR.nil ?_
          refine AWR.seq ?_
          refine AWR.region ?_
          refine AOR.pure (LT.bloadN (out := [(iC r5.Points), (.loc 29 0 r5.Bars.length)]) rfl ag30 (infS inf30) sz30 (by exact rfl) (by exact rfl)) ⟨rfl, trivial⟩ ⟨rfl, trivial⟩ rfl rfl ?_
          refine AOR.pure (LT.move (v := (.s (.c (iC 1)))) rfl) ⟨rfl, trivial⟩ trivial rfl rfl ?_
          refine AOR.bind fun r16 hr16 => ?_
          refine AOR.step (@LT.callF Try.prog _ _ 22 _ _ [(.agg [(iC r5.Points), (.loc 29 0 r5.Bars.length)]), (.c (iC 1))] _ _ [] _ _ _ _ ((show Fw.Fn Try.prog 22 [(.agg [(iC r5.Points), (.loc 29 0 r5.Bars.length)]), (.c (iC 1))] [(29, (.prow 88 (r5.Bars.map encTBar)))] (.s (.c (iC r16.1))) [(29, (.prow 88 (r16.2.map encTBar)))] [29] [] from Fw.Fn.ren [(0, 29)] (w_laws_markGraph r5 1 r16 hr16) rfl)) rfl cb22 (.cons (.agg (.cons (.same rfl) (.cons (.same rfl) .nil))) (.cons (.c (.same rfl)) .nil)) rfl rfl ⟨rfl, trivial⟩) ⟨rfl, rfl, rfl, trivial⟩ ⟨rfl, trivial⟩ rfl rfl ?_
          refine AOR.pure (LT.assign (v := (.s (.c (iC r16.1)))) rfl) ⟨rfl, trivial⟩ trivial rfl rfl ?_
          refine AOR.nil ?_
          refine AWR.seq ?_
          refine AWR.seq ?_
          refine AWR.joinK (fun j20 => ([(1, (.s (.c (.pl 21 0)))), (4, (.s (.c (.pl 27 0)))), (5, (.s (.c (bC r4.2)))), (7, (.s (.c (.pl 33 0)))), (61, (.s (.c (bC j20))))], [(21, (.row 26 [[(iC aG.Points), (.pv (.xs false (aG.Bars.map encTBar)))]])), (26, (.prow 88 (r4.1.Bars.map encTBar))), (27, (.row 30 [[(iC r4.1.Points), (.loc 26 0 r4.1.Bars.length)]])), (32, (.prow 88 (r6.1.Bars.map encTBar))), (33, (.row 30 [[(iC r6.1.Points), (.loc 32 0 r6.1.Bars.length)]]))])) ?_ (fun j20 _ => ?_)
          · refine AWR.ent (Ent.of (σ' := [(1, (.s (.c (.pl 21 0)))), (4, (.s (.c (.pl 27 0)))), (5, (.s (.c (bC r4.2)))), (7, (.s (.c (.pl 33 0)))), (8, (.s (.c (bC r6.2)))), (9, (.s (.c (iC r16.1))))]) (m' := [(21, (.row 26 [[(iC aG.Points), (.pv (.xs false (aG.Bars.map encTBar)))]])), (26, (.prow 88 (r4.1.Bars.map encTBar))), (27, (.row 30 [[(iC r4.1.Points), (.loc 26 0 r4.1.Bars.length)]])), (32, (.prow 88 (r6.1.Bars.map encTBar))), (33, (.row 30 [[(iC r6.1.Points), (.loc 32 0 r6.1.Bars.length)]]))]) ⟨rfl, rfl, rfl, rfl, rfl, rfl, trivial⟩ ⟨rfl, rfl, rfl, rfl, rfl, trivial⟩) ?_
            refine AWR.region ?_
            refine AOR.pure (LT.move (v := (.s (.c (iC r16.1)))) rfl) ⟨rfl, trivial⟩ trivial rfl rfl ?_
            refine AOR.pure (LT.lss rfl) ⟨rfl, ⟨rfl, rfl⟩, trivial⟩ trivial rfl rfl ?_
            refine AOR.pure (LT.move (v := (.s (.c (bC (decide (r16.1 < 0)))))) rfl) ⟨rfl, trivial⟩ trivial rfl rfl ?_
            refine AOR.split (fun hb21 => ?_) (fun hb21 => ?_)
            · refine AOR.skip ⟨_, rfl, .inl ⟨_, rfl, (by rw [hb21]; rfl)⟩⟩ rfl ?_
              refine AOR.skip ⟨_, rfl, .inl ⟨_, rfl, (by rw [hb21]; rfl)⟩⟩ rfl ?_
              refine AOR.skip ⟨_, rfl, .inl ⟨_, rfl, (by rw [hb21]; rfl)⟩⟩ rfl ?_
              refine AOR.skip ⟨_, rfl, .inl ⟨_, rfl, (by rw [hb21]; rfl)⟩⟩ rfl ?_
              refine AOR.pure (LT.pickT (v := (.s (.c (bC true)))) rfl hb21) ⟨rfl, ⟨rfl, rfl⟩, trivial⟩ trivial rfl rfl ?_
              refine AOR.pure (LT.move (v := (.s (.c (bC true)))) rfl) ⟨rfl, trivial⟩ trivial rfl rfl ?_
              refine AOR.skip ⟨_, rfl, .inl ⟨_, rfl, rfl⟩⟩ rfl ?_
              refine AOR.skip ⟨_, rfl, .inl ⟨_, rfl, rfl⟩⟩ rfl ?_
              refine AOR.skip ⟨_, rfl, .inl ⟨_, rfl, rfl⟩⟩ rfl ?_
              refine AOR.pure (LT.pickT (v := (.s (.c (bC true)))) rfl rfl) ⟨rfl, ⟨rfl, rfl⟩, trivial⟩ trivial rfl rfl ?_
              refine AOR.nil ?_
              refine AWR.nil ⟨rfl, Ent.of ⟨rfl, rfl, rfl, rfl, rfl, trivial⟩ ⟨rfl, rfl, rfl, rfl, rfl, trivial⟩⟩
            · refine AOR.pure (LT.bloadN (out := [(iC r6.1.Points), (.loc 32 0 r6.1.Bars.length)]) rfl ag30 (infS inf30) sz30 (by exact rfl) (by exact rfl)) ⟨rfl, trivial⟩ ⟨rfl, trivial⟩ ⟨_, rfl, .inl ⟨_, rfl, (by rw [hb21]; rfl)⟩⟩ rfl ?_
              refine AOR.pure (LT.bloadN (out := [(iC r4.1.Points), (.loc 26 0 r4.1.Bars.length)]) rfl ag30 (infS inf30) sz30 (by exact rfl) (by exact rfl)) ⟨rfl, trivial⟩ ⟨rfl, trivial⟩ ⟨_, rfl, .inl ⟨_, rfl, (by rw [hb21]; rfl)⟩⟩ rfl ?_
              refine AOR.bind fun r22 hr22 => ?_
              refine AOR.pure (@LT.callF Try.prog _ _ 21 _ _ [(.agg [(iC r6.1.Points), (.loc 32 0 r6.1.Bars.length)]), (.agg [(iC r4.1.Points), (.loc 26 0 r4.1.Bars.length)])] _ _ [(32, (.prow 88 (r6.1.Bars.map encTBar))), (26, (.prow 88 (r4.1.Bars.map encTBar)))] _ _ _ _ (w_laws_eqGraph r6.1 r4.1 r22 hr22) rfl cb21 (.cons (.agg (.cons (.same rfl) (.cons (.tloc rfl rfl) .nil))) (.cons (.agg (.cons (.same rfl) (.cons (.tloc rfl rfl) .nil))) .nil)) rfl rfl trivial) ⟨rfl, rfl, rfl, trivial⟩ ⟨rfl, rfl, trivial⟩ ⟨_, rfl, .inl ⟨_, rfl, (by rw [hb21]; rfl)⟩⟩ rfl ?_
              refine AOR.pure (LT.not rfl) ⟨rfl, trivial⟩ trivial ⟨_, rfl, .inl ⟨_, rfl, (by rw [hb21]; rfl)⟩⟩ rfl ?_
              refine AOR.pure (LT.pickF (v := (.s (.c (bC (!r22))))) rfl hb21) ⟨rfl, rfl, trivial⟩ trivial rfl rfl ?_
              refine AOR.pure (LT.move (v := (.s (.c (bC (!r22))))) rfl) ⟨rfl, trivial⟩ trivial rfl rfl ?_
              refine AOR.split (fun hb23 => ?_) (fun hb23 => ?_)
              · refine AOR.skip ⟨_, rfl, .inl ⟨_, rfl, (by rw [hb23]; rfl)⟩⟩ rfl ?_
                refine AOR.skip ⟨_, rfl, .inl ⟨_, rfl, (by rw [hb23]; rfl)⟩⟩ rfl ?_
                refine AOR.skip ⟨_, rfl, .inl ⟨_, rfl, (by rw [hb23]; rfl)⟩⟩ rfl ?_
                refine AOR.pure (LT.pickT (v := (.s (.c (bC true)))) rfl hb23) ⟨rfl, ⟨rfl, rfl⟩, trivial⟩ trivial rfl rfl ?_
                refine AOR.nil ?_
                refine AWR.nil ⟨rfl, Ent.of ⟨rfl, rfl, rfl, rfl, rfl, trivial⟩ ⟨rfl, rfl, rfl, rfl, rfl, trivial⟩⟩
              · refine AOR.pure (LT.move (v := (.s (.c (bC r6.2)))) rfl) ⟨rfl, trivial⟩ trivial ⟨_, rfl, .inl ⟨_, rfl, (by rw [hb23]; rfl)⟩⟩ rfl ?_
                refine AOR.pure (LT.move (v := (.s (.c (bC r4.2)))) rfl) ⟨rfl, trivial⟩ trivial ⟨_, rfl, .inl ⟨_, rfl, (by rw [hb23]; rfl)⟩⟩ rfl ?_
                refine AOR.pure (LT.neqB rfl und4) ⟨rfl, rfl, trivial⟩ trivial ⟨_, rfl, .inl ⟨_, rfl, (by rw [hb23]; rfl)⟩⟩ rfl ?_
                refine AOR.pure (LT.pickF (v := (.s (.c (bC (r6.2 != r4.2))))) rfl hb23) ⟨rfl, rfl, trivial⟩ trivial rfl rfl ?_
                refine AOR.nil ?_
                refine AWR.nil ⟨rfl, Ent.of ⟨rfl, rfl, rfl, rfl, rfl, trivial⟩ ⟨rfl, rfl, rfl, rfl, rfl, trivial⟩⟩
          · refine AWR.cond rfl (fun hc24 => ?_) (fun hc24 => ?_)
            · refine AWR.seq ?_
              refine AWR.region ?_
              refine AOR.pure (LT.assign (v := (.s (.c (bC false)))) rfl) ⟨⟨rfl, rfl⟩, trivial⟩ trivial rfl rfl ?_
              refine AOR.nil ?_
              refine AWR.ret (FPost.mk (.inr rfl) ⟨rfl, trivial⟩ trivial rfl ⟨PermP.sc, trivial⟩ trivial)
            · refine AWR.skip ?_
              refine AWR.seq ?_
              refine AWR.region ?_
              refine AOR.pure (LT.assign (v := (.s (.c (iC 1)))) rfl) ⟨⟨rfl, rfl⟩, trivial⟩ trivial rfl rfl ?_
              refine AOR.nil ?_
              refine AWR.seq ?_
              refine AWR.region ?_
              refine AOR.pure (LT.bloadN (out := [(iC r6.1.Points), (.loc 32 0 r6.1.Bars.length)]) rfl ag30 (infS inf30) sz30 (by exact rfl) (by exact rfl)) ⟨rfl, trivial⟩ ⟨rfl, trivial⟩ rfl rfl ?_
              refine AOR.pure (LT.move (v := (.s (.c (iC 1)))) rfl) ⟨rfl, trivial⟩ trivial rfl rfl ?_
              refine AOR.bind fun r25 hr25 => ?_
              refine AOR.step (@LT.callF Try.prog _ _ 22 _ _ [(.agg [(iC r6.1.Points), (.loc 32 0 r6.1.Bars.length)]), (.c (iC 1))] _ _ [] _ _ _ _ ((show Fw.Fn Try.prog 22 [(.agg [(iC r6.1.Points), (.loc 32 0 r6.1.Bars.length)]), (.c (iC 1))] [(32, (.prow 88 (r6.1.Bars.map encTBar)))] (.s (.c (iC r25.1))) [(32, (.prow 88 (r25.2.map encTBar)))] [32] [] from Fw.Fn.ren [(0, 32)] (w_laws_markGraph r6.1 1 r25 hr25) rfl)) rfl cb22 (.cons (.agg (.cons (.same rfl) (.cons (.same rfl) .nil))) (.cons (.c (.same rfl)) .nil)) rfl rfl ⟨rfl, trivial⟩) ⟨rfl, rfl, rfl, trivial⟩ ⟨rfl, trivial⟩ rfl rfl ?_
              refine AOR.pure (LT.assign (v := (.s (.c (iC r25.1)))) rfl) ⟨rfl, trivial⟩ trivial rfl rfl ?_
              refine AOR.nil ?_
              refine AWR.seq ?_
              refine AWR.region ?_
              refine AOR.pure (LT.assign (v := (.s (.c (iC 1)))) rfl) ⟨⟨rfl, rfl⟩, trivial⟩ trivial rfl rfl ?_
              refine AOR.nil ?_
              refine AWR.seq ?_
              refine AWR.region ?_
              refine AOR.pure (LT.bloadN (out := [(iC r6.1.Points), (.loc 32 0 r6.1.Bars.length)]) rfl ag30 (infS inf30) sz30 (by exact rfl) (by exact rfl)) ⟨rfl, trivial⟩ ⟨rfl, trivial⟩ rfl rfl ?_
              refine AOR.pure (LT.move (v := (.s (.c (iC 1)))) rfl) ⟨rfl, trivial⟩ trivial rfl rfl ?_
              refine AOR.bind fun u26 hu26 => ?_
              refine AOR.bind fun r27 hr27 => ?_
              refine AOR.pure (@LT.callF Try.prog _ _ 23 _ _ [(.agg [(iC r6.1.Points), (.loc 32 0 r6.1.Bars.length)]), (.c (iC 1))] _ _ [(32, (.prow 88 (r25.2.map encTBar)))] _ _ _ _ (w_laws_heldGraph (TGraph.mk r6.1.Points r25.2) 1 r27 hr27) rfl cb23 (.cons (.agg (.cons (.same rfl) (.cons (.tloc (same_eq hu26) rfl) .nil))) (.cons (.c (.same rfl)) .nil)) rfl rfl trivial) ⟨rfl, rfl, rfl, trivial⟩ ⟨rfl, trivial⟩ rfl rfl ?_
              refine AOR.pure (LT.assign (v := (.s (.c (iC r27)))) rfl) ⟨rfl, trivial⟩ trivial rfl rfl ?_
              refine AOR.nil ?_
              refine AWR.seq ?_
              refine AWR.seq ?_
              refine AWR.ent (Ent.of (σ' := [(1, (.s (.c (.pl 21 0)))), (4, (.s (.c (.pl 27 0)))), (5, (.s (.c (bC r4.2)))), (7, (.s (.c (.pl 33 0)))), (10, (.s (.c (iC r25.1)))), (11, (.s (.c (iC r27))))]) (m' := [(21, (.row 26 [[(iC aG.Points), (.pv (.xs false (aG.Bars.map encTBar)))]])), (26, (.prow 88 (r4.1.Bars.map encTBar))), (27, (.row 30 [[(iC r4.1.Points), (.loc 26 0 r4.1.Bars.length)]])), (32, (.prow 88 (r25.2.map encTBar))), (33, (.row 30 [[(iC r6.1.Points), (.loc 32 0 r6.1.Bars.length)]]))]) ⟨rfl, rfl, rfl, rfl, rfl, rfl, trivial⟩ ⟨rfl, rfl, rfl, rfl, rfl, trivial⟩) ?_
              refine AWR.region ?_
              refine AOR.pure (LT.move (v := (.s (.c (iC r27)))) rfl) ⟨rfl, trivial⟩ trivial rfl rfl ?_
              refine AOR.pure (LT.lss rfl) ⟨rfl, ⟨rfl, rfl⟩, trivial⟩ trivial rfl rfl ?_
              refine AOR.nil ?_
              refine AWR.cond rfl (fun hc28 => ?_) (fun hc28 => ?_)
              · refine AWR.seq ?_
                refine AWR.region ?_
                refine AOR.pure (LT.assign (v := (.s (.c (bC false)))) rfl) ⟨⟨rfl, rfl⟩, trivial⟩ trivial rfl rfl ?_
                refine AOR.nil ?_
                refine AWR.ret (FPost.mk (.inr rfl) ⟨rfl, trivial⟩ trivial rfl ⟨PermP.sc, trivial⟩ trivial)
              · refine AWR.skip ?_
                refine AWR.seq ?_
                refine AWR.seq ?_
                refine AWR.region ?_
                refine AOR.pure (LT.move (v := (.s (.c (iC r27)))) rfl) ⟨rfl, trivial⟩ trivial rfl rfl ?_
                refine AOR.pure (LT.move (v := (.s (.c (iC r25.1)))) rfl) ⟨rfl, trivial⟩ trivial rfl rfl ?_
                refine AOR.pure (LT.neq rfl) ⟨rfl, rfl, trivial⟩ trivial rfl rfl ?_
                refine AOR.nil ?_
                refine AWR.cond rfl (fun hc29 => ?_) (fun hc29 => ?_)
                · refine AWR.seq ?_
                  refine AWR.region ?_
                  refine AOR.pure (LT.assign (v := (.s (.c (bC false)))) rfl) ⟨⟨rfl, rfl⟩, trivial⟩ trivial rfl rfl ?_
                  refine AOR.nil ?_
                  refine AWR.ret (FPost.mk (.inr rfl) ⟨rfl, trivial⟩ trivial rfl ⟨PermP.sc, trivial⟩ trivial)
                · refine AWR.skip ?_
                  refine AWR.seq ?_
                  refine AWR.region ?_
                  refine AOR.pure (LT.bloadN (out := [(iC aG.Points), (.pv (.xs false (aG.Bars.map encTBar)))]) rfl ag26 (infS inf26) sz26 (by exact rfl) (by exact rfl)) ⟨rfl, trivial⟩ ⟨rfl, trivial⟩ rfl rfl ?_
                  refine AOR.bind fun r30 hr30 => ?_
                  refine AOR.step (@LT.callF Try.prog _ _ 19 _ _ [(.agg [(iC aG.Points), (.pv (.xs false (aG.Bars.map encTBar)))])] _ _ [] _ _ _ _ ((show Fw.Fn Try.prog 19 [(.agg [(iC aG.Points), (.pv (.xs false (aG.Bars.map encTBar)))])] [] (.s (.agg [(iC r30.Points), (.loc 43 0 r30.Bars.length)])) [(43, (.prow 88 (r30.Bars.map encTBar)))] [] [43] from Fw.Fn.ren [(0, 43)] (w_laws_toGraph aG r30 hr30) rfl)) rfl cb19 (.cons (.agg (.cons (.same rfl) (.cons (.same rfl) .nil))) .nil) rfl rfl trivial) ⟨rfl, rfl, trivial⟩ trivial rfl rfl ?_
                  refine AOR.bind fun r31 hr31 => ?_
                  refine AOR.step (@LT.callF Try.prog _ _ 20 _ _ [(.agg [(iC r30.Points), (.loc 43 0 r30.Bars.length)])] _ _ [(43, (.prow 88 (r30.Bars.map encTBar)))] _ _ _ _ ((show Fw.Fn Try.prog 20 [(.agg [(iC r30.Points), (.pv (.xs false (r30.Bars.map encTBar)))])] [] (.tup [(.agg [(iC r31.1.Points), (.loc 45 0 r31.1.Bars.length)]), (.c (bC r31.2))]) [(45, (.prow 88 (r31.1.Bars.map encTBar)))] [] [45] from Fw.Fn.ren [(0, 45)] (w_impl_HingeGraph r30 r31 hr31) rfl)) rfl cb20 (.cons (.agg (.cons (.same rfl) (.cons (.tloc rfl rfl) .nil))) .nil) rfl rfl trivial) ⟨rfl, rfl, trivial⟩ ⟨rfl, trivial⟩ rfl rfl ?_
                  refine AOR.pure (LT.move (v := (.tup [(.agg [(iC r31.1.Points), (.loc 45 0 r31.1.Bars.length)]), (.c (bC r31.2))])) rfl) ⟨rfl, trivial⟩ trivial rfl rfl ?_
                  refine AOR.pure (LT.extract (v := (.agg [(iC r31.1.Points), (.loc 45 0 r31.1.Bars.length)])) rfl (by exact rfl)) ⟨rfl, trivial⟩ trivial rfl rfl ?_
                  refine AOR.pure (LT.extract (v := (.c (bC r31.2))) rfl (by exact rfl)) ⟨rfl, trivial⟩ trivial rfl rfl ?_
                  refine AOR.step (LT.alloc (n := 46) (cells := [(iC 0), (sC nilV)]) rfl ti30 rfl rfl rfl) trivial trivial rfl rfl ?_
                  refine AOR.step (LT.bstore (v := (.agg [(iC r31.1.Points), (.loc 45 0 r31.1.Bars.length)])) (out := [(iC r31.1.Points), (.loc 45 0 r31.1.Bars.length)]) rfl rfl (infS inf30) sz30 (by exact rfl) (by exact Nat.le_of_ble_eq_true rfl) (by exact rfl)) ⟨rfl, rfl, trivial⟩ ⟨rfl, trivial⟩ rfl rfl ?_
                  refine AOR.pure (LT.assign (v := (.s (.c (bC r31.2)))) rfl) ⟨rfl, trivial⟩ trivial rfl rfl ?_
                  refine AOR.nil ?_
                  refine AWR.seq ?_
                  refine AWR.seq ?_
                  refine AWR.joinK (fun j34 => ([(7, (.s (.c (.pl 33 0)))), (10, (.s (.c (iC r25.1)))), (87, (.s (.c (bC j34))))], [(32, (.prow 88 (r25.2.map encTBar))), (33, (.row 30 [[(iC r6.1.Points), (.loc 32 0 r25.2.length)]]))])) ?_ (fun j34 _ => ?_)
                  · refine AWR.ent (Ent.of (σ' := [(4, (.s (.c (.pl 27 0)))), (5, (.s (.c (bC r4.2)))), (7, (.s (.c (.pl 33 0)))), (10, (.s (.c (iC r25.1)))), (12, (.s (.c (.pl 46 0)))), (13, (.s (.c (bC r31.2))))]) (m' := [(26, (.prow 88 (r4.1.Bars.map encTBar))), (27, (.row 30 [[(iC r4.1.Points), (.loc 26 0 r4.1.Bars.length)]])), (32, (.prow 88 (r25.2.map encTBar))), (33, (.row 30 [[(iC r6.1.Points), (.loc 32 0 r6.1.Bars.length)]])), (45, (.prow 88 (r31.1.Bars.map encTBar))), (46, (.row 30 [[(iC r31.1.Points), (.loc 45 0 r31.1.Bars.length)]]))]) ⟨rfl, rfl, rfl, rfl, rfl, rfl, trivial⟩ ⟨rfl, rfl, rfl, rfl, rfl, rfl, trivial⟩) ?_
                    refine AWR.region ?_
                    refine AOR.pure (LT.bloadN (out := [(iC r31.1.Points), (.loc 45 0 r31.1.Bars.length)]) rfl ag30 (infS inf30) sz30 (by exact rfl) (by exact rfl)) ⟨rfl, trivial⟩ ⟨rfl, trivial⟩ rfl rfl ?_
                    refine AOR.pure (LT.bloadN (out := [(iC r4.1.Points), (.loc 26 0 r4.1.Bars.length)]) rfl ag30 (infS inf30) sz30 (by exact rfl) (by exact rfl)) ⟨rfl, trivial⟩ ⟨rfl, trivial⟩ rfl rfl ?_
                    refine AOR.bind fun r35 hr35 => ?_
                    refine AOR.pure (@LT.callF Try.prog _ _ 21 _ _ [(.agg [(iC r31.1.Points), (.loc 45 0 r31.1.Bars.length)]), (.agg [(iC r4.1.Points), (.loc 26 0 r4.1.Bars.length)])] _ _ [(45, (.prow 88 (r31.1.Bars.map encTBar))), (26, (.prow 88 (r4.1.Bars.map encTBar)))] _ _ _ _ (w_laws_eqGraph r31.1 r4.1 r35 hr35) rfl cb21 (.cons (.agg (.cons (.same rfl) (.cons (.tloc rfl rfl) .nil))) (.cons (.agg (.cons (.same rfl) (.cons (.tloc rfl rfl) .nil))) .nil)) rfl rfl trivial) ⟨rfl, rfl, rfl, trivial⟩ ⟨rfl, rfl, trivial⟩ rfl rfl ?_
                    refine AOR.pure (LT.not rfl) ⟨rfl, trivial⟩ trivial rfl rfl ?_
                    refine AOR.pure (LT.move (v := (.s (.c (bC (!r35))))) rfl) ⟨rfl, trivial⟩ trivial rfl rfl ?_
                    refine AOR.split (fun hb36 => ?_) (fun hb36 => ?_)
                    · refine AOR.skip ⟨_, rfl, .inl ⟨_, rfl, (by rw [hb36]; rfl)⟩⟩ rfl ?_
                      refine AOR.skip ⟨_, rfl, .inl ⟨_, rfl, (by rw [hb36]; rfl)⟩⟩ rfl ?_
                      refine AOR.skip ⟨_, rfl, .inl ⟨_, rfl, (by rw [hb36]; rfl)⟩⟩ rfl ?_
                      refine AOR.pure (LT.pickT (v := (.s (.c (bC true)))) rfl hb36) ⟨rfl, ⟨rfl, rfl⟩, trivial⟩ trivial rfl rfl ?_
                      refine AOR.nil ?_
                      refine AWR.bind fun u37 hu37 => ?_
                      refine AWR.nil ⟨rfl, Ent.of ⟨rfl, rfl, rfl, trivial⟩ ⟨rfl, (congrArg (fun l1 => (some (Ob.row 30 [[(iC r6.1.Points), (.loc 32 0 l1)]]) : Option Ob)) (same_eq hu37)), trivial⟩⟩
                    · refine AOR.pure (LT.move (v := (.s (.c (bC r31.2)))) rfl) ⟨rfl, trivial⟩ trivial ⟨_, rfl, .inl ⟨_, rfl, (by rw [hb36]; rfl)⟩⟩ rfl ?_
                      refine AOR.pure (LT.move (v := (.s (.c (bC r4.2)))) rfl) ⟨rfl, trivial⟩ trivial ⟨_, rfl, .inl ⟨_, rfl, (by rw [hb36]; rfl)⟩⟩ rfl ?_
                      refine AOR.pure (LT.neqB rfl und4) ⟨rfl, rfl, trivial⟩ trivial ⟨_, rfl, .inl ⟨_, rfl, (by rw [hb36]; rfl)⟩⟩ rfl ?_
                      refine AOR.pure (LT.pickF (v := (.s (.c (bC (r31.2 != r4.2))))) rfl hb36) ⟨rfl, rfl, trivial⟩ trivial rfl rfl ?_
                      refine AOR.nil ?_
                      refine AWR.bind fun u38 hu38 => ?_
                      refine AWR.nil ⟨rfl, Ent.of ⟨rfl, rfl, rfl, trivial⟩ ⟨rfl, (congrArg (fun l1 => (some (Ob.row 30 [[(iC r6.1.Points), (.loc 32 0 l1)]]) : Option Ob)) (same_eq hu38)), trivial⟩⟩
                  · refine AWR.cond rfl (fun hc39 => ?_) (fun hc39 => ?_)
                    · refine AWR.seq ?_
                      refine AWR.region ?_
                      refine AOR.pure (LT.assign (v := (.s (.c (bC false)))) rfl) ⟨⟨rfl, rfl⟩, trivial⟩ trivial rfl rfl ?_
                      refine AOR.nil ?_
                      refine AWR.ret (FPost.mk (.inr rfl) ⟨rfl, trivial⟩ trivial rfl ⟨PermP.sc, trivial⟩ trivial)
                    · refine AWR.skip ?_
                      refine AWR.seq ?_
                      refine AWR.region ?_
                      refine AOR.pure (LT.assign (v := (.s (.c (iC 1)))) rfl) ⟨⟨rfl, rfl⟩, trivial⟩ trivial rfl rfl ?_
                      refine AOR.nil ?_
                      refine AWR.seq ?_
                      refine AWR.region ?_
                      refine AOR.pure (LT.bloadN (out := [(iC r6.1.Points), (.loc 32 0 r25.2.length)]) rfl ag30 (infS inf30) sz30 (by exact rfl) (by exact rfl)) ⟨rfl, trivial⟩ ⟨rfl, trivial⟩ rfl rfl ?_
                      refine AOR.pure (LT.move (v := (.s (.c (iC 1)))) rfl) ⟨rfl, trivial⟩ trivial rfl rfl ?_
                      refine AOR.bind fun r40 hr40 => ?_
                      refine AOR.pure (@LT.callF Try.prog _ _ 23 _ _ [(.agg [(iC r6.1.Points), (.loc 32 0 r25.2.length)]), (.c (iC 1))] _ _ [(32, (.prow 88 (r25.2.map encTBar)))] _ _ _ _ (w_laws_heldGraph (TGraph.mk r6.1.Points r25.2) 1 r40 hr40) rfl cb23 (.cons (.agg (.cons (.same rfl) (.cons (.tloc rfl rfl) .nil))) (.cons (.c (.same rfl)) .nil)) rfl rfl trivial) ⟨rfl, rfl, rfl, trivial⟩ ⟨rfl, trivial⟩ rfl rfl ?_
                      refine AOR.pure (LT.assign (v := (.s (.c (iC r40)))) rfl) ⟨rfl, trivial⟩ trivial rfl rfl ?_
                      refine AOR.nil ?_
                      refine AWR.seq ?_
                      refine AWR.seq ?_
                      refine AWR.region ?_
                      refine AOR.pure (LT.move (v := (.s (.c (iC r40)))) rfl) ⟨rfl, trivial⟩ trivial rfl rfl ?_
                      refine AOR.pure (LT.lss rfl) ⟨rfl, ⟨rfl, rfl⟩, trivial⟩ trivial rfl rfl ?_
                      refine AOR.nil ?_
                      refine AWR.cond rfl (fun hc41 => ?_) (fun hc41 => ?_)
                      · refine AWR.seq ?_
                        refine AWR.region ?_
                        refine AOR.pure (LT.assign (v := (.s (.c (bC false)))) rfl) ⟨⟨rfl, rfl⟩, trivial⟩ trivial rfl rfl ?_
                        refine AOR.nil ?_
                        refine AWR.ret (FPost.mk (.inr rfl) ⟨rfl, trivial⟩ trivial rfl ⟨PermP.sc, trivial⟩ trivial)
                      · refine AWR.skip ?_
                        refine AWR.seq ?_
                        refine AWR.seq ?_
                        refine AWR.region ?_
                        refine AOR.pure (LT.move (v := (.s (.c (iC r40)))) rfl) ⟨rfl, trivial⟩ trivial rfl rfl ?_
                        refine AOR.pure (LT.move (v := (.s (.c (iC r25.1)))) rfl) ⟨rfl, trivial⟩ trivial rfl rfl ?_
                        refine AOR.pure (LT.neq rfl) ⟨rfl, rfl, trivial⟩ trivial rfl rfl ?_
                        refine AOR.nil ?_
                        refine AWR.cond rfl (fun hc42 => ?_) (fun hc42 => ?_)
                        · refine AWR.seq ?_
                          refine AWR.region ?_
                          refine AOR.pure (LT.assign (v := (.s (.c (bC false)))) rfl) ⟨⟨rfl, rfl⟩, trivial⟩ trivial rfl rfl ?_
                          refine AOR.nil ?_
                          refine AWR.ret (FPost.mk (.inr rfl) ⟨rfl, trivial⟩ trivial rfl ⟨PermP.sc, trivial⟩ trivial)
                        · refine AWR.skip ?_
                          refine AWR.seq ?_
                          refine AWR.region ?_
                          refine AOR.pure (LT.assign (v := (.s (.c (bC true)))) rfl) ⟨⟨rfl, rfl⟩, trivial⟩ trivial rfl rfl ?_
                          refine AOR.nil ?_
                          refine AWR.ret (FPost.mk (.inr rfl) ⟨rfl, trivial⟩ trivial rfl ⟨PermP.sc, trivial⟩ trivial)
set_option maxRecDepth 100000 in
set_option maxHeartbeats 8000000 in
theorem w_spec_CountBar (g : TGraph) (a : Int) (b : Int) : ∀ t, m_spec_CountBar g a b = some t → Fw.Fn Try.prog 69 [(.agg [(iC g.Points), (.pv (.xs false (g.Bars.map encTBar)))]), (.c (iC a)), (.c (iC b))] [] (.s (.c (iC t))) [] [] [] := by
  refine Fw.Fn.of (P := Try.prog) (X := []) (pn := []) (rs := (fun (t : Int) => [(.c (iC t))])) (dfs := (fun (t : Int) => [])) Try.func69 rfl Try.ntmps69 (Nat.le_of_ble_eq_true rfl) rfl ?_
  intro w0 U0 R0 g0
  unfold m_spec_CountBar
  refine AWR.seq ?_
  refine AWR.region ?_
  refine AOR.step (LT.box (n := 21) (v := (.agg [(iC g.Points), (.pv (.xs false (g.Bars.map encTBar)))])) rfl sz30 (by exact rfl)) ⟨rfl, trivial⟩ trivial rfl rfl ?_
  refine AOR.pure (LT.assign (v := (.s (.c (iC 0)))) rfl) ⟨⟨rfl, rfl⟩, trivial⟩ trivial rfl rfl ?_
  refine AOR.nil ?_
  refine AWR.seq ?_
  refine AWR.region ?_
  refine AOR.pure (LT.assign (v := (.s (.c (iC 0)))) rfl) ⟨⟨rfl, rfl⟩, trivial⟩ trivial rfl rfl ?_
  refine AOR.nil ?_
  refine AWR.seq ?_
  refine AWR.seq ?_
  refine AWR.region ?_
  refine AOR.pure (LT.assign (v := (.s (.c (iC 0)))) rfl) ⟨⟨rfl, rfl⟩, trivial⟩ trivial rfl rfl ?_
  refine AOR.nil ?_
  refine AWR.block ?_
  refine AWR.loop1 (id := 0) (m_spec_CountBar_L1 g a b) (fun s1 => ([(1, (.s (.c (iC a)))), (2, (.s (.c (iC b)))), (3, (.s (.c (.pl 21 0)))), (7, (.s (.c (iC s1.1)))), (8, (.s (.c (iC s1.2))))], [(21, (.row 30 [[(iC g.Points), (.pv (.xs false (g.Bars.map encTBar)))]]))])) (fun b52 => ([(7, (.s (.c (iC b52))))], [])) ?_ (Ent.of ⟨rfl, rfl, rfl, rfl, rfl, trivial⟩ ⟨rfl, trivial⟩) rfl (fun b52 _ => ?_)
  · intro s1
    unfold m_spec_CountBar_L1
    refine AWR.seq ?_
    refine AWR.seq ?_
    refine AWR.region ?_
    refine AOR.pure (LT.move (v := (.s (.c (iC s1.2)))) rfl) ⟨rfl, trivial⟩ trivial rfl rfl ?_
    refine AOR.pure (LT.fieldPl rfl fo30_1) ⟨rfl, trivial⟩ trivial rfl rfl ?_
    refine AOR.pure (LT.bload1 (c := (.pv (.xs false (g.Bars.map encTBar)))) rfl ag28 (by exact rfl)) ⟨rfl, trivial⟩ ⟨rfl, trivial⟩ rfl rfl ?_
    refine AOR.pure (LT.tlenRO rfl und28) ⟨rfl, trivial⟩ trivial rfl rfl ?_
    refine AOR.pure (LT.lss rfl) ⟨rfl, rfl, trivial⟩ trivial rfl rfl ?_
    refine AOR.nil ?_
    refine AWR.cond rfl (fun hc53 => ?_) (fun hc53 => ?_)
    · refine AWR.skip ?_
      refine AWR.seq ?_
      refine AWR.block ?_
      refine AWR.seq ?_
      refine AWR.joinK (fun j64 => ([(1, (.s (.c (iC a)))), (2, (.s (.c (iC b)))), (3, (.s (.c (.pl 21 0)))), (7, (.s (.c (iC s1.1)))), (8, (.s (.c (iC s1.2)))), (53, (.s (.c (bC j64))))], [(21, (.row 30 [[(iC g.Points), (.pv (.xs false (g.Bars.map encTBar)))]]))])) ?_ (fun j64 _ => ?_)
      · refine AWR.region ?_
        refine AOR.pure (LT.fieldPl rfl fo30_1) ⟨rfl, trivial⟩ trivial rfl rfl ?_
        refine AOR.pure (LT.bload1 (c := (.pv (.xs false (g.Bars.map encTBar)))) rfl ag28 (by exact rfl)) ⟨rfl, trivial⟩ ⟨rfl, trivial⟩ rfl rfl ?_
        refine AOR.pure (LT.move (v := (.s (.c (iC s1.2)))) rfl) ⟨rfl, trivial⟩ trivial rfl rfl ?_
        refine AOR.bind fun x65 hx65 => ?_
        refine AOR.pure (LT.tindexRO (enc := encTBar) rfl el28 hx65 sz88) ⟨rfl, rfl, trivial⟩ trivial rfl rfl ?_
        refine AOR.pure (LT.fieldPx rfl fo88_0) ⟨rfl, trivial⟩ trivial rfl rfl ?_
        refine AOR.pure (LT.loadPx1 rfl ag3) ⟨rfl, trivial⟩ trivial rfl rfl ?_
        refine AOR.pure (LT.move (v := (.s (.c (iC a)))) rfl) ⟨rfl, trivial⟩ trivial rfl rfl ?_
        refine AOR.pure (LT.eql rfl) ⟨rfl, rfl, trivial⟩ trivial rfl rfl ?_
        refine AOR.pure (LT.move (v := (.s (.c (bC (x65.A == a))))) rfl) ⟨rfl, trivial⟩ trivial rfl rfl ?_
        refine AOR.split (fun hb66 => ?_) (fun hb66 => ?_)
        · refine AOR.pure (LT.fieldPl rfl fo30_1) ⟨rfl, trivial⟩ trivial ⟨_, rfl, .inl ⟨_, rfl, (by rw [hb66]; rfl)⟩⟩ rfl ?_
          refine AOR.pure (LT.bload1 (c := (.pv (.xs false (g.Bars.map encTBar)))) rfl ag28 (by exact rfl)) ⟨rfl, trivial⟩ ⟨rfl, trivial⟩ ⟨_, rfl, .inl ⟨_, rfl, (by rw [hb66]; rfl)⟩⟩ rfl ?_
          refine AOR.pure (LT.move (v := (.s (.c (iC s1.2)))) rfl) ⟨rfl, trivial⟩ trivial ⟨_, rfl, .inl ⟨_, rfl, (by rw [hb66]; rfl)⟩⟩ rfl ?_
          refine AOR.bind fun x67 hx67 => ?_
          refine AOR.pure (LT.tindexRO (enc := encTBar) rfl el28 hx67 sz88) ⟨rfl, rfl, trivial⟩ trivial ⟨_, rfl, .inl ⟨_, rfl, (by rw [hb66]; rfl)⟩⟩ rfl ?_
          refine AOR.pure (LT.fieldPx rfl fo88_1) ⟨rfl, trivial⟩ trivial ⟨_, rfl, .inl ⟨_, rfl, (by rw [hb66]; rfl)⟩⟩ rfl ?_
          refine AOR.pure (LT.loadPx1 rfl ag3) ⟨rfl, trivial⟩ trivial ⟨_, rfl, .inl ⟨_, rfl, (by rw [hb66]; rfl)⟩⟩ rfl ?_
          refine AOR.pure (LT.move (v := (.s (.c (iC b)))) rfl) ⟨rfl, trivial⟩ trivial ⟨_, rfl, .inl ⟨_, rfl, (by rw [hb66]; rfl)⟩⟩ rfl ?_
          refine AOR.pure (LT.eql rfl) ⟨rfl, rfl, trivial⟩ trivial ⟨_, rfl, .inl ⟨_, rfl, (by rw [hb66]; rfl)⟩⟩ rfl ?_
          refine AOR.pure (LT.pickT (v := (.s (.c (bC (x67.B == b))))) rfl hb66) ⟨rfl, rfl, trivial⟩ trivial rfl rfl ?_
          refine AOR.pure (LT.move (v := (.s (.c (bC (x67.B == b))))) rfl) ⟨rfl, trivial⟩ trivial rfl rfl ?_
          refine AOR.split (fun hb68 => ?_) (fun hb68 => ?_)
          · refine AOR.skip ⟨_, rfl, .inl ⟨_, rfl, (by rw [hb68]; rfl)⟩⟩ rfl ?_
            refine AOR.skip ⟨_, rfl, .inl ⟨_, rfl, (by rw [hb68]; rfl)⟩⟩ rfl ?_
            refine AOR.skip ⟨_, rfl, .inl ⟨_, rfl, (by rw [hb68]; rfl)⟩⟩ rfl ?_
            refine AOR.skip ⟨_, rfl, .inl ⟨_, rfl, (by rw [hb68]; rfl)⟩⟩ rfl ?_
            refine AOR.skip ⟨_, rfl, .inl ⟨_, rfl, (by rw [hb68]; rfl)⟩⟩ rfl ?_
            refine AOR.skip ⟨_, rfl, .inl ⟨_, rfl, (by rw [hb68]; rfl)⟩⟩ rfl ?_
            refine AOR.skip ⟨_, rfl, .inl ⟨_, rfl, (by rw [hb68]; rfl)⟩⟩ rfl ?_
            refine AOR.skip ⟨_, rfl, .inl ⟨_, rfl, (by rw [hb68]; rfl)⟩⟩ rfl ?_
            refine AOR.skip ⟨_, rfl, .inl ⟨_, rfl, (by rw [hb68]; rfl)⟩⟩ rfl ?_
            refine AOR.skip ⟨_, rfl, .inr ⟨rfl, rfl⟩⟩ rfl ?_
            refine AOR.skip ⟨_, rfl, .inr ⟨rfl, rfl⟩⟩ rfl ?_
            refine AOR.skip ⟨_, rfl, .inr ⟨rfl, rfl⟩⟩ rfl ?_
            refine AOR.skip ⟨_, rfl, .inr ⟨rfl, rfl⟩⟩ rfl ?_
            refine AOR.skip ⟨_, rfl, .inr ⟨rfl, rfl⟩⟩ rfl ?_
            refine AOR.skip ⟨_, rfl, .inr ⟨rfl, rfl⟩⟩ rfl ?_
            refine AOR.skip ⟨_, rfl, .inr ⟨rfl, rfl⟩⟩ rfl ?_
            refine AOR.skip ⟨_, rfl, .inr ⟨rfl, rfl⟩⟩ rfl ?_
            refine AOR.skip ⟨_, rfl, .inl ⟨_, rfl, (by rw [hb68]; rfl)⟩⟩ rfl ?_
            refine AOR.pure (LT.pickT (v := (.s (.c (bC true)))) rfl hb68) ⟨rfl, ⟨rfl, rfl⟩, trivial⟩ trivial rfl rfl ?_
            refine AOR.nil ?_
            refine AWR.nil ⟨rfl, Ent.of ⟨rfl, rfl, rfl, rfl, rfl, rfl, trivial⟩ ⟨rfl, trivial⟩⟩
          · refine AOR.pure (LT.fieldPl rfl fo30_1) ⟨rfl, trivial⟩ trivial ⟨_, rfl, .inl ⟨_, rfl, (by rw [hb68]; rfl)⟩⟩ rfl ?_
            refine AOR.pure (LT.bload1 (c := (.pv (.xs false (g.Bars.map encTBar)))) rfl ag28 (by exact rfl)) ⟨rfl, trivial⟩ ⟨rfl, trivial⟩ ⟨_, rfl, .inl ⟨_, rfl, (by rw [hb68]; rfl)⟩⟩ rfl ?_
            refine AOR.pure (LT.move (v := (.s (.c (iC s1.2)))) rfl) ⟨rfl, trivial⟩ trivial ⟨_, rfl, .inl ⟨_, rfl, (by rw [hb68]; rfl)⟩⟩ rfl ?_
            refine AOR.bind fun x69 hx69 => ?_
            refine AOR.pure (LT.tindexRO (enc := encTBar) rfl el28 hx69 sz88) ⟨rfl, rfl, trivial⟩ trivial ⟨_, rfl, .inl ⟨_, rfl, (by rw [hb68]; rfl)⟩⟩ rfl ?_
            refine AOR.pure (LT.fieldPx rfl fo88_0) ⟨rfl, trivial⟩ trivial ⟨_, rfl, .inl ⟨_, rfl, (by rw [hb68]; rfl)⟩⟩ rfl ?_
            refine AOR.pure (LT.loadPx1 rfl ag3) ⟨rfl, trivial⟩ trivial ⟨_, rfl, .inl ⟨_, rfl, (by rw [hb68]; rfl)⟩⟩ rfl ?_
            refine AOR.pure (LT.move (v := (.s (.c (iC b)))) rfl) ⟨rfl, trivial⟩ trivial ⟨_, rfl, .inl ⟨_, rfl, (by rw [hb68]; rfl)⟩⟩ rfl ?_
            refine AOR.pure (LT.eql rfl) ⟨rfl, rfl, trivial⟩ trivial ⟨_, rfl, .inl ⟨_, rfl, (by rw [hb68]; rfl)⟩⟩ rfl ?_
            refine AOR.pure (LT.move (v := (.s (.c (bC (x69.A == b))))) rfl) ⟨rfl, trivial⟩ trivial ⟨_, rfl, .inl ⟨_, rfl, (by rw [hb68]; rfl)⟩⟩ rfl ?_
            refine AOR.split (fun hb70 => ?_) (fun hb70 => ?_)
            · refine AOR.pure (LT.fieldPl rfl fo30_1) ⟨rfl, trivial⟩ trivial ⟨_, rfl, .inl ⟨_, rfl, (by rw [hb70]; rfl)⟩⟩ rfl ?_
              refine AOR.pure (LT.bload1 (c := (.pv (.xs false (g.Bars.map encTBar)))) rfl ag28 (by exact rfl)) ⟨rfl, trivial⟩ ⟨rfl, trivial⟩ ⟨_, rfl, .inl ⟨_, rfl, (by rw [hb70]; rfl)⟩⟩ rfl ?_
              refine AOR.pure (LT.move (v := (.s (.c (iC s1.2)))) rfl) ⟨rfl, trivial⟩ trivial ⟨_, rfl, .inl ⟨_, rfl, (by rw [hb70]; rfl)⟩⟩ rfl ?_
              refine AOR.bind fun x71 hx71 => ?_
              refine AOR.pure (LT.tindexRO (enc := encTBar) rfl el28 hx71 sz88) ⟨rfl, rfl, trivial⟩ trivial ⟨_, rfl, .inl ⟨_, rfl, (by rw [hb70]; rfl)⟩⟩ rfl ?_
              refine AOR.pure (LT.fieldPx rfl fo88_1) ⟨rfl, trivial⟩ trivial ⟨_, rfl, .inl ⟨_, rfl, (by rw [hb70]; rfl)⟩⟩ rfl ?_
              refine AOR.pure (LT.loadPx1 rfl ag3) ⟨rfl, trivial⟩ trivial ⟨_, rfl, .inl ⟨_, rfl, (by rw [hb70]; rfl)⟩⟩ rfl ?_
              refine AOR.pure (LT.move (v := (.s (.c (iC a)))) rfl) ⟨rfl, trivial⟩ trivial ⟨_, rfl, .inl ⟨_, rfl, (by rw [hb70]; rfl)⟩⟩ rfl ?_
              refine AOR.pure (LT.eql rfl) ⟨rfl, rfl, trivial⟩ trivial ⟨_, rfl, .inl ⟨_, rfl, (by rw [hb70]; rfl)⟩⟩ rfl ?_
              refine AOR.pure (LT.pickT (v := (.s (.c (bC (x71.B == a))))) rfl hb70) ⟨rfl, rfl, trivial⟩ trivial ⟨_, rfl, .inl ⟨_, rfl, (by rw [hb68]; rfl)⟩⟩ rfl ?_
              refine AOR.pure (LT.pickF (v := (.s (.c (bC (x71.B == a))))) rfl hb68) ⟨rfl, rfl, trivial⟩ trivial rfl rfl ?_
              refine AOR.nil ?_
              refine AWR.nil ⟨rfl, Ent.of ⟨rfl, rfl, rfl, rfl, rfl, rfl, trivial⟩ ⟨rfl, trivial⟩⟩
            · refine AOR.skip ⟨_, rfl, .inl ⟨_, rfl, (by rw [hb70]; rfl)⟩⟩ rfl ?_
              refine AOR.skip ⟨_, rfl, .inl ⟨_, rfl, (by rw [hb70]; rfl)⟩⟩ rfl ?_
              refine AOR.skip ⟨_, rfl, .inl ⟨_, rfl, (by rw [hb70]; rfl)⟩⟩ rfl ?_
              refine AOR.skip ⟨_, rfl, .inl ⟨_, rfl, (by rw [hb70]; rfl)⟩⟩ rfl ?_
              refine AOR.skip ⟨_, rfl, .inl ⟨_, rfl, (by rw [hb70]; rfl)⟩⟩ rfl ?_
              refine AOR.skip ⟨_, rfl, .inl ⟨_, rfl, (by rw [hb70]; rfl)⟩⟩ rfl ?_
              refine AOR.skip ⟨_, rfl, .inl ⟨_, rfl, (by rw [hb70]; rfl)⟩⟩ rfl ?_
              refine AOR.skip ⟨_, rfl, .inl ⟨_, rfl, (by rw [hb70]; rfl)⟩⟩ rfl ?_
              refine AOR.pure (LT.pickF (v := (.s (.c (bC false)))) rfl hb70) ⟨rfl, ⟨rfl, rfl⟩, trivial⟩ trivial ⟨_, rfl, .inl ⟨_, rfl, (by rw [hb68]; rfl)⟩⟩ rfl ?_
              refine AOR.pure (LT.pickF (v := (.s (.c (bC false)))) rfl hb68) ⟨rfl, rfl, trivial⟩ trivial rfl rfl ?_
              refine AOR.nil ?_
              refine AWR.nil ⟨rfl, Ent.of ⟨rfl, rfl, rfl, rfl, rfl, rfl, trivial⟩ ⟨rfl, trivial⟩⟩
        · refine AOR.skip ⟨_, rfl, .inl ⟨_, rfl, (by rw [hb66]; rfl)⟩⟩ rfl ?_
          refine AOR.skip ⟨_, rfl, .inl ⟨_, rfl, (by rw [hb66]; rfl)⟩⟩ rfl ?_
          refine AOR.skip ⟨_, rfl, .inl ⟨_, rfl, (by rw [hb66]; rfl)⟩⟩ rfl ?_
          refine AOR.skip ⟨_, rfl, .inl ⟨_, rfl, (by rw [hb66]; rfl)⟩⟩ rfl ?_
          refine AOR.skip ⟨_, rfl, .inl ⟨_, rfl, (by rw [hb66]; rfl)⟩⟩ rfl ?_
          refine AOR.skip ⟨_, rfl, .inl ⟨_, rfl, (by rw [hb66]; rfl)⟩⟩ rfl ?_
          refine AOR.skip ⟨_, rfl, .inl ⟨_, rfl, (by rw [hb66]; rfl)⟩⟩ rfl ?_
          refine AOR.skip ⟨_, rfl, .inl ⟨_, rfl, (by rw [hb66]; rfl)⟩⟩ rfl ?_
          refine AOR.pure (LT.pickF (v := (.s (.c (bC false)))) rfl hb66) ⟨rfl, ⟨rfl, rfl⟩, trivial⟩ trivial rfl rfl ?_
          refine AOR.pure (LT.move (v := (.s (.c (bC false)))) rfl) ⟨rfl, trivial⟩ trivial rfl rfl ?_
          refine AOR.pure (LT.fieldPl rfl fo30_1) ⟨rfl, trivial⟩ trivial ⟨_, rfl, .inl ⟨_, rfl, rfl⟩⟩ rfl ?_
          refine AOR.pure (LT.bload1 (c := (.pv (.xs false (g.Bars.map encTBar)))) rfl ag28 (by exact rfl)) ⟨rfl, trivial⟩ ⟨rfl, trivial⟩ ⟨_, rfl, .inl ⟨_, rfl, rfl⟩⟩ rfl ?_
          refine AOR.pure (LT.move (v := (.s (.c (iC s1.2)))) rfl) ⟨rfl, trivial⟩ trivial ⟨_, rfl, .inl ⟨_, rfl, rfl⟩⟩ rfl ?_
          refine AOR.bind fun x72 hx72 => ?_
          refine AOR.pure (LT.tindexRO (enc := encTBar) rfl el28 hx72 sz88) ⟨rfl, rfl, trivial⟩ trivial ⟨_, rfl, .inl ⟨_, rfl, rfl⟩⟩ rfl ?_
          refine AOR.pure (LT.fieldPx rfl fo88_0) ⟨rfl, trivial⟩ trivial ⟨_, rfl, .inl ⟨_, rfl, rfl⟩⟩ rfl ?_
          refine AOR.pure (LT.loadPx1 rfl ag3) ⟨rfl, trivial⟩ trivial ⟨_, rfl, .inl ⟨_, rfl, rfl⟩⟩ rfl ?_
          refine AOR.pure (LT.move (v := (.s (.c (iC b)))) rfl) ⟨rfl, trivial⟩ trivial ⟨_, rfl, .inl ⟨_, rfl, rfl⟩⟩ rfl ?_
          refine AOR.pure (LT.eql rfl) ⟨rfl, rfl, trivial⟩ trivial ⟨_, rfl, .inl ⟨_, rfl, rfl⟩⟩ rfl ?_
          refine AOR.pure (LT.move (v := (.s (.c (bC (x72.A == b))))) rfl) ⟨rfl, trivial⟩ trivial ⟨_, rfl, .inl ⟨_, rfl, rfl⟩⟩ rfl ?_
          refine AOR.split (fun hb73 => ?_) (fun hb73 => ?_)
          · refine AOR.pure (LT.fieldPl rfl fo30_1) ⟨rfl, trivial⟩ trivial ⟨_, rfl, .inl ⟨_, rfl, (by rw [hb73]; rfl)⟩⟩ rfl ?_
            refine AOR.pure (LT.bload1 (c := (.pv (.xs false (g.Bars.map encTBar)))) rfl ag28 (by exact rfl)) ⟨rfl, trivial⟩ ⟨rfl, trivial⟩ ⟨_, rfl, .inl ⟨_, rfl, (by rw [hb73]; rfl)⟩⟩ rfl ?_
            refine AOR.pure (LT.move (v := (.s (.c (iC s1.2)))) rfl) ⟨rfl, trivial⟩ trivial ⟨_, rfl, .inl ⟨_, rfl, (by rw [hb73]; rfl)⟩⟩ rfl ?_
            refine AOR.bind fun x74 hx74 => ?_
            refine AOR.pure (LT.tindexRO (enc := encTBar) rfl el28 hx74 sz88) ⟨rfl, rfl, trivial⟩ trivial ⟨_, rfl, .inl ⟨_, rfl, (by rw [hb73]; rfl)⟩⟩ rfl ?_
            refine AOR.pure (LT.fieldPx rfl fo88_1) ⟨rfl, trivial⟩ trivial ⟨_, rfl, .inl ⟨_, rfl, (by rw [hb73]; rfl)⟩⟩ rfl ?_
            refine AOR.pure (LT.loadPx1 rfl ag3) ⟨rfl, trivial⟩ trivial ⟨_, rfl, .inl ⟨_, rfl, (by rw [hb73]; rfl)⟩⟩ rfl ?_
            refine AOR.pure (LT.move (v := (.s (.c (iC a)))) rfl) ⟨rfl, trivial⟩ trivial ⟨_, rfl, .inl ⟨_, rfl, (by rw [hb73]; rfl)⟩⟩ rfl ?_
            refine AOR.pure (LT.eql rfl) ⟨rfl, rfl, trivial⟩ trivial ⟨_, rfl, .inl ⟨_, rfl, (by rw [hb73]; rfl)⟩⟩ rfl ?_
            refine AOR.pure (LT.pickT (v := (.s (.c (bC (x74.B == a))))) rfl hb73) ⟨rfl, rfl, trivial⟩ trivial ⟨_, rfl, .inl ⟨_, rfl, rfl⟩⟩ rfl ?_
            refine AOR.pure (LT.pickF (v := (.s (.c (bC (x74.B == a))))) rfl rfl) ⟨rfl, rfl, trivial⟩ trivial rfl rfl ?_
            refine AOR.nil ?_
            refine AWR.nil ⟨rfl, Ent.of ⟨rfl, rfl, rfl, rfl, rfl, rfl, trivial⟩ ⟨rfl, trivial⟩⟩
          · refine AOR.skip ⟨_, rfl, .inl ⟨_, rfl, (by rw [hb73]; rfl)⟩⟩ rfl ?_
            refine AOR.skip ⟨_, rfl, .inl ⟨_, rfl, (by rw [hb73]; rfl)⟩⟩ rfl ?_
            refine AOR.skip ⟨_, rfl, .inl ⟨_, rfl, (by rw [hb73]; rfl)⟩⟩ rfl ?_
            refine AOR.skip ⟨_, rfl, .inl ⟨_, rfl, (by rw [hb73]; rfl)⟩⟩ rfl ?_
            refine AOR.skip ⟨_, rfl, .inl ⟨_, rfl, (by rw [hb73]; rfl)⟩⟩ rfl ?_
            refine AOR.skip ⟨_, rfl, .inl ⟨_, rfl, (by rw [hb73]; rfl)⟩⟩ rfl ?_
            refine AOR.skip ⟨_, rfl, .inl ⟨_, rfl, (by rw [hb73]; rfl)⟩⟩ rfl ?_
            refine AOR.skip ⟨_, rfl, .inl ⟨_, rfl, (by rw [hb73]; rfl)⟩⟩ rfl ?_
            refine AOR.pure (LT.pickF (v := (.s (.c (bC false)))) rfl hb73) ⟨rfl, ⟨rfl, rfl⟩, trivial⟩ trivial ⟨_, rfl, .inl ⟨_, rfl, rfl⟩⟩ rfl ?_
            refine AOR.pure (LT.pickF (v := (.s (.c (bC false)))) rfl rfl) ⟨rfl, rfl, trivial⟩ trivial rfl rfl ?_
            refine AOR.nil ?_
            refine AWR.nil ⟨rfl, Ent.of ⟨rfl, rfl, rfl, rfl, rfl, rfl, trivial⟩ ⟨rfl, trivial⟩⟩
      · refine AWR.joinK (fun j76 => ([(1, (.s (.c (iC a)))), (2, (.s (.c (iC b)))), (3, (.s (.c (.pl 21 0)))), (7, (.s (.c (iC j76)))), (8, (.s (.c (iC s1.2))))], [(21, (.row 30 [[(iC g.Points), (.pv (.xs false (g.Bars.map encTBar)))]]))])) ?_ (fun j76 _ => ?_)
        · refine AWR.cond rfl (fun hc77 => ?_) (fun hc77 => ?_)
          · refine AWR.region ?_
            refine AOR.pure (LT.move (v := (.s (.c (iC s1.1)))) rfl) ⟨rfl, trivial⟩ trivial rfl rfl ?_
            refine AOR.pure (LT.add rfl) ⟨rfl, ⟨rfl, rfl⟩, trivial⟩ trivial rfl rfl ?_
            refine AOR.pure (LT.assign (v := (.s (.c (iC (w64 (s1.1 + 1)))))) rfl) ⟨rfl, trivial⟩ trivial rfl rfl ?_
            refine AOR.nil ?_
            refine AWR.nil ⟨rfl, Ent.of ⟨rfl, rfl, rfl, rfl, rfl, trivial⟩ ⟨rfl, trivial⟩⟩
          · refine AWR.skip ?_
            refine AWR.nil ⟨rfl, Ent.of ⟨rfl, rfl, rfl, rfl, rfl, trivial⟩ ⟨rfl, trivial⟩⟩
        · refine AWR.blk ?_
          refine AWR.region ?_
          refine AOR.pure (LT.move (v := (.s (.c (iC s1.2)))) rfl) ⟨rfl, trivial⟩ trivial rfl rfl ?_
          refine AOR.pure (LT.add rfl) ⟨rfl, ⟨rfl, rfl⟩, trivial⟩ trivial rfl rfl ?_
          refine AOR.pure (LT.assign (v := (.s (.c (iC (w64 (s1.2 + 1)))))) rfl) ⟨rfl, trivial⟩ trivial rfl rfl ?_
          refine AOR.nil ?_
          refine AWR.nil ⟨rfl, Ent.of ⟨rfl, rfl, rfl, rfl, rfl, trivial⟩ ⟨rfl, trivial⟩⟩
    · refine AWR.exit_end rfl ⟨rfl, Ent.of ⟨rfl, trivial⟩ trivial⟩
  · refine AWR.seq ?_
    refine AWR.region ?_
    refine AOR.pure (LT.move (v := (.s (.c (iC b52)))) rfl) ⟨rfl, trivial⟩ trivial rfl rfl ?_
    refine AOR.pure (LT.assign (v := (.s (.c (iC b52)))) rfl) ⟨rfl, trivial⟩ trivial rfl rfl ?_
    refine AOR.nil ?_
    refine AWR.ret (FPost.mk (.inr rfl) ⟨rfl, trivial⟩ trivial rfl ⟨PermP.sc, trivial⟩ trivial)
set_option maxRecDepth 100000 in
set_option maxHeartbeats 8000000 in
theorem w_spec_MissingBars (g : TGraph) : ∀ t, m_spec_MissingBars g = some t → Fw.Fn Try.prog 24 [(.agg [(iC g.Points), (.pv (.xs false (g.Bars.map encTBar)))])] [] (.s (.c (.loc 0 0 t.length))) [(0, (.prow 88 (t.map encTBar)))] [] [0] := by
  refine Fw.Fn.of (P := Try.prog) (X := [0]) (pn := []) (rs := (fun (t : (List TBar)) => [(.c (.loc 0 0 t.length))])) (dfs := (fun (t : (List TBar)) => [(0, (.prow 88 (t.map encTBar)))])) Try.func24 rfl Try.ntmps24 (Nat.le_of_ble_eq_true rfl) rfl ?_
  intro w0 U0 R0 g0
  unfold m_spec_MissingBars
  refine AWR.seq ?_
  refine AWR.region ?_
  refine AOR.step (LT.box (n := 21) (v := (.agg [(iC g.Points), (.pv (.xs false (g.Bars.map encTBar)))])) rfl sz30 (by exact rfl)) ⟨rfl, trivial⟩ trivial rfl rfl ?_
  refine AOR.pure (LT.assign (v := (.s (.c (sC nilV)))) rfl) ⟨⟨rfl, rfl⟩, trivial⟩ trivial rfl rfl ?_
  refine AOR.nil ?_
  refine AWR.seq ?_
  refine AWR.region ?_
  refine AOR.step (LT.tbuildSlice (n := 22) (enc := encTBar) [] ([] : List TBar) rfl rfl und28 ti88 rfl rfl rfl rfl (by decide) (fun _ => rfl) rfl) trivial trivial rfl rfl ?_
  refine AOR.pure (LT.assign (v := (.s (.c (.loc 22 0 ([] : List TBar).length)))) rfl) ⟨rfl, trivial⟩ trivial rfl rfl ?_
  refine AOR.nil ?_
  refine AWR.seq ?_
  refine AWR.seq ?_
  refine AWR.region ?_
  refine AOR.pure (LT.assign (v := (.s (.c (iC 0)))) rfl) ⟨⟨rfl, rfl⟩, trivial⟩ trivial rfl rfl ?_
  refine AOR.nil ?_
  refine AWR.block ?_
  refine AWR.loop1 (id := 0) (m_spec_MissingBars_L3 g) (fun s1 => ([(1, (.s (.c (.pl 21 0)))), (3, (.s (.c (.loc 22 0 s1.2.length)))), (4, (.s (.c (iC s1.1))))], [(21, (.row 30 [[(iC g.Points), (.pv (.xs false (g.Bars.map encTBar)))]])), (22, (.prow 88 (s1.2.map encTBar)))])) (fun b46 => ([(3, (.s (.c (.loc 22 0 b46.length))))], [(22, (.prow 88 (b46.map encTBar)))])) ?_ (Ent.of ⟨rfl, rfl, rfl, trivial⟩ ⟨rfl, rfl, trivial⟩) rfl (fun b46 _ => ?_)
  · intro s1
    unfold m_spec_MissingBars_L3
    refine AWR.seq ?_
    refine AWR.seq ?_
    refine AWR.joinK (fun j49 => ([(1, (.s (.c (.pl 21 0)))), (3, (.s (.c (.loc 22 0 s1.2.length)))), (4, (.s (.c (iC s1.1)))), (14, (.s (.c (bC j49))))], [(21, (.row 30 [[(iC g.Points), (.pv (.xs false (g.Bars.map encTBar)))]])), (22, (.prow 88 (s1.2.map encTBar)))])) ?_ (fun j49 _ => ?_)
    · refine AWR.region ?_
      refine AOR.pure (LT.move (v := (.s (.c (iC s1.1)))) rfl) ⟨rfl, trivial⟩ trivial rfl rfl ?_
      refine AOR.pure (LT.fieldPl rfl fo30_0) ⟨rfl, trivial⟩ trivial rfl rfl ?_
      refine AOR.pure (LT.bload1 (c := (iC g.Points)) rfl ag3 (by exact rfl)) ⟨rfl, trivial⟩ ⟨rfl, trivial⟩ rfl rfl ?_
      refine AOR.pure (LT.lss rfl) ⟨rfl, rfl, trivial⟩ trivial rfl rfl ?_
      refine AOR.pure (LT.move (v := (.s (.c (bC (decide (s1.1 < g.Points)))))) rfl) ⟨rfl, trivial⟩ trivial rfl rfl ?_
      refine AOR.split (fun hb50 => ?_) (fun hb50 => ?_)
      · refine AOR.pure (LT.bloadN (out := [(iC g.Points), (.pv (.xs false (g.Bars.map encTBar)))]) rfl ag30 (infS inf30) sz30 (by exact rfl) (by exact rfl)) ⟨rfl, trivial⟩ ⟨rfl, trivial⟩ ⟨_, rfl, .inl ⟨_, rfl, (by rw [hb50]; rfl)⟩⟩ rfl ?_
        refine AOR.bind fun r51 hr51 => ?_
        refine AOR.pure (@LT.callF Try.prog _ _ 66 _ _ [(.agg [(iC g.Points), (.pv (.xs false (g.Bars.map encTBar)))])] _ _ [] _ _ _ _ (w_spec_IsGraph g r51 hr51) rfl cb66 (.cons (.agg (.cons (.same rfl) (.cons (.same rfl) .nil))) .nil) rfl rfl trivial) ⟨rfl, rfl, trivial⟩ trivial ⟨_, rfl, .inl ⟨_, rfl, (by rw [hb50]; rfl)⟩⟩ rfl ?_
        refine AOR.pure (LT.pickT (v := (.s (.c (bC r51)))) rfl hb50) ⟨rfl, rfl, trivial⟩ trivial rfl rfl ?_
        refine AOR.nil ?_
        refine AWR.nil ⟨rfl, Ent.of ⟨rfl, rfl, rfl, rfl, trivial⟩ ⟨rfl, rfl, trivial⟩⟩
      · refine AOR.skip ⟨_, rfl, .inl ⟨_, rfl, (by rw [hb50]; rfl)⟩⟩ rfl ?_
        refine AOR.skip ⟨_, rfl, .inl ⟨_, rfl, (by rw [hb50]; rfl)⟩⟩ rfl ?_
        refine AOR.pure (LT.pickF (v := (.s (.c (bC false)))) rfl hb50) ⟨rfl, ⟨rfl, rfl⟩, trivial⟩ trivial rfl rfl ?_
        refine AOR.nil ?_
        refine AWR.nil ⟨rfl, Ent.of ⟨rfl, rfl, rfl, rfl, trivial⟩ ⟨rfl, rfl, trivial⟩⟩
    · refine AWR.cond rfl (fun hc52 => ?_) (fun hc52 => ?_)
      · refine AWR.skip ?_
        refine AWR.seq ?_
        refine AWR.block ?_
        refine AWR.seq ?_
        refine AWR.region ?_
        refine AOR.pure (LT.move (v := (.s (.c (iC s1.1)))) rfl) ⟨rfl, trivial⟩ trivial rfl rfl ?_
        refine AOR.pure (LT.add rfl) ⟨rfl, ⟨rfl, rfl⟩, trivial⟩ trivial rfl rfl ?_
        refine AOR.pure (LT.assign (v := (.s (.c (iC (w64 (s1.1 + 1)))))) rfl) ⟨rfl, trivial⟩ trivial rfl rfl ?_
        refine AOR.nil ?_
        refine AWR.block ?_
        refine AWR.loop1 (id := 2) (m_spec_MissingBars_L4 g s1) (fun s53 => ([(1, (.s (.c (.pl 21 0)))), (3, (.s (.c (.loc 22 0 s53.2.length)))), (4, (.s (.c (iC s1.1)))), (5, (.s (.c (iC s53.1))))], [(21, (.row 30 [[(iC g.Points), (.pv (.xs false (g.Bars.map encTBar)))]])), (22, (.prow 88 (s53.2.map encTBar)))])) (fun b68 => ([(1, (.s (.c (.pl 21 0)))), (3, (.s (.c (.loc 22 0 b68.2.length)))), (4, (.s (.c (iC b68.1))))], [(21, (.row 30 [[(iC g.Points), (.pv (.xs false (g.Bars.map encTBar)))]])), (22, (.prow 88 (b68.2.map encTBar)))])) ?_ (Ent.of ⟨rfl, rfl, rfl, rfl, trivial⟩ ⟨rfl, rfl, trivial⟩) rfl (fun b68 _ => ?_)
        · intro s53
          unfold m_spec_MissingBars_L4
          refine AWR.seq ?_
          refine AWR.seq ?_
          refine AWR.region ?_
          refine AOR.pure (LT.move (v := (.s (.c (iC s53.1)))) rfl) ⟨rfl, trivial⟩ trivial rfl rfl ?_
          refine AOR.pure (LT.fieldPl rfl fo30_0) ⟨rfl, trivial⟩ trivial rfl rfl ?_
          refine AOR.pure (LT.bload1 (c := (iC g.Points)) rfl ag3 (by exact rfl)) ⟨rfl, trivial⟩ ⟨rfl, trivial⟩ rfl rfl ?_
          refine AOR.pure (LT.lss rfl) ⟨rfl, rfl, trivial⟩ trivial rfl rfl ?_
          refine AOR.nil ?_
          refine AWR.cond rfl (fun hc69 => ?_) (fun hc69 => ?_)
          · refine AWR.skip ?_
            refine AWR.seq ?_
            refine AWR.block ?_
            refine AWR.seq ?_
            refine AWR.region ?_
            refine AOR.pure (LT.bloadN (out := [(iC g.Points), (.pv (.xs false (g.Bars.map encTBar)))]) rfl ag30 (infS inf30) sz30 (by exact rfl) (by exact rfl)) ⟨rfl, trivial⟩ ⟨rfl, trivial⟩ rfl rfl ?_
            refine AOR.pure (LT.move (v := (.s (.c (iC s1.1)))) rfl) ⟨rfl, trivial⟩ trivial rfl rfl ?_
            refine AOR.pure (LT.move (v := (.s (.c (iC s53.1)))) rfl) ⟨rfl, trivial⟩ trivial rfl rfl ?_
            refine AOR.bind fun r70 hr70 => ?_
            refine AOR.pure (@LT.callF Try.prog _ _ 69 _ _ [(.agg [(iC g.Points), (.pv (.xs false (g.Bars.map encTBar)))]), (.c (iC s1.1)), (.c (iC s53.1))] _ _ [] _ _ _ _ (w_spec_CountBar g s1.1 s53.1 r70 hr70) rfl cb69 (.cons (.agg (.cons (.same rfl) (.cons (.same rfl) .nil))) (.cons (.c (.same rfl)) (.cons (.c (.same rfl)) .nil))) rfl rfl trivial) ⟨rfl, rfl, rfl, rfl, trivial⟩ trivial rfl rfl ?_
            refine AOR.pure (LT.eql rfl) ⟨rfl, ⟨rfl, rfl⟩, trivial⟩ trivial rfl rfl ?_
            refine AOR.nil ?_
            refine AWR.joinK (fun j73 => ([(1, (.s (.c (.pl 21 0)))), (3, (.s (.c (.loc 22 0 j73.length)))), (4, (.s (.c (iC s1.1)))), (5, (.s (.c (iC s53.1))))], [(21, (.row 30 [[(iC g.Points), (.pv (.xs false (g.Bars.map encTBar)))]])), (22, (.prow 88 (j73.map encTBar)))])) ?_ (fun j73 _ => ?_)
            · refine AWR.cond rfl (fun hc74 => ?_) (fun hc74 => ?_)
              · refine AWR.region ?_
                refine AOR.pure (LT.move (v := (.s (.c (.loc 22 0 s53.2.length)))) rfl) ⟨rfl, trivial⟩ trivial rfl rfl ?_
                refine AOR.pure (LT.move (v := (.s (.c (iC s1.1)))) rfl) ⟨rfl, trivial⟩ trivial rfl rfl ?_
                refine AOR.pure (LT.move (v := (.s (.c (iC s53.1)))) rfl) ⟨rfl, trivial⟩ trivial rfl rfl ?_
                refine AOR.pure (LT.build [(0, .tmp 31, (.c (iC s1.1))), (1, .tmp 32, (.c (iC s53.1)))] rfl rfl pl88 ti88 rfl rfl rfl) ⟨rfl, rfl, trivial⟩ trivial rfl rfl ?_
                refine AOR.step (LT.tbuildSlice (n := 25) (enc := encTBar) [(0, .tmp 33, (.agg [(iC s1.1), (iC s53.1)]))] [(TBar.mk s1.1 s53.1)] rfl rfl und28 ti88 rfl rfl rfl rfl (by decide) (fun _ => rfl) rfl) ⟨rfl, trivial⟩ trivial rfl rfl ?_
                refine AOR.bind fun u75 hu75 => ?_
                refine AOR.step (LT.tappP (enc := encTBar) rfl rfl rfl und28 ti88 rfl (by decide) (by decide) (fun _ => rfl) (lim_le hu75)) ⟨rfl, rfl, trivial⟩ ⟨rfl, rfl, trivial⟩ rfl rfl ?_
                refine AOR.pure (LT.assign (v := (.s (.c (.loc 22 0 (s53.2 ++ [(TBar.mk s1.1 s53.1)]).length)))) rfl) ⟨rfl, trivial⟩ trivial rfl rfl ?_
                refine AOR.nil ?_
                refine AWR.nil ⟨rfl, Ent.of ⟨rfl, rfl, rfl, rfl, trivial⟩ ⟨rfl, rfl, trivial⟩⟩
              · refine AWR.skip ?_
                refine AWR.nil ⟨rfl, Ent.of ⟨rfl, rfl, rfl, rfl, trivial⟩ ⟨rfl, rfl, trivial⟩⟩
            · refine AWR.blk ?_
              refine AWR.region ?_
              refine AOR.pure (LT.move (v := (.s (.c (iC s53.1)))) rfl) ⟨rfl, trivial⟩ trivial rfl rfl ?_
              refine AOR.pure (LT.add rfl) ⟨rfl, ⟨rfl, rfl⟩, trivial⟩ trivial rfl rfl ?_
              refine AOR.pure (LT.assign (v := (.s (.c (iC (w64 (s53.1 + 1)))))) rfl) ⟨rfl, trivial⟩ trivial rfl rfl ?_
              refine AOR.nil ?_
              refine AWR.nil ⟨rfl, Ent.of ⟨rfl, rfl, rfl, rfl, trivial⟩ ⟨rfl, rfl, trivial⟩⟩
          · refine AWR.exit_end rfl ⟨rfl, Ent.of ⟨rfl, rfl, rfl, trivial⟩ ⟨rfl, rfl, trivial⟩⟩
        · refine AWR.blk ?_
          refine AWR.region ?_
          refine AOR.pure (LT.move (v := (.s (.c (iC b68.1)))) rfl) ⟨rfl, trivial⟩ trivial rfl rfl ?_
          refine AOR.pure (LT.add rfl) ⟨rfl, ⟨rfl, rfl⟩, trivial⟩ trivial rfl rfl ?_
          refine AOR.pure (LT.assign (v := (.s (.c (iC (w64 (b68.1 + 1)))))) rfl) ⟨rfl, trivial⟩ trivial rfl rfl ?_
          refine AOR.nil ?_
          refine AWR.nil ⟨rfl, Ent.of ⟨rfl, rfl, rfl, trivial⟩ ⟨rfl, rfl, trivial⟩⟩
      · refine AWR.exit_end rfl ⟨rfl, Ent.of ⟨rfl, trivial⟩ ⟨rfl, trivial⟩⟩
  · refine AWR.seq ?_
    refine AWR.region ?_
    refine AOR.pure (LT.move (v := (.s (.c (.loc 22 0 b46.length)))) rfl) ⟨rfl, trivial⟩ trivial rfl rfl ?_
    refine AOR.pure (LT.assign (v := (.s (.c (.loc 22 0 b46.length)))) rfl) ⟨rfl, trivial⟩ trivial rfl rfl ?_
    refine AOR.nil ?_
    refine AWR.ent (Ent.of (σ' := [(2, (.s (.c (.loc 22 0 b46.length))))]) (m' := [(22, (.prow 88 (b46.map encTBar)))]) ⟨rfl, trivial⟩ ⟨rfl, trivial⟩) ?_
    refine AWR.ent (Ent.mv 22 0 rfl rfl) ?_
    refine AWR.ent (Ent.of (σ' := [(2, (.s (.c (.loc 0 0 b46.length))))]) (m' := [(0, (.prow 88 (b46.map encTBar)))]) ⟨rfl, trivial⟩ ⟨rfl, trivial⟩) ?_
    refine AWR.ret (FPost.mk (.inr rfl) ⟨rfl, trivial⟩ ⟨rfl, trivial⟩ rfl ⟨trivial, trivial⟩ ⟨PermO.prow' perm_encTBar, trivial⟩)
set_option maxRecDepth 100000 in
set_option maxHeartbeats 8000000 in
theorem w_impl_CountBar (g : TGraph) (a : Int) (b : Int) : ∀ t, m_impl_CountBar g a b = some t → Fw.Fn Try.prog 70 [(.agg [(iC g.Points), (.pv (.xs false (g.Bars.map encTBar)))]), (.c (iC a)), (.c (iC b))] [] (.s (.c (iC t))) [] [] [] := by
  refine Fw.Fn.of (P := Try.prog) (X := []) (pn := []) (rs := (fun (t : Int) => [(.c (iC t))])) (dfs := (fun (t : Int) => [])) Try.func70 rfl Try.ntmps70 (Nat.le_of_ble_eq_true rfl) rfl ?_
  intro w0 U0 R0 g0
  unfold m_impl_CountBar
  refine AWR.seq ?_
  refine AWR.region ?_
  refine AOR.step (LT.box (n := 21) (v := (.agg [(iC g.Points), (.pv (.xs false (g.Bars.map encTBar)))])) rfl sz30 (by exact rfl)) ⟨rfl, trivial⟩ trivial rfl rfl ?_
  refine AOR.pure (LT.assign (v := (.s (.c (iC 0)))) rfl) ⟨⟨rfl, rfl⟩, trivial⟩ trivial rfl rfl ?_
  refine AOR.nil ?_
  refine AWR.seq ?_
  refine AWR.region ?_
  refine AOR.pure (LT.assign (v := (.s (.c (iC 0)))) rfl) ⟨⟨rfl, rfl⟩, trivial⟩ trivial rfl rfl ?_
  refine AOR.nil ?_
  refine AWR.seq ?_
  refine AWR.seq ?_
  refine AWR.region ?_
  refine AOR.pure (LT.fieldPl rfl fo30_1) ⟨rfl, trivial⟩ trivial rfl rfl ?_
  refine AOR.pure (LT.bload1 (c := (.pv (.xs false (g.Bars.map encTBar)))) rfl ag28 (by exact rfl)) ⟨rfl, trivial⟩ ⟨rfl, trivial⟩ rfl rfl ?_
  refine AOR.pure (LT.tlenRO rfl und28) ⟨rfl, trivial⟩ trivial rfl rfl ?_
  refine AOR.pure (LT.move (v := (.s (.c (iC 0)))) rfl) ⟨⟨rfl, rfl⟩, trivial⟩ trivial rfl rfl ?_
  refine AOR.nil ?_
  refine AWR.block ?_
  refine AWR.loop1 (id := 0) (m_impl_CountBar_L1 g a b) (fun s1 => ([(1, (.s (.c (iC a)))), (2, (.s (.c (iC b)))), (7, (.s (.c (iC s1.1)))), (11, (.s (.c (.pv (.xs false (g.Bars.map encTBar)))))), (12, (.s (.c (iC (g.Bars.length : Int))))), (13, (.s (.c (iC s1.2))))], [])) (fun b30 => ([(7, (.s (.c (iC b30))))], [])) ?_ (Ent.of ⟨rfl, rfl, rfl, rfl, rfl, rfl, trivial⟩ trivial) rfl (fun b30 _ => ?_)
  · intro s1
    unfold m_impl_CountBar_L1
    refine AWR.seq ?_
    refine AWR.region ?_
    refine AOR.pure (LT.lss rfl) ⟨rfl, rfl, trivial⟩ trivial rfl rfl ?_
    refine AOR.nil ?_
    refine AWR.seq ?_
    refine AWR.cond rfl (fun hc31 => ?_) (fun hc31 => ?_)
    · refine AWR.skip ?_
      refine AWR.seq ?_
      refine AWR.block ?_
      refine AWR.seq ?_
      refine AWR.region ?_
      refine AOR.bind fun x32 hx32 => ?_
      refine AOR.pure (LT.tindexRO (enc := encTBar) rfl el28 hx32 sz88) ⟨rfl, rfl, trivial⟩ trivial rfl rfl ?_
      refine AOR.pure (LT.loadPxN rfl ag88 (infS inf88) (by exact sz88.symm)) ⟨rfl, trivial⟩ trivial rfl rfl ?_
      refine AOR.step (LT.alloc (n := 22) (cells := [(iC 0), (iC 0)]) rfl ti88 rfl rfl rfl) trivial trivial rfl rfl ?_
      refine AOR.step (LT.bstore (v := (.agg [(iC x32.A), (iC x32.B)])) (out := [(iC x32.A), (iC x32.B)]) rfl rfl (infS inf88) sz88 (by exact rfl) (by exact Nat.le_of_ble_eq_true rfl) (by exact rfl)) ⟨rfl, rfl, trivial⟩ ⟨rfl, trivial⟩ rfl rfl ?_
      refine AOR.nil ?_
      refine AWR.seq ?_
      refine AWR.joinK (fun j37 => ([(1, (.s (.c (iC a)))), (2, (.s (.c (iC b)))), (7, (.s (.c (iC s1.1)))), (11, (.s (.c (.pv (.xs false (g.Bars.map encTBar)))))), (12, (.s (.c (iC (g.Bars.length : Int))))), (13, (.s (.c (iC s1.2)))), (38, (.s (.c (bC j37))))], [])) ?_ (fun j37 _ => ?_)
      · refine AWR.region ?_
        refine AOR.pure (LT.fieldPl rfl fo88_0) ⟨rfl, trivial⟩ trivial rfl rfl ?_
        refine AOR.pure (LT.bload1 (c := (iC x32.A)) rfl ag3 (by exact rfl)) ⟨rfl, trivial⟩ ⟨rfl, trivial⟩ rfl rfl ?_
        refine AOR.pure (LT.move (v := (.s (.c (iC a)))) rfl) ⟨rfl, trivial⟩ trivial rfl rfl ?_
        refine AOR.pure (LT.eql rfl) ⟨rfl, rfl, trivial⟩ trivial rfl rfl ?_
        refine AOR.pure (LT.move (v := (.s (.c (bC (x32.A == a))))) rfl) ⟨rfl, trivial⟩ trivial rfl rfl ?_
        refine AOR.split (fun hb38 => ?_) (fun hb38 => ?_)
        · refine AOR.pure (LT.fieldPl rfl fo88_1) ⟨rfl, trivial⟩ trivial ⟨_, rfl, .inl ⟨_, rfl, (by rw [hb38]; rfl)⟩⟩ rfl ?_
          refine AOR.pure (LT.bload1 (c := (iC x32.B)) rfl ag3 (by exact rfl)) ⟨rfl, trivial⟩ ⟨rfl, trivial⟩ ⟨_, rfl, .inl ⟨_, rfl, (by rw [hb38]; rfl)⟩⟩ rfl ?_
          refine AOR.pure (LT.move (v := (.s (.c (iC b)))) rfl) ⟨rfl, trivial⟩ trivial ⟨_, rfl, .inl ⟨_, rfl, (by rw [hb38]; rfl)⟩⟩ rfl ?_
          refine AOR.pure (LT.eql rfl) ⟨rfl, rfl, trivial⟩ trivial ⟨_, rfl, .inl ⟨_, rfl, (by rw [hb38]; rfl)⟩⟩ rfl ?_
          refine AOR.pure (LT.pickT (v := (.s (.c (bC (x32.B == b))))) rfl hb38) ⟨rfl, rfl, trivial⟩ trivial rfl rfl ?_
          refine AOR.pure (LT.move (v := (.s (.c (bC (x32.B == b))))) rfl) ⟨rfl, trivial⟩ trivial rfl rfl ?_
          refine AOR.split (fun hb39 => ?_) (fun hb39 => ?_)
          · refine AOR.skip ⟨_, rfl, .inl ⟨_, rfl, (by rw [hb39]; rfl)⟩⟩ rfl ?_
            refine AOR.skip ⟨_, rfl, .inl ⟨_, rfl, (by rw [hb39]; rfl)⟩⟩ rfl ?_
            refine AOR.skip ⟨_, rfl, .inl ⟨_, rfl, (by rw [hb39]; rfl)⟩⟩ rfl ?_
            refine AOR.skip ⟨_, rfl, .inl ⟨_, rfl, (by rw [hb39]; rfl)⟩⟩ rfl ?_
            refine AOR.skip ⟨_, rfl, .inl ⟨_, rfl, (by rw [hb39]; rfl)⟩⟩ rfl ?_
            refine AOR.skip ⟨_, rfl, .inr ⟨rfl, rfl⟩⟩ rfl ?_
            refine AOR.skip ⟨_, rfl, .inr ⟨rfl, rfl⟩⟩ rfl ?_
            refine AOR.skip ⟨_, rfl, .inr ⟨rfl, rfl⟩⟩ rfl ?_
            refine AOR.skip ⟨_, rfl, .inr ⟨rfl, rfl⟩⟩ rfl ?_
            refine AOR.skip ⟨_, rfl, .inl ⟨_, rfl, (by rw [hb39]; rfl)⟩⟩ rfl ?_
            refine AOR.pure (LT.pickT (v := (.s (.c (bC true)))) rfl hb39) ⟨rfl, ⟨rfl, rfl⟩, trivial⟩ trivial rfl rfl ?_
            refine AOR.nil ?_
            refine AWR.nil ⟨rfl, Ent.of ⟨rfl, rfl, rfl, rfl, rfl, rfl, rfl, trivial⟩ trivial⟩
          · refine AOR.pure (LT.fieldPl rfl fo88_0) ⟨rfl, trivial⟩ trivial ⟨_, rfl, .inl ⟨_, rfl, (by rw [hb39]; rfl)⟩⟩ rfl ?_
            refine AOR.pure (LT.bload1 (c := (iC x32.A)) rfl ag3 (by exact rfl)) ⟨rfl, trivial⟩ ⟨rfl, trivial⟩ ⟨_, rfl, .inl ⟨_, rfl, (by rw [hb39]; rfl)⟩⟩ rfl ?_
            refine AOR.pure (LT.move (v := (.s (.c (iC b)))) rfl) ⟨rfl, trivial⟩ trivial ⟨_, rfl, .inl ⟨_, rfl, (by rw [hb39]; rfl)⟩⟩ rfl ?_
            refine AOR.pure (LT.eql rfl) ⟨rfl, rfl, trivial⟩ trivial ⟨_, rfl, .inl ⟨_, rfl, (by rw [hb39]; rfl)⟩⟩ rfl ?_
            refine AOR.pure (LT.move (v := (.s (.c (bC (x32.A == b))))) rfl) ⟨rfl, trivial⟩ trivial ⟨_, rfl, .inl ⟨_, rfl, (by rw [hb39]; rfl)⟩⟩ rfl ?_
            refine AOR.split (fun hb40 => ?_) (fun hb40 => ?_)
            · refine AOR.pure (LT.fieldPl rfl fo88_1) ⟨rfl, trivial⟩ trivial ⟨_, rfl, .inl ⟨_, rfl, (by rw [hb40]; rfl)⟩⟩ rfl ?_
              refine AOR.pure (LT.bload1 (c := (iC x32.B)) rfl ag3 (by exact rfl)) ⟨rfl, trivial⟩ ⟨rfl, trivial⟩ ⟨_, rfl, .inl ⟨_, rfl, (by rw [hb40]; rfl)⟩⟩ rfl ?_
              refine AOR.pure (LT.move (v := (.s (.c (iC a)))) rfl) ⟨rfl, trivial⟩ trivial ⟨_, rfl, .inl ⟨_, rfl, (by rw [hb40]; rfl)⟩⟩ rfl ?_
              refine AOR.pure (LT.eql rfl) ⟨rfl, rfl, trivial⟩ trivial ⟨_, rfl, .inl ⟨_, rfl, (by rw [hb40]; rfl)⟩⟩ rfl ?_
              refine AOR.pure (LT.pickT (v := (.s (.c (bC (x32.B == a))))) rfl hb40) ⟨rfl, rfl, trivial⟩ trivial ⟨_, rfl, .inl ⟨_, rfl, (by rw [hb39]; rfl)⟩⟩ rfl ?_
              refine AOR.pure (LT.pickF (v := (.s (.c (bC (x32.B == a))))) rfl hb39) ⟨rfl, rfl, trivial⟩ trivial rfl rfl ?_
              refine AOR.nil ?_
              refine AWR.nil ⟨rfl, Ent.of ⟨rfl, rfl, rfl, rfl, rfl, rfl, rfl, trivial⟩ trivial⟩
            · refine AOR.skip ⟨_, rfl, .inl ⟨_, rfl, (by rw [hb40]; rfl)⟩⟩ rfl ?_
              refine AOR.skip ⟨_, rfl, .inl ⟨_, rfl, (by rw [hb40]; rfl)⟩⟩ rfl ?_
              refine AOR.skip ⟨_, rfl, .inl ⟨_, rfl, (by rw [hb40]; rfl)⟩⟩ rfl ?_
              refine AOR.skip ⟨_, rfl, .inl ⟨_, rfl, (by rw [hb40]; rfl)⟩⟩ rfl ?_
              refine AOR.pure (LT.pickF (v := (.s (.c (bC false)))) rfl hb40) ⟨rfl, ⟨rfl, rfl⟩, trivial⟩ trivial ⟨_, rfl, .inl ⟨_, rfl, (by rw [hb39]; rfl)⟩⟩ rfl ?_
              refine AOR.pure (LT.pickF (v := (.s (.c (bC false)))) rfl hb39) ⟨rfl, rfl, trivial⟩ trivial rfl rfl ?_
              refine AOR.nil ?_
              refine AWR.nil ⟨rfl, Ent.of ⟨rfl, rfl, rfl, rfl, rfl, rfl, rfl, trivial⟩ trivial⟩
        · refine AOR.skip ⟨_, rfl, .inl ⟨_, rfl, (by rw [hb38]; rfl)⟩⟩ rfl ?_
          refine AOR.skip ⟨_, rfl, .inl ⟨_, rfl, (by rw [hb38]; rfl)⟩⟩ rfl ?_
          refine AOR.skip ⟨_, rfl, .inl ⟨_, rfl, (by rw [hb38]; rfl)⟩⟩ rfl ?_
          refine AOR.skip ⟨_, rfl, .inl ⟨_, rfl, (by rw [hb38]; rfl)⟩⟩ rfl ?_
          refine AOR.pure (LT.pickF (v := (.s (.c (bC false)))) rfl hb38) ⟨rfl, ⟨rfl, rfl⟩, trivial⟩ trivial rfl rfl ?_
          refine AOR.pure (LT.move (v := (.s (.c (bC false)))) rfl) ⟨rfl, trivial⟩ trivial rfl rfl ?_
          refine AOR.pure (LT.fieldPl rfl fo88_0) ⟨rfl, trivial⟩ trivial ⟨_, rfl, .inl ⟨_, rfl, rfl⟩⟩ rfl ?_
          refine AOR.pure (LT.bload1 (c := (iC x32.A)) rfl ag3 (by exact rfl)) ⟨rfl, trivial⟩ ⟨rfl, trivial⟩ ⟨_, rfl, .inl ⟨_, rfl, rfl⟩⟩ rfl ?_
          refine AOR.pure (LT.move (v := (.s (.c (iC b)))) rfl) ⟨rfl, trivial⟩ trivial ⟨_, rfl, .inl ⟨_, rfl, rfl⟩⟩ rfl ?_
          refine AOR.pure (LT.eql rfl) ⟨rfl, rfl, trivial⟩ trivial ⟨_, rfl, .inl ⟨_, rfl, rfl⟩⟩ rfl ?_
          refine AOR.pure (LT.move (v := (.s (.c (bC (x32.A == b))))) rfl) ⟨rfl, trivial⟩ trivial ⟨_, rfl, .inl ⟨_, rfl, rfl⟩⟩ rfl ?_
          refine AOR.split (fun hb41 => ?_) (fun hb41 => ?_)
          · refine AOR.pure (LT.fieldPl rfl fo88_1) ⟨rfl, trivial⟩ trivial ⟨_, rfl, .inl ⟨_, rfl, (by rw [hb41]; rfl)⟩⟩ rfl ?_
            refine AOR.pure (LT.bload1 (c := (iC x32.B)) rfl ag3 (by exact rfl)) ⟨rfl, trivial⟩ ⟨rfl, trivial⟩ ⟨_, rfl, .inl ⟨_, rfl, (by rw [hb41]; rfl)⟩⟩ rfl ?_
            refine AOR.pure (LT.move (v := (.s (.c (iC a)))) rfl) ⟨rfl, trivial⟩ trivial ⟨_, rfl, .inl ⟨_, rfl, (by rw [hb41]; rfl)⟩⟩ rfl ?_
            refine AOR.pure (LT.eql rfl) ⟨rfl, rfl, trivial⟩ trivial ⟨_, rfl, .inl ⟨_, rfl, (by rw [hb41]; rfl)⟩⟩ rfl ?_
            refine AOR.pure (LT.pickT (v := (.s (.c (bC (x32.B == a))))) rfl hb41) ⟨rfl, rfl, trivial⟩ trivial ⟨_, rfl, .inl ⟨_, rfl, rfl⟩⟩ rfl ?_
            refine AOR.pure (LT.pickF (v := (.s (.c (bC (x32.B == a))))) rfl rfl) ⟨rfl, rfl, trivial⟩ trivial rfl rfl ?_
            refine AOR.nil ?_
            refine AWR.nil ⟨rfl, Ent.of ⟨rfl, rfl, rfl, rfl, rfl, rfl, rfl, trivial⟩ trivial⟩
          · refine AOR.skip ⟨_, rfl, .inl ⟨_, rfl, (by rw [hb41]; rfl)⟩⟩ rfl ?_
            refine AOR.skip ⟨_, rfl, .inl ⟨_, rfl, (by rw [hb41]; rfl)⟩⟩ rfl ?_
            refine AOR.skip ⟨_, rfl, .inl ⟨_, rfl, (by rw [hb41]; rfl)⟩⟩ rfl ?_
            refine AOR.skip ⟨_, rfl, .inl ⟨_, rfl, (by rw [hb41]; rfl)⟩⟩ rfl ?_
            refine AOR.pure (LT.pickF (v := (.s (.c (bC false)))) rfl hb41) ⟨rfl, ⟨rfl, rfl⟩, trivial⟩ trivial ⟨_, rfl, .inl ⟨_, rfl, rfl⟩⟩ rfl ?_
            refine AOR.pure (LT.pickF (v := (.s (.c (bC false)))) rfl rfl) ⟨rfl, rfl, trivial⟩ trivial rfl rfl ?_
            refine AOR.nil ?_
            refine AWR.nil ⟨rfl, Ent.of ⟨rfl, rfl, rfl, rfl, rfl, rfl, rfl, trivial⟩ trivial⟩
      · refine AWR.joinK (fun j43 => ([(1, (.s (.c (iC a)))), (2, (.s (.c (iC b)))), (7, (.s (.c (iC j43)))), (11, (.s (.c (.pv (.xs false (g.Bars.map encTBar)))))), (12, (.s (.c (iC (g.Bars.length : Int))))), (13, (.s (.c (iC s1.2))))], [])) ?_ (fun j43 _ => ?_)
        · refine AWR.cond rfl (fun hc44 => ?_) (fun hc44 => ?_)
          · refine AWR.region ?_
            refine AOR.pure (LT.move (v := (.s (.c (iC s1.1)))) rfl) ⟨rfl, trivial⟩ trivial rfl rfl ?_
            refine AOR.pure (LT.add rfl) ⟨rfl, ⟨rfl, rfl⟩, trivial⟩ trivial rfl rfl ?_
            refine AOR.pure (LT.assign (v := (.s (.c (iC (w64 (s1.1 + 1)))))) rfl) ⟨rfl, trivial⟩ trivial rfl rfl ?_
            refine AOR.nil ?_
            refine AWR.nil ⟨rfl, Ent.of ⟨rfl, rfl, rfl, rfl, rfl, rfl, trivial⟩ trivial⟩
          · refine AWR.skip ?_
            refine AWR.nil ⟨rfl, Ent.of ⟨rfl, rfl, rfl, rfl, rfl, rfl, trivial⟩ trivial⟩
        · refine AWR.blk ?_
          refine AWR.region ?_
          refine AOR.pure (LT.add rfl) ⟨rfl, ⟨rfl, rfl⟩, trivial⟩ trivial rfl rfl ?_
          refine AOR.pure (LT.move (v := (.s (.c (iC (w64 (s1.2 + 1)))))) rfl) ⟨rfl, trivial⟩ trivial rfl rfl ?_
          refine AOR.nil ?_
          refine AWR.nil ⟨rfl, Ent.of ⟨rfl, rfl, rfl, rfl, rfl, rfl, trivial⟩ trivial⟩
    · refine AWR.exit_end rfl ⟨rfl, Ent.of ⟨rfl, trivial⟩ trivial⟩
  · refine AWR.seq ?_
    refine AWR.region ?_
    refine AOR.pure (LT.move (v := (.s (.c (iC b30)))) rfl) ⟨rfl, trivial⟩ trivial rfl rfl ?_
    refine AOR.pure (LT.assign (v := (.s (.c (iC b30)))) rfl) ⟨rfl, trivial⟩ trivial rfl rfl ?_
    refine AOR.nil ?_
    refine AWR.ret (FPost.mk (.inr rfl) ⟨rfl, trivial⟩ trivial rfl ⟨PermP.sc, trivial⟩ trivial)
set_option maxRecDepth 100000 in
set_option maxHeartbeats 8000000 in
theorem w_impl_MissingBars (g : TGraph) : ∀ t, m_impl_MissingBars g = some t → Fw.Fn Try.prog 25 [(.agg [(iC g.Points), (.pv (.xs false (g.Bars.map encTBar)))])] [] (.s (.c (.loc 0 0 t.length))) [(0, (.prow 88 (t.map encTBar)))] [] [0] := by
  refine Fw.Fn.of (P := Try.prog) (X := [0]) (pn := []) (rs := (fun (t : (List TBar)) => [(.c (.loc 0 0 t.length))])) (dfs := (fun (t : (List TBar)) => [(0, (.prow 88 (t.map encTBar)))])) Try.func25 rfl Try.ntmps25 (Nat.le_of_ble_eq_true rfl) rfl ?_
  intro w0 U0 R0 g0
  unfold m_impl_MissingBars
  refine AWR.seq ?_
  refine AWR.region ?_
  refine AOR.step (LT.box (n := 21) (v := (.agg [(iC g.Points), (.pv (.xs false (g.Bars.map encTBar)))])) rfl sz30 (by exact rfl)) ⟨rfl, trivial⟩ trivial rfl rfl ?_
  refine AOR.pure (LT.assign (v := (.s (.c (sC nilV)))) rfl) ⟨⟨rfl, rfl⟩, trivial⟩ trivial rfl rfl ?_
  refine AOR.nil ?_
  refine AWR.seq ?_
  refine AWR.region ?_
  refine AOR.step (LT.tbuildSlice (n := 22) (enc := encTBar) [] ([] : List TBar) rfl rfl und28 ti88 rfl rfl rfl rfl (by decide) (fun _ => rfl) rfl) trivial trivial rfl rfl ?_
  refine AOR.pure (LT.assign (v := (.s (.c (.loc 22 0 ([] : List TBar).length)))) rfl) ⟨rfl, trivial⟩ trivial rfl rfl ?_
  refine AOR.nil ?_
  refine AWR.seq ?_
  refine AWR.seq ?_
  refine AWR.region ?_
  refine AOR.pure (LT.bloadN (out := [(iC g.Points), (.pv (.xs false (g.Bars.map encTBar)))]) rfl ag30 (infS inf30) sz30 (by exact rfl) (by exact rfl)) ⟨rfl, trivial⟩ ⟨rfl, trivial⟩ rfl rfl ?_
  refine AOR.bind fun r1 hr1 => ?_
  refine AOR.pure (@LT.callF Try.prog _ _ 68 _ _ [(.agg [(iC g.Points), (.pv (.xs false (g.Bars.map encTBar)))])] _ _ [] _ _ _ _ (w_impl_IsGraph g r1 hr1) rfl cb68 (.cons (.agg (.cons (.same rfl) (.cons (.same rfl) .nil))) .nil) rfl rfl trivial) ⟨rfl, rfl, trivial⟩ trivial rfl rfl ?_
  refine AOR.pure (LT.not rfl) ⟨rfl, trivial⟩ trivial rfl rfl ?_
  refine AOR.nil ?_
  refine AWR.cond rfl (fun hc2 => ?_) (fun hc2 => ?_)
  · refine AWR.seq ?_
    refine AWR.ent (Ent.of (σ' := [(3, (.s (.c (.loc 22 0 ([] : List TBar).length))))]) (m' := [(22, (.prow 88 (([] : List TBar).map encTBar)))]) ⟨rfl, trivial⟩ ⟨rfl, trivial⟩) ?_
    refine AWR.region ?_
    refine AOR.pure (LT.move (v := (.s (.c (.loc 22 0 ([] : List TBar).length)))) rfl) ⟨rfl, trivial⟩ trivial rfl rfl ?_
    refine AOR.pure (LT.assign (v := (.s (.c (.loc 22 0 ([] : List TBar).length)))) rfl) ⟨rfl, trivial⟩ trivial rfl rfl ?_
    refine AOR.nil ?_
    refine AWR.ent (Ent.of (σ' := [(2, (.s (.c (.loc 22 0 ([] : List TBar).length))))]) (m' := [(22, (.prow 88 (([] : List TBar).map encTBar)))]) ⟨rfl, trivial⟩ ⟨rfl, trivial⟩) ?_
    refine AWR.ent (Ent.mv 22 0 rfl rfl) ?_
    refine AWR.ent (Ent.of (σ' := [(2, (.s (.c (.loc 0 0 ([] : List TBar).length))))]) (m' := [(0, (.prow 88 (([] : List TBar).map encTBar)))]) ⟨rfl, trivial⟩ ⟨rfl, trivial⟩) ?_
    refine AWR.ret (FPost.mk (.inr rfl) ⟨rfl, trivial⟩ ⟨rfl, trivial⟩ rfl ⟨trivial, trivial⟩ ⟨PermO.prow' perm_encTBar, trivial⟩)
  · refine AWR.skip ?_
    refine AWR.seq ?_
    refine AWR.seq ?_
    refine AWR.ent (Ent.of (σ' := [(1, (.s (.c (.pl 21 0)))), (3, (.s (.c (.loc 22 0 ([] : List TBar).length))))]) (m' := [(21, (.row 30 [[(iC g.Points), (.pv (.xs false (g.Bars.map encTBar)))]])), (22, (.prow 88 (([] : List TBar).map encTBar)))]) ⟨rfl, rfl, trivial⟩ ⟨rfl, rfl, trivial⟩) ?_
    refine AWR.region ?_
    refine AOR.pure (LT.fieldPl rfl fo30_0) ⟨rfl, trivial⟩ trivial rfl rfl ?_
    refine AOR.pure (LT.bload1 (c := (iC g.Points)) rfl ag3 (by exact rfl)) ⟨rfl, trivial⟩ ⟨rfl, trivial⟩ rfl rfl ?_
    refine AOR.pure (LT.move (v := (.s (.c (iC 0)))) rfl) ⟨⟨rfl, rfl⟩, trivial⟩ trivial rfl rfl ?_
    refine AOR.nil ?_
    refine AWR.block ?_
    refine AWR.loop1 (id := 0) (m_impl_MissingBars_L3 g) (fun s3 => ([(1, (.s (.c (.pl 21 0)))), (3, (.s (.c (.loc 22 0 s3.2.length)))), (12, (.s (.c (iC g.Points)))), (13, (.s (.c (iC s3.1))))], [(21, (.row 30 [[(iC g.Points), (.pv (.xs false (g.Bars.map encTBar)))]])), (22, (.prow 88 (s3.2.map encTBar)))])) (fun b38 => ([(3, (.s (.c (.loc 22 0 b38.length))))], [(22, (.prow 88 (b38.map encTBar)))])) ?_ (Ent.of ⟨rfl, rfl, rfl, rfl, trivial⟩ ⟨rfl, rfl, trivial⟩) rfl (fun b38 _ => ?_)
    · intro s3
      unfold m_impl_MissingBars_L3
      refine AWR.seq ?_
      refine AWR.region ?_
      refine AOR.pure (LT.lss rfl) ⟨rfl, rfl, trivial⟩ trivial rfl rfl ?_
      refine AOR.nil ?_
      refine AWR.seq ?_
      refine AWR.cond rfl (fun hc39 => ?_) (fun hc39 => ?_)
      · refine AWR.skip ?_
        refine AWR.seq ?_
        refine AWR.block ?_
        refine AWR.seq ?_
        refine AWR.region ?_
        refine AOR.pure (LT.move (v := (.s (.c (iC s3.1)))) rfl) ⟨rfl, trivial⟩ trivial rfl rfl ?_
        refine AOR.pure (LT.assign (v := (.s (.c (iC s3.1)))) rfl) ⟨rfl, trivial⟩ trivial rfl rfl ?_
        refine AOR.nil ?_
        refine AWR.seq ?_
        refine AWR.region ?_
        refine AOR.pure (LT.move (v := (.s (.c (iC s3.1)))) rfl) ⟨rfl, trivial⟩ trivial rfl rfl ?_
        refine AOR.pure (LT.add rfl) ⟨rfl, ⟨rfl, rfl⟩, trivial⟩ trivial rfl rfl ?_
        refine AOR.pure (LT.assign (v := (.s (.c (iC (w64 (s3.1 + 1)))))) rfl) ⟨rfl, trivial⟩ trivial rfl rfl ?_
        refine AOR.nil ?_
        refine AWR.block ?_
        refine AWR.loop1 (id := 2) (m_impl_MissingBars_L4 g s3) (fun s40 => ([(1, (.s (.c (.pl 21 0)))), (3, (.s (.c (.loc 22 0 s40.2.length)))), (4, (.s (.c (iC s3.1)))), (5, (.s (.c (iC s40.1)))), (12, (.s (.c (iC g.Points)))), (13, (.s (.c (iC s3.1))))], [(21, (.row 30 [[(iC g.Points), (.pv (.xs false (g.Bars.map encTBar)))]])), (22, (.prow 88 (s40.2.map encTBar)))])) (fun b55 => ([(1, (.s (.c (.pl 21 0)))), (3, (.s (.c (.loc 22 0 b55.2.length)))), (12, (.s (.c (iC g.Points)))), (13, (.s (.c (iC b55.1))))], [(21, (.row 30 [[(iC g.Points), (.pv (.xs false (g.Bars.map encTBar)))]])), (22, (.prow 88 (b55.2.map encTBar)))])) ?_ (Ent.of ⟨rfl, rfl, rfl, rfl, rfl, rfl, trivial⟩ ⟨rfl, rfl, trivial⟩) rfl (fun b55 _ => ?_)
        · intro s40
          unfold m_impl_MissingBars_L4
          refine AWR.seq ?_
          refine AWR.seq ?_
          refine AWR.region ?_
          refine AOR.pure (LT.move (v := (.s (.c (iC s40.1)))) rfl) ⟨rfl, trivial⟩ trivial rfl rfl ?_
          refine AOR.pure (LT.fieldPl rfl fo30_0) ⟨rfl, trivial⟩ trivial rfl rfl ?_
          refine AOR.pure (LT.bload1 (c := (iC g.Points)) rfl ag3 (by exact rfl)) ⟨rfl, trivial⟩ ⟨rfl, trivial⟩ rfl rfl ?_
          refine AOR.pure (LT.lss rfl) ⟨rfl, rfl, trivial⟩ trivial rfl rfl ?_
          refine AOR.nil ?_
          refine AWR.cond rfl (fun hc56 => ?_) (fun hc56 => ?_)
          · refine AWR.skip ?_
            refine AWR.seq ?_
            refine AWR.block ?_
            refine AWR.seq ?_
            refine AWR.region ?_
            refine AOR.pure (LT.bloadN (out := [(iC g.Points), (.pv (.xs false (g.Bars.map encTBar)))]) rfl ag30 (infS inf30) sz30 (by exact rfl) (by exact rfl)) ⟨rfl, trivial⟩ ⟨rfl, trivial⟩ rfl rfl ?_
            refine AOR.pure (LT.move (v := (.s (.c (iC s3.1)))) rfl) ⟨rfl, trivial⟩ trivial rfl rfl ?_
            refine AOR.pure (LT.move (v := (.s (.c (iC s40.1)))) rfl) ⟨rfl, trivial⟩ trivial rfl rfl ?_
            refine AOR.bind fun r57 hr57 => ?_
            refine AOR.pure (@LT.callF Try.prog _ _ 70 _ _ [(.agg [(iC g.Points), (.pv (.xs false (g.Bars.map encTBar)))]), (.c (iC s3.1)), (.c (iC s40.1))] _ _ [] _ _ _ _ (w_impl_CountBar g s3.1 s40.1 r57 hr57) rfl cb70 (.cons (.agg (.cons (.same rfl) (.cons (.same rfl) .nil))) (.cons (.c (.same rfl)) (.cons (.c (.same rfl)) .nil))) rfl rfl trivial) ⟨rfl, rfl, rfl, rfl, trivial⟩ trivial rfl rfl ?_
            refine AOR.pure (LT.eql rfl) ⟨rfl, ⟨rfl, rfl⟩, trivial⟩ trivial rfl rfl ?_
            refine AOR.nil ?_
            refine AWR.joinK (fun j60 => ([(1, (.s (.c (.pl 21 0)))), (3, (.s (.c (.loc 22 0 j60.length)))), (4, (.s (.c (iC s3.1)))), (5, (.s (.c (iC s40.1)))), (12, (.s (.c (iC g.Points)))), (13, (.s (.c (iC s3.1))))], [(21, (.row 30 [[(iC g.Points), (.pv (.xs false (g.Bars.map encTBar)))]])), (22, (.prow 88 (j60.map encTBar)))])) ?_ (fun j60 _ => ?_)
            · refine AWR.cond rfl (fun hc61 => ?_) (fun hc61 => ?_)
              · refine AWR.region ?_
                refine AOR.pure (LT.move (v := (.s (.c (.loc 22 0 s40.2.length)))) rfl) ⟨rfl, trivial⟩ trivial rfl rfl ?_
                refine AOR.pure (LT.move (v := (.s (.c (iC s3.1)))) rfl) ⟨rfl, trivial⟩ trivial rfl rfl ?_
                refine AOR.pure (LT.move (v := (.s (.c (iC s40.1)))) rfl) ⟨rfl, trivial⟩ trivial rfl rfl ?_
                refine AOR.pure (LT.build [(0, .tmp 30, (.c (iC s3.1))), (1, .tmp 31, (.c (iC s40.1)))] rfl rfl pl88 ti88 rfl rfl rfl) ⟨rfl, rfl, trivial⟩ trivial rfl rfl ?_
                refine AOR.step (LT.tbuildSlice (n := 25) (enc := encTBar) [(0, .tmp 32, (.agg [(iC s3.1), (iC s40.1)]))] [(TBar.mk s3.1 s40.1)] rfl rfl und28 ti88 rfl rfl rfl rfl (by decide) (fun _ => rfl) rfl) ⟨rfl, trivial⟩ trivial rfl rfl ?_
                refine AOR.bind fun u62 hu62 => ?_
                refine AOR.step (LT.tappP (enc := encTBar) rfl rfl rfl und28 ti88 rfl (by decide) (by decide) (fun _ => rfl) (lim_le hu62)) ⟨rfl, rfl, trivial⟩ ⟨rfl, rfl, trivial⟩ rfl rfl ?_
                refine AOR.pure (LT.assign (v := (.s (.c (.loc 22 0 (s40.2 ++ [(TBar.mk s3.1 s40.1)]).length)))) rfl) ⟨rfl, trivial⟩ trivial rfl rfl ?_
                refine AOR.nil ?_
                refine AWR.nil ⟨rfl, Ent.of ⟨rfl, rfl, rfl, rfl, rfl, rfl, trivial⟩ ⟨rfl, rfl, trivial⟩⟩
              · refine AWR.skip ?_
                refine AWR.nil ⟨rfl, Ent.of ⟨rfl, rfl, rfl, rfl, rfl, rfl, trivial⟩ ⟨rfl, rfl, trivial⟩⟩
            · refine AWR.blk ?_
              refine AWR.region ?_
              refine AOR.pure (LT.move (v := (.s (.c (iC s40.1)))) rfl) ⟨rfl, trivial⟩ trivial rfl rfl ?_
              refine AOR.pure (LT.add rfl) ⟨rfl, ⟨rfl, rfl⟩, trivial⟩ trivial rfl rfl ?_
              refine AOR.pure (LT.assign (v := (.s (.c (iC (w64 (s40.1 + 1)))))) rfl) ⟨rfl, trivial⟩ trivial rfl rfl ?_
              refine AOR.nil ?_
              refine AWR.nil ⟨rfl, Ent.of ⟨rfl, rfl, rfl, rfl, rfl, rfl, trivial⟩ ⟨rfl, rfl, trivial⟩⟩
          · refine AWR.exit_end rfl ⟨rfl, Ent.of ⟨rfl, rfl, rfl, rfl, trivial⟩ ⟨rfl, rfl, trivial⟩⟩
        · refine AWR.blk ?_
          refine AWR.region ?_
          refine AOR.pure (LT.add rfl) ⟨rfl, ⟨rfl, rfl⟩, trivial⟩ trivial rfl rfl ?_
          refine AOR.pure (LT.move (v := (.s (.c (iC (w64 (b55.1 + 1)))))) rfl) ⟨rfl, trivial⟩ trivial rfl rfl ?_
          refine AOR.nil ?_
          refine AWR.nil ⟨rfl, Ent.of ⟨rfl, rfl, rfl, rfl, trivial⟩ ⟨rfl, rfl, trivial⟩⟩
      · refine AWR.exit_end rfl ⟨rfl, Ent.of ⟨rfl, trivial⟩ ⟨rfl, trivial⟩⟩
    · refine AWR.seq ?_
      refine AWR.region ?_
      refine AOR.pure (LT.move (v := (.s (.c (.loc 22 0 b38.length)))) rfl) ⟨rfl, trivial⟩ trivial rfl rfl ?_
      refine AOR.pure (LT.assign (v := (.s (.c (.loc 22 0 b38.length)))) rfl) ⟨rfl, trivial⟩ trivial rfl rfl ?_
      refine AOR.nil ?_
      refine AWR.ent (Ent.of (σ' := [(2, (.s (.c (.loc 22 0 b38.length))))]) (m' := [(22, (.prow 88 (b38.map encTBar)))]) ⟨rfl, trivial⟩ ⟨rfl, trivial⟩) ?_
      refine AWR.ent (Ent.mv 22 0 rfl rfl) ?_
      refine AWR.ent (Ent.of (σ' := [(2, (.s (.c (.loc 0 0 b38.length))))]) (m' := [(0, (.prow 88 (b38.map encTBar)))]) ⟨rfl, trivial⟩ ⟨rfl, trivial⟩) ?_
      refine AWR.ret (FPost.mk (.inr rfl) ⟨rfl, trivial⟩ ⟨rfl, trivial⟩ rfl ⟨trivial, trivial⟩ ⟨PermO.prow' perm_encTBar, trivial⟩)
set_option maxRecDepth 100000 in
set_option maxHeartbeats 8000000 in
theorem w_laws_FnExactMissingBars (aG : TGraph) : ∀ t, m_laws_FnExactMissingBars aG = some t → Fw.Fn Try.prog 5 [(.agg [(iC aG.Points), (.pv (.xs false (aG.Bars.map encTBar)))])] [] (.s (.c (bC t))) [] [] [] := by
  refine Fw.Fn.of (P := Try.prog) (X := []) (pn := []) (rs := (fun (t : Bool) => [(.c (bC t))])) (dfs := (fun (t : Bool) => [])) Try.func5 rfl Try.ntmps5 (Nat.le_of_ble_eq_true rfl) rfl ?_
  intro w0 U0 R0 g0
  unfold m_laws_FnExactMissingBars
  refine AWR.seq ?_
  refine AWR.region ?_
  refine AOR.step (LT.box (n := 21) (v := (.agg [(iC aG.Points), (.pv (.xs false (aG.Bars.map encTBar)))])) rfl sz26 (by exact rfl)) ⟨rfl, trivial⟩ trivial rfl rfl ?_
  refine AOR.pure (LT.assign (v := (.s (.c (bC false)))) rfl) ⟨⟨rfl, rfl⟩, trivial⟩ trivial rfl rfl ?_
  refine AOR.nil ?_
  refine AWR.seq ?_
  refine AWR.region ?_
  refine AOR.pure (LT.assign (v := (.s (.c (iC 1048576)))) rfl) ⟨⟨rfl, rfl⟩, trivial⟩ trivial rfl rfl ?_
  refine AOR.nil ?_
  refine AWR.seq ?_
  refine AWR.region ?_
  refine AOR.pure (LT.bloadN (out := [(iC aG.Points), (.pv (.xs false (aG.Bars.map encTBar)))]) rfl ag26 (infS inf26) sz26 (by exact rfl) (by exact rfl)) ⟨rfl, trivial⟩ ⟨rfl, trivial⟩ rfl rfl ?_
  refine AOR.pure (LT.move (v := (.s (.c (iC 1048576)))) rfl) ⟨rfl, trivial⟩ trivial rfl rfl ?_
  refine AOR.bind fun r1 hr1 => ?_
  refine AOR.pure (@LT.callF Try.prog _ _ 17 _ _ [(.agg [(iC aG.Points), (.pv (.xs false (aG.Bars.map encTBar)))]), (.c (iC 1048576))] _ _ [] _ _ _ _ (w_laws_szGraph aG 1048576 r1 hr1) rfl cb17 (.cons (.agg (.cons (.same rfl) (.cons (.same rfl) .nil))) (.cons (.c (.same rfl)) .nil)) rfl rfl trivial) ⟨rfl, rfl, rfl, trivial⟩ trivial rfl rfl ?_
  refine AOR.pure (LT.assign (v := (.s (.c (iC r1)))) rfl) ⟨rfl, trivial⟩ trivial rfl rfl ?_
  refine AOR.nil ?_
  refine AWR.seq ?_
  refine AWR.seq ?_
  refine AWR.region ?_
  refine AOR.pure (LT.move (v := (.s (.c (iC r1)))) rfl) ⟨rfl, trivial⟩ trivial rfl rfl ?_
  refine AOR.pure (LT.lss rfl) ⟨rfl, ⟨rfl, rfl⟩, trivial⟩ trivial rfl rfl ?_
  refine AOR.nil ?_
  refine AWR.cond rfl (fun hc2 => ?_) (fun hc2 => ?_)
  · refine AWR.seq ?_
    refine AWR.ent (Ent.of (σ' := []) (m' := []) trivial trivial) ?_
    refine AWR.region ?_
    refine AOR.pure (LT.assign (v := (.s (.c (bC true)))) rfl) ⟨⟨rfl, rfl⟩, trivial⟩ trivial rfl rfl ?_
    refine AOR.nil ?_
    refine AWR.ret (FPost.mk (.inr rfl) ⟨rfl, trivial⟩ trivial rfl ⟨PermP.sc, trivial⟩ trivial)
  · refine AWR.skip ?_
    refine AWR.seq ?_
    refine AWR.ent (Ent.of (σ' := [(1, (.s (.c (.pl 21 0))))]) (m' := [(21, (.row 26 [[(iC aG.Points), (.pv (.xs false (aG.Bars.map encTBar)))]]))]) ⟨rfl, trivial⟩ ⟨rfl, trivial⟩) ?_
    refine AWR.region ?_
    refine AOR.pure (LT.bloadN (out := [(iC aG.Points), (.pv (.xs false (aG.Bars.map encTBar)))]) rfl ag26 (infS inf26) sz26 (by exact rfl) (by exact rfl)) ⟨rfl, trivial⟩ ⟨rfl, trivial⟩ rfl rfl ?_
    refine AOR.bind fun r3 hr3 => ?_
    refine AOR.step (@LT.callF Try.prog _ _ 19 _ _ [(.agg [(iC aG.Points), (.pv (.xs false (aG.Bars.map encTBar)))])] _ _ [] _ _ _ _ ((show Fw.Fn Try.prog 19 [(.agg [(iC aG.Points), (.pv (.xs false (aG.Bars.map encTBar)))])] [] (.s (.agg [(iC r3.Points), (.loc 24 0 r3.Bars.length)])) [(24, (.prow 88 (r3.Bars.map encTBar)))] [] [24] from Fw.Fn.ren [(0, 24)] (w_laws_toGraph aG r3 hr3) rfl)) rfl cb19 (.cons (.agg (.cons (.same rfl) (.cons (.same rfl) .nil))) .nil) rfl rfl trivial) ⟨rfl, rfl, trivial⟩ trivial rfl rfl ?_
    refine AOR.bind fun r4 hr4 => ?_
    refine AOR.step (@LT.callF Try.prog _ _ 24 _ _ [(.agg [(iC r3.Points), (.loc 24 0 r3.Bars.length)])] _ _ [(24, (.prow 88 (r3.Bars.map encTBar)))] _ _ _ _ ((show Fw.Fn Try.prog 24 [(.agg [(iC r3.Points), (.pv (.xs false (r3.Bars.map encTBar)))])] [] (.s (.c (.loc 26 0 r4.length))) [(26, (.prow 88 (r4.map encTBar)))] [] [26] from Fw.Fn.ren [(0, 26)] (w_spec_MissingBars r3 r4 hr4) rfl)) rfl cb24 (.cons (.agg (.cons (.same rfl) (.cons (.tloc rfl rfl) .nil))) .nil) rfl rfl trivial) ⟨rfl, rfl, trivial⟩ ⟨rfl, trivial⟩ rfl rfl ?_
    refine AOR.pure (LT.assign (v := (.s (.c (.loc 26 0 r4.length)))) rfl) ⟨rfl, trivial⟩ trivial rfl rfl ?_
    refine AOR.nil ?_
    refine AWR.seq ?_
    refine AWR.region ?_
    refine AOR.pure (LT.bloadN (out := [(iC aG.Points), (.pv (.xs false (aG.Bars.map encTBar)))]) rfl ag26 (infS inf26) sz26 (by exact rfl) (by exact rfl)) ⟨rfl, trivial⟩ ⟨rfl, trivial⟩ rfl rfl ?_
    refine AOR.bind fun r5 hr5 => ?_
    refine AOR.step (@LT.callF Try.prog _ _ 19 _ _ [(.agg [(iC aG.Points), (.pv (.xs false (aG.Bars.map encTBar)))])] _ _ [] _ _ _ _ ((show Fw.Fn Try.prog 19 [(.agg [(iC aG.Points), (.pv (.xs false (aG.Bars.map encTBar)))])] [] (.s (.agg [(iC r5.Points), (.loc 28 0 r5.Bars.length)])) [(28, (.prow 88 (r5.Bars.map encTBar)))] [] [28] from Fw.Fn.ren [(0, 28)] (w_laws_toGraph aG r5 hr5) rfl)) rfl cb19 (.cons (.agg (.cons (.same rfl) (.cons (.same rfl) .nil))) .nil) rfl rfl trivial) ⟨rfl, rfl, trivial⟩ trivial rfl rfl ?_
    refine AOR.step (LT.alloc (n := 29) (cells := [(iC 0), (sC nilV)]) rfl ti30 rfl rfl rfl) trivial trivial rfl rfl ?_
    refine AOR.step (LT.bstore (v := (.agg [(iC r5.Points), (.loc 28 0 r5.Bars.length)])) (out := [(iC r5.Points), (.loc 28 0 r5.Bars.length)]) rfl rfl (infS inf30) sz30 (by exact rfl) (by exact Nat.le_of_ble_eq_true rfl) (by exact rfl)) ⟨rfl, rfl, trivial⟩ ⟨rfl, trivial⟩ rfl rfl ?_
    refine AOR.nil ?_
    refine AWR.seq ?_
    refine AWR.ent (Ent.of (σ' := [(1, (.s (.c (.pl 21 0)))), (4, (.s (.c (.loc 26 0 r4.length)))), (5, (.s (.c (.pl 29 0))))]) (m' := [(21, (.row 26 [[(iC aG.Points), (.pv (.xs false (aG.Bars.map encTBar)))]])), (26, (.prow 88 (r4.map encTBar))), (28, (.prow 88 (r5.Bars.map encTBar))), (29, (.row 30 [[(iC r5.Points), (.loc 28 0 r5.Bars.length)]]))]) ⟨rfl, rfl, rfl, trivial⟩ ⟨rfl, rfl, rfl, rfl, trivial⟩) ?_
    refine AWR.region ?_
    refine AOR.pure (LT.bloadN (out := [(iC r5.Points), (.loc 28 0 r5.Bars.length)]) rfl ag30 (infS inf30) sz30 (by exact rfl) (by exact rfl)) ⟨rfl, trivial⟩ ⟨rfl, trivial⟩ rfl rfl ?_
    refine AOR.bind fun r6 hr6 => ?_
    refine AOR.step (@LT.callF Try.prog _ _ 25 _ _ [(.agg [(iC r5.Points), (.loc 28 0 r5.Bars.length)])] _ _ [(28, (.prow 88 (r5.Bars.map encTBar)))] _ _ _ _ ((show Fw.Fn Try.prog 25 [(.agg [(iC r5.Points), (.pv (.xs false (r5.Bars.map encTBar)))])] [] (.s (.c (.loc 31 0 r6.length))) [(31, (.prow 88 (r6.map encTBar)))] [] [31] from Fw.Fn.ren [(0, 31)] (w_impl_MissingBars r5 r6 hr6) rfl)) rfl cb25 (.cons (.agg (.cons (.same rfl) (.cons (.tloc rfl rfl) .nil))) .nil) rfl rfl trivial) ⟨rfl, rfl, trivial⟩ ⟨rfl, trivial⟩ rfl rfl ?_
    refine AOR.pure (LT.assign (v := (.s (.c (.loc 31 0 r6.length)))) rfl) ⟨rfl, trivial⟩ trivial rfl rfl ?_
    refine AOR.nil ?_
    refine AWR.seq ?_
    refine AWR.seq ?_
    refine AWR.region ?_
    refine AOR.pure (LT.move (v := (.s (.c (.loc 31 0 r6.length)))) rfl) ⟨rfl, trivial⟩ trivial rfl rfl ?_
    refine AOR.pure (LT.move (v := (.s (.c (.loc 26 0 r4.length)))) rfl) ⟨rfl, trivial⟩ trivial rfl rfl ?_
    refine AOR.bind fun r7 hr7 => ?_
    refine AOR.pure (@LT.callF Try.prog _ _ 26 _ _ [(.c (.loc 31 0 r6.length)), (.c (.loc 26 0 r4.length))] _ _ [(31, (.prow 88 (r6.map encTBar))), (26, (.prow 88 (r4.map encTBar)))] _ _ _ _ (w_laws_eqBarS r6 r4 r7 hr7) rfl cb26 (.cons (.c (.tloc rfl rfl)) (.cons (.c (.tloc rfl rfl)) .nil)) rfl rfl trivial) ⟨rfl, rfl, rfl, trivial⟩ ⟨rfl, rfl, trivial⟩ rfl rfl ?_
    refine AOR.pure (LT.not rfl) ⟨rfl, trivial⟩ trivial rfl rfl ?_
    refine AOR.nil ?_
    refine AWR.cond rfl (fun hc8 => ?_) (fun hc8 => ?_)
    · refine AWR.seq ?_
      refine AWR.region ?_
      refine AOR.pure (LT.assign (v := (.s (.c (bC false)))) rfl) ⟨⟨rfl, rfl⟩, trivial⟩ trivial rfl rfl ?_
      refine AOR.nil ?_
      refine AWR.ret (FPost.mk (.inr rfl) ⟨rfl, trivial⟩ trivial rfl ⟨PermP.sc, trivial⟩ trivial)
    · refine AWR.skip ?_
      refine AWR.seq ?_
      refine AWR.seq ?_
      refine AWR.draw mixed ?_
      refine AOD.pure (LT.bloadN (out := [(iC r5.Points), (.loc 28 0 r5.Bars.length)]) rfl ag30 (infS inf30) sz30 (by exact rfl) (by exact rfl)) ⟨rfl, trivial⟩ ⟨rfl, trivial⟩ rfl rfl ?_
      refine AOD.pure (LT.bloadN (out := [(iC aG.Points), (.pv (.xs false (aG.Bars.map encTBar)))]) rfl ag26 (infS inf26) sz26 (by exact rfl) (by exact rfl)) ⟨rfl, trivial⟩ ⟨rfl, trivial⟩ rfl rfl ?_
      refine AOD.bind fun r9 hr9 => ?_
      refine AOD.step (@LT.callF Try.prog _ _ 19 _ _ [(.agg [(iC aG.Points), (.pv (.xs false (aG.Bars.map encTBar)))])] _ _ [] _ _ _ _ ((show Fw.Fn Try.prog 19 [(.agg [(iC aG.Points), (.pv (.xs false (aG.Bars.map encTBar)))])] [] (.s (.agg [(iC r9.Points), (.loc 34 0 r9.Bars.length)])) [(34, (.prow 88 (r9.Bars.map encTBar)))] [] [34] from Fw.Fn.ren [(0, 34)] (w_laws_toGraph aG r9 hr9) rfl)) rfl cb19 (.cons (.agg (.cons (.same rfl) (.cons (.same rfl) .nil))) .nil) rfl rfl trivial) ⟨rfl, rfl, trivial⟩ trivial rfl rfl ?_
      refine AOD.bind fun r10 hr10 => ?_
      refine AOD.pure (@LT.callF Try.prog _ _ 21 _ _ [(.agg [(iC r5.Points), (.loc 28 0 r5.Bars.length)]), (.agg [(iC r9.Points), (.loc 34 0 r9.Bars.length)])] _ _ [(28, (.prow 88 (r5.Bars.map encTBar))), (34, (.prow 88 (r9.Bars.map encTBar)))] _ _ _ _ (w_laws_eqGraph r5 r9 r10 hr10) rfl cb21 (.cons (.agg (.cons (.same rfl) (.cons (.tloc rfl rfl) .nil))) (.cons (.agg (.cons (.same rfl) (.cons (.tloc rfl rfl) .nil))) .nil)) rfl rfl trivial) ⟨rfl, rfl, rfl, trivial⟩ ⟨rfl, rfl, trivial⟩ rfl rfl ?_
      refine AOD.pure (LT.not rfl) ⟨rfl, trivial⟩ trivial rfl rfl ?_
      refine AOD.nil (by kernel_rfl) ?_
      refine AWR.cond rfl (fun hc11 => ?_) (fun hc11 => ?_)
      · refine AWR.seq ?_
        refine AWR.ent (Ent.of (σ' := []) (m' := []) trivial trivial) ?_
        refine AWR.region ?_
        refine AOR.pure (LT.assign (v := (.s (.c (bC false)))) rfl) ⟨⟨rfl, rfl⟩, trivial⟩ trivial rfl rfl ?_
        refine AOR.nil ?_
        refine AWR.ret (FPost.mk (.inr rfl) ⟨rfl, trivial⟩ trivial rfl ⟨PermP.sc, trivial⟩ trivial)
      · refine AWR.skip ?_
        refine AWR.seq ?_
        refine AWR.ent (Ent.of (σ' := [(1, (.s (.c (.pl 21 0)))), (4, (.s (.c (.loc 26 0 r4.length)))), (5, (.s (.c (.pl 29 0)))), (6, (.s (.c (.loc 31 0 r6.length))))]) (m' := [(21, (.row 26 [[(iC aG.Points), (.pv (.xs false (aG.Bars.map encTBar)))]])), (26, (.prow 88 (r4.map encTBar))), (28, (.prow 88 (r5.Bars.map encTBar))), (29, (.row 30 [[(iC r5.Points), (.loc 28 0 r5.Bars.length)]])), (31, (.prow 88 (r6.map encTBar)))]) ⟨rfl, rfl, rfl, rfl, trivial⟩ ⟨rfl, rfl, rfl, rfl, rfl, trivial⟩) ?_
        refine AWR.region ?_
        refine AOR.pure (LT.assign (v := (.s (.c (iC 1)))) rfl) ⟨⟨rfl, rfl⟩, trivial⟩ trivial rfl rfl ?_
        refine AOR.nil ?_
        refine AWR.seq ?_
        refine AWR.region ?_
        refine AOR.pure (LT.bloadN (out := [(iC r5.Points), (.loc 28 0 r5.Bars.length)]) rfl ag30 (infS inf30) sz30 (by exact rfl) (by exact rfl)) ⟨rfl, trivial⟩ ⟨rfl, trivial⟩ rfl rfl ?_
        refine AOR.pure (LT.move (v := (.s (.c (iC 1)))) rfl) ⟨rfl, trivial⟩ trivial rfl rfl ?_
        refine AOR.bind fun r12 hr12 => ?_
        refine AOR.step (@LT.callF Try.prog _ _ 22 _ _ [(.agg [(iC r5.Points), (.loc 28 0 r5.Bars.length)]), (.c (iC 1))] _ _ [] _ _ _ _ ((show Fw.Fn Try.prog 22 [(.agg [(iC r5.Points), (.loc 28 0 r5.Bars.length)]), (.c (iC 1))] [(28, (.prow 88 (r5.Bars.map encTBar)))] (.s (.c (iC r12.1))) [(28, (.prow 88 (r12.2.map encTBar)))] [28] [] from Fw.Fn.ren [(0, 28)] (w_laws_markGraph r5 1 r12 hr12) rfl)) rfl cb22 (.cons (.agg (.cons (.same rfl) (.cons (.same rfl) .nil))) (.cons (.c (.same rfl)) .nil)) rfl rfl ⟨rfl, trivial⟩) ⟨rfl, rfl, rfl, trivial⟩ ⟨rfl, trivial⟩ rfl rfl ?_
        refine AOR.pure (LT.assign (v := (.s (.c (iC r12.1)))) rfl) ⟨rfl, trivial⟩ trivial rfl rfl ?_
        refine AOR.nil ?_
        refine AWR.seq ?_
        refine AWR.seq ?_
        refine AWR.joinK (fun j15 => ([(1, (.s (.c (.pl 21 0)))), (4, (.s (.c (.loc 26 0 r4.length)))), (6, (.s (.c (.loc 31 0 r6.length)))), (42, (.s (.c (bC j15))))], [(21, (.row 26 [[(iC aG.Points), (.pv (.xs false (aG.Bars.map encTBar)))]])), (26, (.prow 88 (r4.map encTBar))), (31, (.prow 88 (r6.map encTBar)))])) ?_ (fun j15 _ => ?_)
        · refine AWR.region ?_
          refine AOR.pure (LT.move (v := (.s (.c (iC r12.1)))) rfl) ⟨rfl, trivial⟩ trivial rfl rfl ?_
          refine AOR.pure (LT.lss rfl) ⟨rfl, ⟨rfl, rfl⟩, trivial⟩ trivial rfl rfl ?_
          refine AOR.pure (LT.move (v := (.s (.c (bC (decide (r12.1 < 0)))))) rfl) ⟨rfl, trivial⟩ trivial rfl rfl ?_
          refine AOR.split (fun hb16 => ?_) (fun hb16 => ?_)
          · refine AOR.skip ⟨_, rfl, .inl ⟨_, rfl, (by rw [hb16]; rfl)⟩⟩ rfl ?_
            refine AOR.skip ⟨_, rfl, .inl ⟨_, rfl, (by rw [hb16]; rfl)⟩⟩ rfl ?_
            refine AOR.skip ⟨_, rfl, .inl ⟨_, rfl, (by rw [hb16]; rfl)⟩⟩ rfl ?_
            refine AOR.skip ⟨_, rfl, .inl ⟨_, rfl, (by rw [hb16]; rfl)⟩⟩ rfl ?_
            refine AOR.pure (LT.pickT (v := (.s (.c (bC true)))) rfl hb16) ⟨rfl, ⟨rfl, rfl⟩, trivial⟩ trivial rfl rfl ?_
            refine AOR.nil ?_
            refine AWR.nil ⟨rfl, Ent.of ⟨rfl, rfl, rfl, rfl, trivial⟩ ⟨rfl, rfl, rfl, trivial⟩⟩
          · refine AOR.pure (LT.move (v := (.s (.c (.loc 31 0 r6.length)))) rfl) ⟨rfl, trivial⟩ trivial ⟨_, rfl, .inl ⟨_, rfl, (by rw [hb16]; rfl)⟩⟩ rfl ?_
            refine AOR.pure (LT.move (v := (.s (.c (.loc 26 0 r4.length)))) rfl) ⟨rfl, trivial⟩ trivial ⟨_, rfl, .inl ⟨_, rfl, (by rw [hb16]; rfl)⟩⟩ rfl ?_
            refine AOR.bind fun r17 hr17 => ?_
            refine AOR.pure (@LT.callF Try.prog _ _ 26 _ _ [(.c (.loc 31 0 r6.length)), (.c (.loc 26 0 r4.length))] _ _ [(31, (.prow 88 (r6.map encTBar))), (26, (.prow 88 (r4.map encTBar)))] _ _ _ _ (w_laws_eqBarS r6 r4 r17 hr17) rfl cb26 (.cons (.c (.tloc rfl rfl)) (.cons (.c (.tloc rfl rfl)) .nil)) rfl rfl trivial) ⟨rfl, rfl, rfl, trivial⟩ ⟨rfl, rfl, trivial⟩ ⟨_, rfl, .inl ⟨_, rfl, (by rw [hb16]; rfl)⟩⟩ rfl ?_
            refine AOR.pure (LT.not rfl) ⟨rfl, trivial⟩ trivial ⟨_, rfl, .inl ⟨_, rfl, (by rw [hb16]; rfl)⟩⟩ rfl ?_
            refine AOR.pure (LT.pickF (v := (.s (.c (bC (!r17))))) rfl hb16) ⟨rfl, rfl, trivial⟩ trivial rfl rfl ?_
            refine AOR.nil ?_
            refine AWR.nil ⟨rfl, Ent.of ⟨rfl, rfl, rfl, rfl, trivial⟩ ⟨rfl, rfl, rfl, trivial⟩⟩
        · refine AWR.cond rfl (fun hc18 => ?_) (fun hc18 => ?_)
          · refine AWR.seq ?_
            refine AWR.region ?_
            refine AOR.pure (LT.assign (v := (.s (.c (bC false)))) rfl) ⟨⟨rfl, rfl⟩, trivial⟩ trivial rfl rfl ?_
            refine AOR.nil ?_
            refine AWR.ret (FPost.mk (.inr rfl) ⟨rfl, trivial⟩ trivial rfl ⟨PermP.sc, trivial⟩ trivial)
          · refine AWR.skip ?_
            refine AWR.seq ?_
            refine AWR.region ?_
            refine AOR.pure (LT.assign (v := (.s (.c (iC 1)))) rfl) ⟨⟨rfl, rfl⟩, trivial⟩ trivial rfl rfl ?_
            refine AOR.nil ?_
            refine AWR.seq ?_
            refine AWR.region ?_
            refine AOR.pure (LT.move (v := (.s (.c (.loc 31 0 r6.length)))) rfl) ⟨rfl, trivial⟩ trivial rfl rfl ?_
            refine AOR.pure (LT.move (v := (.s (.c (iC 1)))) rfl) ⟨rfl, trivial⟩ trivial rfl rfl ?_
            refine AOR.bind fun r19 hr19 => ?_
            refine AOR.step (@LT.callF Try.prog _ _ 27 _ _ [(.c (.loc 31 0 r6.length)), (.c (iC 1))] _ _ [] _ _ _ _ ((show Fw.Fn Try.prog 27 [(.c (.loc 31 0 r6.length)), (.c (iC 1))] [(31, (.prow 88 (r6.map encTBar)))] (.s (.c (iC r19.1))) [(31, (.prow 88 (r19.2.map encTBar)))] [31] [] from Fw.Fn.ren [(0, 31)] (w_laws_markBarS r6 1 r19 hr19) rfl)) rfl cb27 (.cons (.c (.same rfl)) (.cons (.c (.same rfl)) .nil)) rfl rfl ⟨rfl, trivial⟩) ⟨rfl, rfl, rfl, trivial⟩ ⟨rfl, trivial⟩ rfl rfl ?_
            refine AOR.pure (LT.assign (v := (.s (.c (iC r19.1)))) rfl) ⟨rfl, trivial⟩ trivial rfl rfl ?_
            refine AOR.nil ?_
            refine AWR.seq ?_
            refine AWR.region ?_
            refine AOR.pure (LT.assign (v := (.s (.c (iC 1)))) rfl) ⟨⟨rfl, rfl⟩, trivial⟩ trivial rfl rfl ?_
            refine AOR.nil ?_
            refine AWR.seq ?_
            refine AWR.region ?_
            refine AOR.pure (LT.move (v := (.s (.c (.loc 31 0 r6.length)))) rfl) ⟨rfl, trivial⟩ trivial rfl rfl ?_
            refine AOR.pure (LT.move (v := (.s (.c (iC 1)))) rfl) ⟨rfl, trivial⟩ trivial rfl rfl ?_
            refine AOR.bind fun u20 hu20 => ?_
            refine AOR.bind fun r21 hr21 => ?_
            refine AOR.pure (@LT.callF Try.prog _ _ 28 _ _ [(.c (.loc 31 0 r6.length)), (.c (iC 1))] _ _ [(31, (.prow 88 (r19.2.map encTBar)))] _ _ _ _ (w_laws_heldBarS r19.2 1 r21 hr21) rfl cb28 (.cons (.c (.tloc (same_eq hu20) rfl)) (.cons (.c (.same rfl)) .nil)) rfl rfl trivial) ⟨rfl, rfl, rfl, trivial⟩ ⟨rfl, trivial⟩ rfl rfl ?_
            refine AOR.pure (LT.assign (v := (.s (.c (iC r21)))) rfl) ⟨rfl, trivial⟩ trivial rfl rfl ?_
            refine AOR.nil ?_
            refine AWR.seq ?_
            refine AWR.seq ?_
            refine AWR.ent (Ent.of (σ' := [(1, (.s (.c (.pl 21 0)))), (4, (.s (.c (.loc 26 0 r4.length)))), (6, (.s (.c (.loc 31 0 r6.length)))), (8, (.s (.c (iC r19.1)))), (9, (.s (.c (iC r21))))]) (m' := [(21, (.row 26 [[(iC aG.Points), (.pv (.xs false (aG.Bars.map encTBar)))]])), (26, (.prow 88 (r4.map encTBar))), (31, (.prow 88 (r19.2.map encTBar)))]) ⟨rfl, rfl, rfl, rfl, rfl, trivial⟩ ⟨rfl, rfl, rfl, trivial⟩) ?_
            refine AWR.region ?_
            refine AOR.pure (LT.move (v := (.s (.c (iC r21)))) rfl) ⟨rfl, trivial⟩ trivial rfl rfl ?_
            refine AOR.pure (LT.lss rfl) ⟨rfl, ⟨rfl, rfl⟩, trivial⟩ trivial rfl rfl ?_
            refine AOR.nil ?_
            refine AWR.cond rfl (fun hc22 => ?_) (fun hc22 => ?_)
            · refine AWR.seq ?_
              refine AWR.region ?_
              refine AOR.pure (LT.assign (v := (.s (.c (bC false)))) rfl) ⟨⟨rfl, rfl⟩, trivial⟩ trivial rfl rfl ?_
              refine AOR.nil ?_
              refine AWR.ret (FPost.mk (.inr rfl) ⟨rfl, trivial⟩ trivial rfl ⟨PermP.sc, trivial⟩ trivial)
            · refine AWR.skip ?_
              refine AWR.seq ?_
              refine AWR.seq ?_
              refine AWR.region ?_
              refine AOR.pure (LT.move (v := (.s (.c (iC r21)))) rfl) ⟨rfl, trivial⟩ trivial rfl rfl ?_
              refine AOR.pure (LT.move (v := (.s (.c (iC r19.1)))) rfl) ⟨rfl, trivial⟩ trivial rfl rfl ?_
              refine AOR.pure (LT.neq rfl) ⟨rfl, rfl, trivial⟩ trivial rfl rfl ?_
              refine AOR.nil ?_
              refine AWR.cond rfl (fun hc23 => ?_) (fun hc23 => ?_)
              · refine AWR.seq ?_
                refine AWR.region ?_
                refine AOR.pure (LT.assign (v := (.s (.c (bC false)))) rfl) ⟨⟨rfl, rfl⟩, trivial⟩ trivial rfl rfl ?_
                refine AOR.nil ?_
                refine AWR.ret (FPost.mk (.inr rfl) ⟨rfl, trivial⟩ trivial rfl ⟨PermP.sc, trivial⟩ trivial)
              · refine AWR.skip ?_
                refine AWR.seq ?_
                refine AWR.region ?_
                refine AOR.pure (LT.bloadN (out := [(iC aG.Points), (.pv (.xs false (aG.Bars.map encTBar)))]) rfl ag26 (infS inf26) sz26 (by exact rfl) (by exact rfl)) ⟨rfl, trivial⟩ ⟨rfl, trivial⟩ rfl rfl ?_
                refine AOR.bind fun r24 hr24 => ?_
                refine AOR.step (@LT.callF Try.prog _ _ 19 _ _ [(.agg [(iC aG.Points), (.pv (.xs false (aG.Bars.map encTBar)))])] _ _ [] _ _ _ _ ((show Fw.Fn Try.prog 19 [(.agg [(iC aG.Points), (.pv (.xs false (aG.Bars.map encTBar)))])] [] (.s (.agg [(iC r24.Points), (.loc 41 0 r24.Bars.length)])) [(41, (.prow 88 (r24.Bars.map encTBar)))] [] [41] from Fw.Fn.ren [(0, 41)] (w_laws_toGraph aG r24 hr24) rfl)) rfl cb19 (.cons (.agg (.cons (.same rfl) (.cons (.same rfl) .nil))) .nil) rfl rfl trivial) ⟨rfl, rfl, trivial⟩ trivial rfl rfl ?_
                refine AOR.bind fun r25 hr25 => ?_
                refine AOR.step (@LT.callF Try.prog _ _ 25 _ _ [(.agg [(iC r24.Points), (.loc 41 0 r24.Bars.length)])] _ _ [(41, (.prow 88 (r24.Bars.map encTBar)))] _ _ _ _ ((show Fw.Fn Try.prog 25 [(.agg [(iC r24.Points), (.pv (.xs false (r24.Bars.map encTBar)))])] [] (.s (.c (.loc 43 0 r25.length))) [(43, (.prow 88 (r25.map encTBar)))] [] [43] from Fw.Fn.ren [(0, 43)] (w_impl_MissingBars r24 r25 hr25) rfl)) rfl cb25 (.cons (.agg (.cons (.same rfl) (.cons (.tloc rfl rfl) .nil))) .nil) rfl rfl trivial) ⟨rfl, rfl, trivial⟩ ⟨rfl, trivial⟩ rfl rfl ?_
                refine AOR.pure (LT.assign (v := (.s (.c (.loc 43 0 r25.length)))) rfl) ⟨rfl, trivial⟩ trivial rfl rfl ?_
                refine AOR.nil ?_
                refine AWR.seq ?_
                refine AWR.seq ?_
                refine AWR.ent (Ent.of (σ' := [(4, (.s (.c (.loc 26 0 r4.length)))), (6, (.s (.c (.loc 31 0 r6.length)))), (8, (.s (.c (iC r19.1)))), (10, (.s (.c (.loc 43 0 r25.length))))]) (m' := [(26, (.prow 88 (r4.map encTBar))), (31, (.prow 88 (r19.2.map encTBar))), (43, (.prow 88 (r25.map encTBar)))]) ⟨rfl, rfl, rfl, rfl, trivial⟩ ⟨rfl, rfl, rfl, trivial⟩) ?_
                refine AWR.region ?_
                refine AOR.pure (LT.move (v := (.s (.c (.loc 43 0 r25.length)))) rfl) ⟨rfl, trivial⟩ trivial rfl rfl ?_
                refine AOR.pure (LT.move (v := (.s (.c (.loc 26 0 r4.length)))) rfl) ⟨rfl, trivial⟩ trivial rfl rfl ?_
                refine AOR.bind fun r26 hr26 => ?_
                refine AOR.pure (@LT.callF Try.prog _ _ 26 _ _ [(.c (.loc 43 0 r25.length)), (.c (.loc 26 0 r4.length))] _ _ [(43, (.prow 88 (r25.map encTBar))), (26, (.prow 88 (r4.map encTBar)))] _ _ _ _ (w_laws_eqBarS r25 r4 r26 hr26) rfl cb26 (.cons (.c (.tloc rfl rfl)) (.cons (.c (.tloc rfl rfl)) .nil)) rfl rfl trivial) ⟨rfl, rfl, rfl, trivial⟩ ⟨rfl, rfl, trivial⟩ rfl rfl ?_
                refine AOR.pure (LT.not rfl) ⟨rfl, trivial⟩ trivial rfl rfl ?_
                refine AOR.nil ?_
                refine AWR.cond rfl (fun hc27 => ?_) (fun hc27 => ?_)
                · refine AWR.seq ?_
                  refine AWR.region ?_
                  refine AOR.pure (LT.assign (v := (.s (.c (bC false)))) rfl) ⟨⟨rfl, rfl⟩, trivial⟩ trivial rfl rfl ?_
                  refine AOR.nil ?_
                  refine AWR.ret (FPost.mk (.inr rfl) ⟨rfl, trivial⟩ trivial rfl ⟨PermP.sc, trivial⟩ trivial)
                · refine AWR.skip ?_
                  refine AWR.seq ?_
                  refine AWR.region ?_
                  refine AOR.pure (LT.assign (v := (.s (.c (iC 1)))) rfl) ⟨⟨rfl, rfl⟩, trivial⟩ trivial rfl rfl ?_
                  refine AOR.nil ?_
                  refine AWR.seq ?_
                  refine AWR.region ?_
                  refine AOR.pure (LT.move (v := (.s (.c (.loc 31 0 r6.length)))) rfl) ⟨rfl, trivial⟩ trivial rfl rfl ?_
                  refine AOR.pure (LT.move (v := (.s (.c (iC 1)))) rfl) ⟨rfl, trivial⟩ trivial rfl rfl ?_
                  refine AOR.bind fun u28 hu28 => ?_
                  refine AOR.bind fun r29 hr29 => ?_
                  refine AOR.pure (@LT.callF Try.prog _ _ 28 _ _ [(.c (.loc 31 0 r6.length)), (.c (iC 1))] _ _ [(31, (.prow 88 (r19.2.map encTBar)))] _ _ _ _ (w_laws_heldBarS r19.2 1 r29 hr29) rfl cb28 (.cons (.c (.tloc (same_eq hu28) rfl)) (.cons (.c (.same rfl)) .nil)) rfl rfl trivial) ⟨rfl, rfl, rfl, trivial⟩ ⟨rfl, trivial⟩ rfl rfl ?_
                  refine AOR.pure (LT.assign (v := (.s (.c (iC r29)))) rfl) ⟨rfl, trivial⟩ trivial rfl rfl ?_
                  refine AOR.nil ?_
                  refine AWR.seq ?_
                  refine AWR.seq ?_
                  refine AWR.region ?_
                  refine AOR.pure (LT.move (v := (.s (.c (iC r29)))) rfl) ⟨rfl, trivial⟩ trivial rfl rfl ?_
                  refine AOR.pure (LT.lss rfl) ⟨rfl, ⟨rfl, rfl⟩, trivial⟩ trivial rfl rfl ?_
                  refine AOR.nil ?_
                  refine AWR.cond rfl (fun hc30 => ?_) (fun hc30 => ?_)
                  · refine AWR.seq ?_
                    refine AWR.ent (Ent.of (σ' := []) (m' := []) trivial trivial) ?_
                    refine AWR.region ?_
                    refine AOR.pure (LT.assign (v := (.s (.c (bC false)))) rfl) ⟨⟨rfl, rfl⟩, trivial⟩ trivial rfl rfl ?_
                    refine AOR.nil ?_
                    refine AWR.ret (FPost.mk (.inr rfl) ⟨rfl, trivial⟩ trivial rfl ⟨PermP.sc, trivial⟩ trivial)
                  · refine AWR.skip ?_
                    refine AWR.seq ?_
                    refine AWR.seq ?_
                    refine AWR.ent (Ent.of (σ' := [(8, (.s (.c (iC r19.1)))), (9, (.s (.c (iC r29))))]) (m' := []) ⟨rfl, rfl, trivial⟩ trivial) ?_
                    refine AWR.region ?_
                    refine AOR.pure (LT.move (v := (.s (.c (iC r29)))) rfl) ⟨rfl, trivial⟩ trivial rfl rfl ?_
                    refine AOR.pure (LT.move (v := (.s (.c (iC r19.1)))) rfl) ⟨rfl, trivial⟩ trivial rfl rfl ?_
                    refine AOR.pure (LT.neq rfl) ⟨rfl, rfl, trivial⟩ trivial rfl rfl ?_
                    refine AOR.nil ?_
                    refine AWR.cond rfl (fun hc31 => ?_) (fun hc31 => ?_)
                    · refine AWR.seq ?_
                      refine AWR.region ?_
                      refine AOR.pure (LT.assign (v := (.s (.c (bC false)))) rfl) ⟨⟨rfl, rfl⟩, trivial⟩ trivial rfl rfl ?_
                      refine AOR.nil ?_
                      refine AWR.ret (FPost.mk (.inr rfl) ⟨rfl, trivial⟩ trivial rfl ⟨PermP.sc, trivial⟩ trivial)
                    · refine AWR.skip ?_
                      refine AWR.seq ?_
                      refine AWR.region ?_
                      refine AOR.pure (LT.assign (v := (.s (.c (bC true)))) rfl) ⟨⟨rfl, rfl⟩, trivial⟩ trivial rfl rfl ?_
                      refine AOR.nil ?_
                      refine AWR.ret (FPost.mk (.inr rfl) ⟨rfl, trivial⟩ trivial rfl ⟨PermP.sc, trivial⟩ trivial)
set_option maxRecDepth 100000 in
set_option maxHeartbeats 8000000 in
theorem w_laws_toIntS (a : (List Int)) : ∀ t, m_laws_toIntS a = some t → Fw.Fn Try.prog 30 [(.c (.pv (.xs false (a.map encInt))))] [] (.s (.c (.loc 0 0 t.length))) [(0, (.prow 3 (t.map encInt)))] [] [0] := by
  refine Fw.Fn.of (P := Try.prog) (X := [0]) (pn := []) (rs := (fun (t : (List Int)) => [(.c (.loc 0 0 t.length))])) (dfs := (fun (t : (List Int)) => [(0, (.prow 3 (t.map encInt)))])) Try.func30 rfl Try.ntmps30 (Nat.le_of_ble_eq_true rfl) rfl ?_
  intro w0 U0 R0 g0
  unfold m_laws_toIntS
  refine AWR.seq ?_
  refine AWR.region ?_
  refine AOR.pure (LT.assign (v := (.s (.c (sC nilV)))) rfl) ⟨⟨rfl, rfl⟩, trivial⟩ trivial rfl rfl ?_
  refine AOR.nil ?_
  refine AWR.seq ?_
  refine AWR.region ?_
  refine AOR.pure (LT.move (v := (.s (.c (.pv (.xs false (a.map encInt)))))) rfl) ⟨rfl, trivial⟩ trivial rfl rfl ?_
  refine AOR.pure (LT.tlenRO rfl und40) ⟨rfl, trivial⟩ trivial rfl rfl ?_
  refine AOR.bind fun u1 hu1 => ?_
  refine AOR.step (LT.tmake (n := 21) (enc := encInt) (zc := [(iC 0)]) (0 : Int) rfl und40 ti3 rfl rfl rfl (by decide) (by decide) (lenOk_le hu1) rfl) ⟨rfl, rfl, trivial⟩ trivial rfl rfl ?_
  refine AOR.pure (LT.assign (v := (.s (.c (.loc 21 0 (List.replicate (a.length : Int).toNat (0 : Int)).length)))) rfl) ⟨rfl, trivial⟩ trivial rfl rfl ?_
  refine AOR.nil ?_
  refine AWR.seq ?_
  refine AWR.seq ?_
  refine AWR.region ?_
  refine AOR.pure (LT.assign (v := (.s (.c (iC 0)))) rfl) ⟨⟨rfl, rfl⟩, trivial⟩ trivial rfl rfl ?_
  refine AOR.nil ?_
  refine AWR.block ?_
  refine AWR.loop1 (id := 0) (m_laws_toIntS_L1 a) (fun s2 => ([(0, (.s (.c (.pv (.xs false (a.map encInt)))))), (3, (.s (.c (.loc 21 0 s2.2.length)))), (4, (.s (.c (iC s2.1))))], [(21, (.prow 3 (s2.2.map encInt)))])) (fun b9 => ([(3, (.s (.c (.loc 21 0 b9.length))))], [(21, (.prow 3 (b9.map encInt)))])) ?_ (Ent.of ⟨rfl, rfl, rfl, trivial⟩ ⟨rfl, trivial⟩) rfl (fun b9 _ => ?_)
  · intro s2
    unfold m_laws_toIntS_L1
    refine AWR.seq ?_
    refine AWR.seq ?_
    refine AWR.region ?_
    refine AOR.pure (LT.move (v := (.s (.c (iC s2.1)))) rfl) ⟨rfl, trivial⟩ trivial rfl rfl ?_
    refine AOR.pure (LT.move (v := (.s (.c (.pv (.xs false (a.map encInt)))))) rfl) ⟨rfl, trivial⟩ trivial rfl rfl ?_
    refine AOR.pure (LT.tlenRO rfl und40) ⟨rfl, trivial⟩ trivial rfl rfl ?_
    refine AOR.pure (LT.lss rfl) ⟨rfl, rfl, trivial⟩ trivial rfl rfl ?_
    refine AOR.nil ?_
    refine AWR.cond rfl (fun hc10 => ?_) (fun hc10 => ?_)
    · refine AWR.skip ?_
      refine AWR.seq ?_
      refine AWR.block ?_
      refine AWR.region ?_
      refine AOR.pure (LT.move (v := (.s (.c (.loc 21 0 s2.2.length)))) rfl) ⟨rfl, trivial⟩ trivial rfl rfl ?_
      refine AOR.pure (LT.move (v := (.s (.c (iC s2.1)))) rfl) ⟨rfl, trivial⟩ trivial rfl rfl ?_
      refine AOR.pure (LT.move (v := (.s (.c (.pv (.xs false (a.map encInt)))))) rfl) ⟨rfl, trivial⟩ trivial rfl rfl ?_
      refine AOR.pure (LT.move (v := (.s (.c (iC s2.1)))) rfl) ⟨rfl, trivial⟩ trivial rfl rfl ?_
      refine AOR.bind fun x11 hx11 => ?_
      refine AOR.pure (LT.tindexRO (enc := encInt) rfl el40 hx11 sz3) ⟨rfl, rfl, trivial⟩ trivial rfl rfl ?_
      refine AOR.pure (LT.loadPx1 rfl ag3) ⟨rfl, trivial⟩ trivial rfl rfl ?_
      refine AOR.bind fun x12 hx12 => ?_
      refine AOR.pure (LT.tindexLoc rfl rfl el40 hx12) ⟨rfl, rfl, trivial⟩ ⟨rfl, trivial⟩ rfl rfl ?_
      refine AOR.step (LT.tstore (k := 0) (v := (.c (iC x11))) (b' := x11) rfl rfl (infS inf3) sz3 (by exact rfl) hx12 (by exact rfl) (by exact Nat.le_of_ble_eq_true rfl) (by exact rfl)) ⟨rfl, rfl, trivial⟩ ⟨rfl, trivial⟩ rfl rfl ?_
      refine AOR.nil ?_
      refine AWR.blk ?_
      refine AWR.ent (Ent.of (σ' := [(0, (.s (.c (.pv (.xs false (a.map encInt)))))), (3, (.s (.c (.loc 21 0 s2.2.length)))), (4, (.s (.c (iC s2.1))))]) (m' := [(21, (.prow 3 ((s2.2.set s2.1.toNat x11).map encInt)))]) ⟨rfl, rfl, rfl, trivial⟩ ⟨rfl, trivial⟩) ?_
      refine AWR.region ?_
      refine AOR.pure (LT.move (v := (.s (.c (iC s2.1)))) rfl) ⟨rfl, trivial⟩ trivial rfl rfl ?_
      refine AOR.pure (LT.add rfl) ⟨rfl, ⟨rfl, rfl⟩, trivial⟩ trivial rfl rfl ?_
      refine AOR.pure (LT.assign (v := (.s (.c (iC (w64 (s2.1 + 1)))))) rfl) ⟨rfl, trivial⟩ trivial rfl rfl ?_
      refine AOR.nil ?_
      refine AWR.nil ⟨rfl, Ent.of ⟨rfl, (congrArg (fun l1 => (some (AV.s (.c (.loc 21 0 l1))) : Option AV)) (show s2.2.length = (s2.2.set s2.1.toNat x11).length by simp only [List.length_set])), rfl, trivial⟩ ⟨rfl, trivial⟩⟩
    · refine AWR.exit_end rfl ⟨rfl, Ent.of ⟨rfl, trivial⟩ ⟨rfl, trivial⟩⟩
  · refine AWR.seq ?_
    refine AWR.region ?_
    refine AOR.pure (LT.move (v := (.s (.c (.loc 21 0 b9.length)))) rfl) ⟨rfl, trivial⟩ trivial rfl rfl ?_
    refine AOR.pure (LT.assign (v := (.s (.c (.loc 21 0 b9.length)))) rfl) ⟨rfl, trivial⟩ trivial rfl rfl ?_
    refine AOR.nil ?_
    refine AWR.ent (Ent.of (σ' := [(2, (.s (.c (.loc 21 0 b9.length))))]) (m' := [(21, (.prow 3 (b9.map encInt)))]) ⟨rfl, trivial⟩ ⟨rfl, trivial⟩) ?_
    refine AWR.ent (Ent.mv 21 0 rfl rfl) ?_
    refine AWR.ent (Ent.of (σ' := [(2, (.s (.c (.loc 0 0 b9.length))))]) (m' := [(0, (.prow 3 (b9.map encInt)))]) ⟨rfl, trivial⟩ ⟨rfl, trivial⟩) ?_
    refine AWR.ret (FPost.mk (.inr rfl) ⟨rfl, trivial⟩ ⟨rfl, trivial⟩ rfl ⟨trivial, trivial⟩ ⟨PermO.prow' perm_encInt, trivial⟩)
set_option maxRecDepth 100000 in
set_option maxHeartbeats 8000000 in
theorem w_spec_l2Has (l : (List Int)) (x : Int) : ∀ t, m_spec_l2Has l x = some t → Fw.Fn Try.prog 72 [(.c (.pv (.xs false (l.map encInt)))), (.c (iC x))] [] (.s (.c (bC t))) [] [] [] := by
  refine Fw.Fn.of (P := Try.prog) (X := []) (pn := []) (rs := (fun (t : Bool) => [(.c (bC t))])) (dfs := (fun (t : Bool) => [])) Try.func72 rfl Try.ntmps72 (Nat.le_of_ble_eq_true rfl) rfl ?_
  intro w0 U0 R0 g0
  unfold m_spec_l2Has
  refine AWR.seq ?_
  refine AWR.region ?_
  refine AOR.pure (LT.assign (v := (.s (.c (bC false)))) rfl) ⟨⟨rfl, rfl⟩, trivial⟩ trivial rfl rfl ?_
  refine AOR.nil ?_
  refine AWR.seq ?_
  refine AWR.seq ?_
  refine AWR.region ?_
  refine AOR.pure (LT.assign (v := (.s (.c (iC 0)))) rfl) ⟨⟨rfl, rfl⟩, trivial⟩ trivial rfl rfl ?_
  refine AOR.nil ?_
  refine AWR.block ?_
  refine AWR.loopR (id := 0) (m_spec_l2Has_L1 l x) (fun s1 => ([(0, (.s (.c (.pv (.xs false (l.map encInt)))))), (1, (.s (.c (iC x)))), (5, (.s (.c (iC s1))))], [])) (fun b8 => ([], [])) (FPost Try.prog Try.f72.results.toList [] [] (fun (t : Bool) => [(.c (bC t))]) (fun (t : Bool) => [])) ?_ (Ent.of ⟨rfl, rfl, rfl, trivial⟩ trivial) rfl (fun b8 _ => ?_) (by intro r t σ m ht hk; injection ht with ht; subst ht; exact hk)
  · intro s1
    unfold m_spec_l2Has_L1
    refine AWR.seq ?_
    refine AWR.seq ?_
    refine AWR.region ?_
    refine AOR.pure (LT.move (v := (.s (.c (iC s1)))) rfl) ⟨rfl, trivial⟩ trivial rfl rfl ?_
    refine AOR.pure (LT.move (v := (.s (.c (.pv (.xs false (l.map encInt)))))) rfl) ⟨rfl, trivial⟩ trivial rfl rfl ?_
    refine AOR.pure (LT.tlenRO rfl und40) ⟨rfl, trivial⟩ trivial rfl rfl ?_
    refine AOR.pure (LT.lss rfl) ⟨rfl, rfl, trivial⟩ trivial rfl rfl ?_
    refine AOR.nil ?_
    refine AWR.cond rfl (fun hc9 => ?_) (fun hc9 => ?_)
    · refine AWR.skip ?_
      refine AWR.seq ?_
      refine AWR.block ?_
      refine AWR.seq ?_
      refine AWR.region ?_
      refine AOR.pure (LT.move (v := (.s (.c (.pv (.xs false (l.map encInt)))))) rfl) ⟨rfl, trivial⟩ trivial rfl rfl ?_
      refine AOR.pure (LT.move (v := (.s (.c (iC s1)))) rfl) ⟨rfl, trivial⟩ trivial rfl rfl ?_
      refine AOR.bind fun x10 hx10 => ?_
      refine AOR.pure (LT.tindexRO (enc := encInt) rfl el40 hx10 sz3) ⟨rfl, rfl, trivial⟩ trivial rfl rfl ?_
      refine AOR.pure (LT.loadPx1 rfl ag3) ⟨rfl, trivial⟩ trivial rfl rfl ?_
      refine AOR.pure (LT.move (v := (.s (.c (iC x)))) rfl) ⟨rfl, trivial⟩ trivial rfl rfl ?_
      refine AOR.pure (LT.eql rfl) ⟨rfl, rfl, trivial⟩ trivial rfl rfl ?_
      refine AOR.nil ?_
      refine AWR.cond rfl (fun hc11 => ?_) (fun hc11 => ?_)
      · refine AWR.seq ?_
        refine AWR.region ?_
        refine AOR.pure (LT.assign (v := (.s (.c (bC true)))) rfl) ⟨⟨rfl, rfl⟩, trivial⟩ trivial rfl rfl ?_
        refine AOR.nil ?_
        refine AWR.ret ⟨rfl, FPost.mk (.inr rfl) ⟨rfl, trivial⟩ trivial rfl ⟨PermP.sc, trivial⟩ trivial⟩
      · refine AWR.skip ?_
        refine AWR.blk ?_
        refine AWR.region ?_
        refine AOR.pure (LT.move (v := (.s (.c (iC s1)))) rfl) ⟨rfl, trivial⟩ trivial rfl rfl ?_
        refine AOR.pure (LT.add rfl) ⟨rfl, ⟨rfl, rfl⟩, trivial⟩ trivial rfl rfl ?_
        refine AOR.pure (LT.assign (v := (.s (.c (iC (w64 (s1 + 1)))))) rfl) ⟨rfl, trivial⟩ trivial rfl rfl ?_
        refine AOR.nil ?_
        refine AWR.nil ⟨rfl, Ent.of ⟨rfl, rfl, rfl, trivial⟩ trivial⟩
    · refine AWR.exit_end rfl ⟨rfl, Ent.of trivial trivial⟩
  · refine AWR.seq ?_
    refine AWR.region ?_
    refine AOR.pure (LT.assign (v := (.s (.c (bC false)))) rfl) ⟨⟨rfl, rfl⟩, trivial⟩ trivial rfl rfl ?_
    refine AOR.nil ?_
    refine AWR.ret (FPost.mk (.inr rfl) ⟨rfl, trivial⟩ trivial rfl ⟨PermP.sc, trivial⟩ trivial)
end Go.Proofs.Ytihibpkbhjpajaa
