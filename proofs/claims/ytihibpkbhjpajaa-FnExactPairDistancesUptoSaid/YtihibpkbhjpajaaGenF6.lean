/- The code computes the models. Written by a program of mine. -/
import Derived.Test.YtihibpkbhjpajaaGenF5
set_option linter.unusedVariables false
set_option linter.unusedSimpArgs false
open Go Go.Fw
namespace Go.Proofs.Ytihibpkbhjpajaa
set_option maxRecDepth 100000 in
set_option maxHeartbeats 8000000 in
theorem w_laws_FnExactIsPinned (aP : TPinned) : ∀ t, m_laws_FnExactIsPinned aP = some t → Fw.Fn Try.prog 7 [(.agg [(iC aP.Graph.Points), (.pv (.xs false (aP.Graph.Bars.map encTBar))), (.pv (.xs false (aP.Ground.map encInt)))])] [] (.s (.c (bC t))) [] [] [] := by
  refine Fw.Fn.of (P := Try.prog) (X := []) (pn := []) (rs := (fun (t : Bool) => [(.c (bC t))])) (dfs := (fun (t : Bool) => [])) Try.func7 rfl Try.ntmps7 (Nat.le_of_ble_eq_true rfl) rfl ?_
  intro w0 U0 R0 g0
  unfold m_laws_FnExactIsPinned
  refine AWR.seq ?_
  refine AWR.region ?_
  refine AOR.step (LT.box (n := 21) (v := (.agg [(iC aP.Graph.Points), (.pv (.xs false (aP.Graph.Bars.map encTBar))), (.pv (.xs false (aP.Ground.map encInt)))])) rfl sz47 (by exact rfl)) ⟨rfl, trivial⟩ trivial rfl rfl ?_
  refine AOR.pure (LT.assign (v := (.s (.c (bC false)))) rfl) ⟨⟨rfl, rfl⟩, trivial⟩ trivial rfl rfl ?_
  refine AOR.nil ?_
  refine AWR.seq ?_
  refine AWR.region ?_
  refine AOR.pure (LT.assign (v := (.s (.c (iC 1048576)))) rfl) ⟨⟨rfl, rfl⟩, trivial⟩ trivial rfl rfl ?_
  refine AOR.nil ?_
  refine AWR.seq ?_
  refine AWR.region ?_
  refine AOR.pure (LT.bloadN (out := [(iC aP.Graph.Points), (.pv (.xs false (aP.Graph.Bars.map encTBar))), (.pv (.xs false (aP.Ground.map encInt)))]) rfl ag47 (infS inf47) sz47 (by exact rfl) (by exact rfl)) ⟨rfl, trivial⟩ ⟨rfl, trivial⟩ rfl rfl ?_
  refine AOR.pure (LT.move (v := (.s (.c (iC 1048576)))) rfl) ⟨rfl, trivial⟩ trivial rfl rfl ?_
  refine AOR.bind fun r1 hr1 => ?_
  refine AOR.pure (@LT.callF Try.prog _ _ 34 _ _ [(.agg [(iC aP.Graph.Points), (.pv (.xs false (aP.Graph.Bars.map encTBar))), (.pv (.xs false (aP.Ground.map encInt)))]), (.c (iC 1048576))] _ _ [] _ _ _ _ (w_laws_szPinned aP 1048576 r1 hr1) rfl cb34 (.cons (.agg (.cons (.same rfl) (.cons (.same rfl) (.cons (.same rfl) .nil)))) (.cons (.c (.same rfl)) .nil)) rfl rfl trivial) ⟨rfl, rfl, rfl, trivial⟩ trivial rfl rfl ?_
  refine AOR.pure (LT.assign (v := (.s (.c (iC r1)))) rfl) ⟨rfl, trivial⟩ trivial rfl rfl ?_
  refine AOR.nil ?_
  refine AWR.seq ?_
  refine AWR.seq ?_
  refine AWR.region ?_
  refine AOR.pure (LT.move (v := (.s (.c (iC r1)))) rfl) ⟨rfl, trivial⟩ trivial rfl rfl ?_
  refine AOR.pure (LT.lss rfl) ⟨rfl, ⟨rfl, rfl⟩, trivial⟩ trivial rfl rfl ?_
  refine AOR.nil ?_
  refine AWR.cond rfl (fun hc2 => ?_) (fun hc2 => ?_)
  · refine AWR.seq ?_
    refine AWR.ent (Ent.of (σ' := []) (m' := []) trivial trivial) ?_
    refine AWR.region ?_
    refine AOR.pure (LT.assign (v := (.s (.c (bC true)))) rfl) ⟨⟨rfl, rfl⟩, trivial⟩ trivial rfl rfl ?_
    refine AOR.nil ?_
    refine AWR.ret (FPost.mk (.inr rfl) ⟨rfl, trivial⟩ trivial rfl ⟨PermP.sc, trivial⟩ trivial)
  · refine AWR.skip ?_
    refine AWR.seq ?_
    refine AWR.ent (Ent.of (σ' := [(1, (.s (.c (.pl 21 0))))]) (m' := [(21, (.row 47 [[(iC aP.Graph.Points), (.pv (.xs false (aP.Graph.Bars.map encTBar))), (.pv (.xs false (aP.Ground.map encInt)))]]))]) ⟨rfl, trivial⟩ ⟨rfl, trivial⟩) ?_
    refine AWR.region ?_
    refine AOR.pure (LT.bloadN (out := [(iC aP.Graph.Points), (.pv (.xs false (aP.Graph.Bars.map encTBar))), (.pv (.xs false (aP.Ground.map encInt)))]) rfl ag47 (infS inf47) sz47 (by exact rfl) (by exact rfl)) ⟨rfl, trivial⟩ ⟨rfl, trivial⟩ rfl rfl ?_
    refine AOR.bind fun r3 hr3 => ?_
    refine AOR.step (@LT.callF Try.prog _ _ 36 _ _ [(.agg [(iC aP.Graph.Points), (.pv (.xs false (aP.Graph.Bars.map encTBar))), (.pv (.xs false (aP.Ground.map encInt)))])] _ _ [] _ _ _ _ ((show Fw.Fn Try.prog 36 [(.agg [(iC aP.Graph.Points), (.pv (.xs false (aP.Graph.Bars.map encTBar))), (.pv (.xs false (aP.Ground.map encInt)))])] [] (.s (.agg [(iC r3.Graph.Points), (.loc 24 0 r3.Graph.Bars.length), (.loc 25 0 r3.Ground.length)])) [(24, (.prow 88 (r3.Graph.Bars.map encTBar))), (25, (.prow 3 (r3.Ground.map encInt)))] [] [24, 25] from Fw.Fn.ren [(0, 24), (1, 25)] (w_laws_toPinned aP r3 hr3) rfl)) rfl cb36 (.cons (.agg (.cons (.same rfl) (.cons (.same rfl) (.cons (.same rfl) .nil)))) .nil) rfl rfl trivial) ⟨rfl, rfl, trivial⟩ trivial rfl rfl ?_
    refine AOR.bind fun r4 hr4 => ?_
    refine AOR.pure (@LT.callF Try.prog _ _ 35 _ _ [(.agg [(iC r3.Graph.Points), (.loc 24 0 r3.Graph.Bars.length), (.loc 25 0 r3.Ground.length)])] _ _ [(24, (.prow 88 (r3.Graph.Bars.map encTBar))), (25, (.prow 3 (r3.Ground.map encInt)))] _ _ _ _ (w_spec_IsPinned r3 r4 hr4) rfl cb35 (.cons (.agg (.cons (.same rfl) (.cons (.tloc rfl rfl) (.cons (.tloc rfl rfl) .nil)))) .nil) rfl rfl trivial) ⟨rfl, rfl, trivial⟩ ⟨rfl, rfl, trivial⟩ rfl rfl ?_
    refine AOR.pure (LT.assign (v := (.s (.c (bC r4)))) rfl) ⟨rfl, trivial⟩ trivial rfl rfl ?_
    refine AOR.nil ?_
    refine AWR.seq ?_
    refine AWR.region ?_
    refine AOR.pure (LT.bloadN (out := [(iC aP.Graph.Points), (.pv (.xs false (aP.Graph.Bars.map encTBar))), (.pv (.xs false (aP.Ground.map encInt)))]) rfl ag47 (infS inf47) sz47 (by exact rfl) (by exact rfl)) ⟨rfl, trivial⟩ ⟨rfl, trivial⟩ rfl rfl ?_
    refine AOR.bind fun r5 hr5 => ?_
    refine AOR.step (@LT.callF Try.prog _ _ 36 _ _ [(.agg [(iC aP.Graph.Points), (.pv (.xs false (aP.Graph.Bars.map encTBar))), (.pv (.xs false (aP.Ground.map encInt)))])] _ _ [] _ _ _ _ ((show Fw.Fn Try.prog 36 [(.agg [(iC aP.Graph.Points), (.pv (.xs false (aP.Graph.Bars.map encTBar))), (.pv (.xs false (aP.Ground.map encInt)))])] [] (.s (.agg [(iC r5.Graph.Points), (.loc 28 0 r5.Graph.Bars.length), (.loc 29 0 r5.Ground.length)])) [(28, (.prow 88 (r5.Graph.Bars.map encTBar))), (29, (.prow 3 (r5.Ground.map encInt)))] [] [28, 29] from Fw.Fn.ren [(0, 28), (1, 29)] (w_laws_toPinned aP r5 hr5) rfl)) rfl cb36 (.cons (.agg (.cons (.same rfl) (.cons (.same rfl) (.cons (.same rfl) .nil)))) .nil) rfl rfl trivial) ⟨rfl, rfl, trivial⟩ trivial rfl rfl ?_
    refine AOR.step (LT.alloc (n := 30) (cells := [(iC 0), (sC nilV), (sC nilV)]) rfl ti51 rfl rfl rfl) trivial trivial rfl rfl ?_
    refine AOR.step (LT.bstore (v := (.agg [(iC r5.Graph.Points), (.loc 28 0 r5.Graph.Bars.length), (.loc 29 0 r5.Ground.length)])) (out := [(iC r5.Graph.Points), (.loc 28 0 r5.Graph.Bars.length), (.loc 29 0 r5.Ground.length)]) rfl rfl (infS inf51) sz51 (by exact rfl) (by exact Nat.le_of_ble_eq_true rfl) (by exact rfl)) ⟨rfl, rfl, trivial⟩ ⟨rfl, trivial⟩ rfl rfl ?_
    refine AOR.nil ?_
    refine AWR.seq ?_
    refine AWR.ent (Ent.of (σ' := [(1, (.s (.c (.pl 21 0)))), (4, (.s (.c (bC r4)))), (5, (.s (.c (.pl 30 0))))]) (m' := [(21, (.row 47 [[(iC aP.Graph.Points), (.pv (.xs false (aP.Graph.Bars.map encTBar))), (.pv (.xs false (aP.Ground.map encInt)))]])), (28, (.prow 88 (r5.Graph.Bars.map encTBar))), (29, (.prow 3 (r5.Ground.map encInt))), (30, (.row 51 [[(iC r5.Graph.Points), (.loc 28 0 r5.Graph.Bars.length), (.loc 29 0 r5.Ground.length)]]))]) ⟨rfl, rfl, rfl, trivial⟩ ⟨rfl, rfl, rfl, rfl, trivial⟩) ?_
    refine AWR.region ?_
    refine AOR.pure (LT.bloadN (out := [(iC r5.Graph.Points), (.loc 28 0 r5.Graph.Bars.length), (.loc 29 0 r5.Ground.length)]) rfl ag51 (infS inf51) sz51 (by exact rfl) (by exact rfl)) ⟨rfl, trivial⟩ ⟨rfl, trivial⟩ rfl rfl ?_
    refine AOR.bind fun r6 hr6 => ?_
    refine AOR.pure (@LT.callF Try.prog _ _ 37 _ _ [(.agg [(iC r5.Graph.Points), (.loc 28 0 r5.Graph.Bars.length), (.loc 29 0 r5.Ground.length)])] _ _ [(28, (.prow 88 (r5.Graph.Bars.map encTBar))), (29, (.prow 3 (r5.Ground.map encInt)))] _ _ _ _ (w_impl_IsPinned r5 r6 hr6) rfl cb37 (.cons (.agg (.cons (.same rfl) (.cons (.tloc rfl rfl) (.cons (.tloc rfl rfl) .nil)))) .nil) rfl rfl trivial) ⟨rfl, rfl, trivial⟩ ⟨rfl, rfl, trivial⟩ rfl rfl ?_
    refine AOR.pure (LT.assign (v := (.s (.c (bC r6)))) rfl) ⟨rfl, trivial⟩ trivial rfl rfl ?_
    refine AOR.nil ?_
    refine AWR.seq ?_
    refine AWR.seq ?_
    refine AWR.region ?_
    refine AOR.pure (LT.move (v := (.s (.c (bC r6)))) rfl) ⟨rfl, trivial⟩ trivial rfl rfl ?_
    refine AOR.pure (LT.move (v := (.s (.c (bC r4)))) rfl) ⟨rfl, trivial⟩ trivial rfl rfl ?_
    refine AOR.pure (LT.neqB rfl und4) ⟨rfl, rfl, trivial⟩ trivial rfl rfl ?_
    refine AOR.nil ?_
    refine AWR.cond rfl (fun hc7 => ?_) (fun hc7 => ?_)
    · refine AWR.seq ?_
      refine AWR.region ?_
      refine AOR.pure (LT.assign (v := (.s (.c (bC false)))) rfl) ⟨⟨rfl, rfl⟩, trivial⟩ trivial rfl rfl ?_
      refine AOR.nil ?_
      refine AWR.ret (FPost.mk (.inr rfl) ⟨rfl, trivial⟩ trivial rfl ⟨PermP.sc, trivial⟩ trivial)
    · refine AWR.skip ?_
      refine AWR.seq ?_
      refine AWR.seq ?_
      refine AWR.draw mixed ?_
      refine AOD.pure (LT.bloadN (out := [(iC r5.Graph.Points), (.loc 28 0 r5.Graph.Bars.length), (.loc 29 0 r5.Ground.length)]) rfl ag51 (infS inf51) sz51 (by exact rfl) (by exact rfl)) ⟨rfl, trivial⟩ ⟨rfl, trivial⟩ rfl rfl ?_
      refine AOD.pure (LT.bloadN (out := [(iC aP.Graph.Points), (.pv (.xs false (aP.Graph.Bars.map encTBar))), (.pv (.xs false (aP.Ground.map encInt)))]) rfl ag47 (infS inf47) sz47 (by exact rfl) (by exact rfl)) ⟨rfl, trivial⟩ ⟨rfl, trivial⟩ rfl rfl ?_
      refine AOD.bind fun r8 hr8 => ?_
      refine AOD.step (@LT.callF Try.prog _ _ 36 _ _ [(.agg [(iC aP.Graph.Points), (.pv (.xs false (aP.Graph.Bars.map encTBar))), (.pv (.xs false (aP.Ground.map encInt)))])] _ _ [] _ _ _ _ ((show Fw.Fn Try.prog 36 [(.agg [(iC aP.Graph.Points), (.pv (.xs false (aP.Graph.Bars.map encTBar))), (.pv (.xs false (aP.Ground.map encInt)))])] [] (.s (.agg [(iC r8.Graph.Points), (.loc 33 0 r8.Graph.Bars.length), (.loc 34 0 r8.Ground.length)])) [(33, (.prow 88 (r8.Graph.Bars.map encTBar))), (34, (.prow 3 (r8.Ground.map encInt)))] [] [33, 34] from Fw.Fn.ren [(0, 33), (1, 34)] (w_laws_toPinned aP r8 hr8) rfl)) rfl cb36 (.cons (.agg (.cons (.same rfl) (.cons (.same rfl) (.cons (.same rfl) .nil)))) .nil) rfl rfl trivial) ⟨rfl, rfl, trivial⟩ trivial rfl rfl ?_
      refine AOD.bind fun r9 hr9 => ?_
      refine AOD.pure (@LT.callF Try.prog _ _ 38 _ _ [(.agg [(iC r5.Graph.Points), (.loc 28 0 r5.Graph.Bars.length), (.loc 29 0 r5.Ground.length)]), (.agg [(iC r8.Graph.Points), (.loc 33 0 r8.Graph.Bars.length), (.loc 34 0 r8.Ground.length)])] _ _ [(28, (.prow 88 (r5.Graph.Bars.map encTBar))), (29, (.prow 3 (r5.Ground.map encInt))), (33, (.prow 88 (r8.Graph.Bars.map encTBar))), (34, (.prow 3 (r8.Ground.map encInt)))] _ _ _ _ (w_laws_eqPinned r5 r8 r9 hr9) rfl cb38 (.cons (.agg (.cons (.same rfl) (.cons (.tloc rfl rfl) (.cons (.tloc rfl rfl) .nil)))) (.cons (.agg (.cons (.same rfl) (.cons (.tloc rfl rfl) (.cons (.tloc rfl rfl) .nil)))) .nil)) rfl rfl trivial) ⟨rfl, rfl, rfl, trivial⟩ ⟨rfl, rfl, rfl, rfl, trivial⟩ rfl rfl ?_
      refine AOD.pure (LT.not rfl) ⟨rfl, trivial⟩ trivial rfl rfl ?_
      refine AOD.nil (by kernel_rfl) ?_
      refine AWR.cond rfl (fun hc10 => ?_) (fun hc10 => ?_)
      · refine AWR.seq ?_
        refine AWR.ent (Ent.of (σ' := []) (m' := []) trivial trivial) ?_
        refine AWR.region ?_
        refine AOR.pure (LT.assign (v := (.s (.c (bC false)))) rfl) ⟨⟨rfl, rfl⟩, trivial⟩ trivial rfl rfl ?_
        refine AOR.nil ?_
        refine AWR.ret (FPost.mk (.inr rfl) ⟨rfl, trivial⟩ trivial rfl ⟨PermP.sc, trivial⟩ trivial)
      · refine AWR.skip ?_
        refine AWR.seq ?_
        refine AWR.ent (Ent.of (σ' := []) (m' := []) trivial trivial) ?_
        refine AWR.region ?_
        refine AOR.pure (LT.assign (v := (.s (.c (bC true)))) rfl) ⟨⟨rfl, rfl⟩, trivial⟩ trivial rfl rfl ?_
        refine AOR.nil ?_
        refine AWR.ret (FPost.mk (.inr rfl) ⟨rfl, trivial⟩ trivial rfl ⟨PermP.sc, trivial⟩ trivial)
set_option maxRecDepth 100000 in
set_option maxHeartbeats 8000000 in
theorem w_laws_szPlaceS (a : (List TPlace)) (leftV : Int) : ∀ t, m_laws_szPlaceS a leftV = some t → Fw.Fn Try.prog 78 [(.c (.pv (.xs false (a.map encTPlace)))), (.c (iC leftV))] [] (.s (.c (iC t))) [] [] [] := by
  refine Fw.Fn.of (P := Try.prog) (X := []) (pn := []) (rs := (fun (t : Int) => [(.c (iC t))])) (dfs := (fun (t : Int) => [])) Try.func78 rfl Try.ntmps78 (Nat.le_of_ble_eq_true rfl) rfl ?_
  intro w0 U0 R0 g0
  unfold m_laws_szPlaceS
  refine AWR.seq ?_
  refine AWR.region ?_
  refine AOR.pure (LT.assign (v := (.s (.c (iC 0)))) rfl) ⟨⟨rfl, rfl⟩, trivial⟩ trivial rfl rfl ?_
  refine AOR.nil ?_
  refine AWR.seq ?_
  refine AWR.region ?_
  refine AOR.pure (LT.move (v := (.s (.c (iC leftV)))) rfl) ⟨rfl, trivial⟩ trivial rfl rfl ?_
  refine AOR.pure (LT.move (v := (.s (.c (.pv (.xs false (a.map encTPlace)))))) rfl) ⟨rfl, trivial⟩ trivial rfl rfl ?_
  refine AOR.pure (LT.tlenRO rfl und55) ⟨rfl, trivial⟩ trivial rfl rfl ?_
  refine AOR.pure (LT.sub rfl) ⟨rfl, rfl, trivial⟩ trivial rfl rfl ?_
  refine AOR.pure (LT.assign (v := (.s (.c (iC (w64 (leftV - (a.length : Int))))))) rfl) ⟨rfl, trivial⟩ trivial rfl rfl ?_
  refine AOR.nil ?_
  refine AWR.seq ?_
  refine AWR.seq ?_
  refine AWR.region ?_
  refine AOR.pure (LT.move (v := (.s (.c (iC (w64 (leftV - (a.length : Int))))))) rfl) ⟨rfl, trivial⟩ trivial rfl rfl ?_
  refine AOR.pure (LT.lss rfl) ⟨rfl, ⟨rfl, rfl⟩, trivial⟩ trivial rfl rfl ?_
  refine AOR.nil ?_
  refine AWR.cond rfl (fun hc1 => ?_) (fun hc1 => ?_)
  · refine AWR.seq ?_
    refine AWR.region ?_
    refine AOR.pure (LT.assign (v := (.s (.c (iC (-1))))) rfl) ⟨⟨rfl, rfl⟩, trivial⟩ trivial rfl rfl ?_
    refine AOR.nil ?_
    refine AWR.ret (FPost.mk (.inr rfl) ⟨rfl, trivial⟩ trivial rfl ⟨PermP.sc, trivial⟩ trivial)
  · refine AWR.skip ?_
    refine AWR.seq ?_
    refine AWR.region ?_
    refine AOR.pure (LT.move (v := (.s (.c (iC (w64 (leftV - (a.length : Int))))))) rfl) ⟨rfl, trivial⟩ trivial rfl rfl ?_
    refine AOR.pure (LT.assign (v := (.s (.c (iC (w64 (leftV - (a.length : Int))))))) rfl) ⟨rfl, trivial⟩ trivial rfl rfl ?_
    refine AOR.nil ?_
    refine AWR.ret (FPost.mk (.inr rfl) ⟨rfl, trivial⟩ trivial rfl ⟨PermP.sc, trivial⟩ trivial)
set_option maxRecDepth 100000 in
set_option maxHeartbeats 8000000 in
theorem w_laws_szFramework (a : TFramework) (leftV : Int) : ∀ t, m_laws_szFramework a leftV = some t → Fw.Fn Try.prog 39 [(.agg [(iC a.Graph.Points), (.pv (.xs false (a.Graph.Bars.map encTBar))), (.pv (.xs false (a.Places.map encTPlace)))]), (.c (iC leftV))] [] (.s (.c (iC t))) [] [] [] := by
  refine Fw.Fn.of (P := Try.prog) (X := []) (pn := []) (rs := (fun (t : Int) => [(.c (iC t))])) (dfs := (fun (t : Int) => [])) Try.func39 rfl Try.ntmps39 (Nat.le_of_ble_eq_true rfl) rfl ?_
  intro w0 U0 R0 g0
  unfold m_laws_szFramework
  refine AWR.seq ?_
  refine AWR.region ?_
  refine AOR.step (LT.box (n := 21) (v := (.agg [(iC a.Graph.Points), (.pv (.xs false (a.Graph.Bars.map encTBar))), (.pv (.xs false (a.Places.map encTPlace)))])) rfl sz57 (by exact rfl)) ⟨rfl, trivial⟩ trivial rfl rfl ?_
  refine AOR.pure (LT.assign (v := (.s (.c (iC 0)))) rfl) ⟨⟨rfl, rfl⟩, trivial⟩ trivial rfl rfl ?_
  refine AOR.nil ?_
  refine AWR.seq ?_
  refine AWR.region ?_
  refine AOR.pure (LT.fieldPl rfl fo57_0) ⟨rfl, trivial⟩ trivial rfl rfl ?_
  refine AOR.pure (LT.bloadN (out := [(iC a.Graph.Points), (.pv (.xs false (a.Graph.Bars.map encTBar)))]) rfl ag26 (infS inf26) sz26 (by exact rfl) (by exact rfl)) ⟨rfl, trivial⟩ ⟨rfl, trivial⟩ rfl rfl ?_
  refine AOR.pure (LT.move (v := (.s (.c (iC leftV)))) rfl) ⟨rfl, trivial⟩ trivial rfl rfl ?_
  refine AOR.bind fun r1 hr1 => ?_
  refine AOR.pure (@LT.callF Try.prog _ _ 17 _ _ [(.agg [(iC a.Graph.Points), (.pv (.xs false (a.Graph.Bars.map encTBar)))]), (.c (iC leftV))] _ _ [] _ _ _ _ (w_laws_szGraph a.Graph leftV r1 hr1) rfl cb17 (.cons (.agg (.cons (.same rfl) (.cons (.same rfl) .nil))) (.cons (.c (.same rfl)) .nil)) rfl rfl trivial) ⟨rfl, rfl, rfl, trivial⟩ trivial rfl rfl ?_
  refine AOR.pure (LT.assign (v := (.s (.c (iC r1)))) rfl) ⟨rfl, trivial⟩ trivial rfl rfl ?_
  refine AOR.nil ?_
  refine AWR.seq ?_
  refine AWR.seq ?_
  refine AWR.region ?_
  refine AOR.pure (LT.move (v := (.s (.c (iC r1)))) rfl) ⟨rfl, trivial⟩ trivial rfl rfl ?_
  refine AOR.pure (LT.lss rfl) ⟨rfl, ⟨rfl, rfl⟩, trivial⟩ trivial rfl rfl ?_
  refine AOR.nil ?_
  refine AWR.cond rfl (fun hc2 => ?_) (fun hc2 => ?_)
  · refine AWR.seq ?_
    refine AWR.ent (Ent.of (σ' := []) (m' := []) trivial trivial) ?_
    refine AWR.region ?_
    refine AOR.pure (LT.assign (v := (.s (.c (iC (-1))))) rfl) ⟨⟨rfl, rfl⟩, trivial⟩ trivial rfl rfl ?_
    refine AOR.nil ?_
    refine AWR.ret (FPost.mk (.inr rfl) ⟨rfl, trivial⟩ trivial rfl ⟨PermP.sc, trivial⟩ trivial)
  · refine AWR.skip ?_
    refine AWR.seq ?_
    refine AWR.ent (Ent.of (σ' := [(1, (.s (.c (iC r1)))), (2, (.s (.c (.pl 21 0))))]) (m' := [(21, (.row 57 [[(iC a.Graph.Points), (.pv (.xs false (a.Graph.Bars.map encTBar))), (.pv (.xs false (a.Places.map encTPlace)))]]))]) ⟨rfl, rfl, trivial⟩ ⟨rfl, trivial⟩) ?_
    refine AWR.region ?_
    refine AOR.pure (LT.fieldPl rfl fo57_1) ⟨rfl, trivial⟩ trivial rfl rfl ?_
    refine AOR.pure (LT.bload1 (c := (.pv (.xs false (a.Places.map encTPlace)))) rfl ag55 (by exact rfl)) ⟨rfl, trivial⟩ ⟨rfl, trivial⟩ rfl rfl ?_
    refine AOR.pure (LT.move (v := (.s (.c (iC r1)))) rfl) ⟨rfl, trivial⟩ trivial rfl rfl ?_
    refine AOR.bind fun r3 hr3 => ?_
    refine AOR.pure (@LT.callF Try.prog _ _ 78 _ _ [(.c (.pv (.xs false (a.Places.map encTPlace)))), (.c (iC r1))] _ _ [] _ _ _ _ (w_laws_szPlaceS a.Places r1 r3 hr3) rfl cb78 (.cons (.c (.same rfl)) (.cons (.c (.same rfl)) .nil)) rfl rfl trivial) ⟨rfl, rfl, rfl, trivial⟩ trivial rfl rfl ?_
    refine AOR.pure (LT.assign (v := (.s (.c (iC r3)))) rfl) ⟨rfl, trivial⟩ trivial rfl rfl ?_
    refine AOR.nil ?_
    refine AWR.seq ?_
    refine AWR.seq ?_
    refine AWR.region ?_
    refine AOR.pure (LT.move (v := (.s (.c (iC r3)))) rfl) ⟨rfl, trivial⟩ trivial rfl rfl ?_
    refine AOR.pure (LT.lss rfl) ⟨rfl, ⟨rfl, rfl⟩, trivial⟩ trivial rfl rfl ?_
    refine AOR.nil ?_
    refine AWR.cond rfl (fun hc4 => ?_) (fun hc4 => ?_)
    · refine AWR.seq ?_
      refine AWR.region ?_
      refine AOR.pure (LT.assign (v := (.s (.c (iC (-1))))) rfl) ⟨⟨rfl, rfl⟩, trivial⟩ trivial rfl rfl ?_
      refine AOR.nil ?_
      refine AWR.ret (FPost.mk (.inr rfl) ⟨rfl, trivial⟩ trivial rfl ⟨PermP.sc, trivial⟩ trivial)
    · refine AWR.skip ?_
      refine AWR.seq ?_
      refine AWR.region ?_
      refine AOR.pure (LT.move (v := (.s (.c (iC r3)))) rfl) ⟨rfl, trivial⟩ trivial rfl rfl ?_
      refine AOR.pure (LT.assign (v := (.s (.c (iC r3)))) rfl) ⟨rfl, trivial⟩ trivial rfl rfl ?_
      refine AOR.nil ?_
      refine AWR.ret (FPost.mk (.inr rfl) ⟨rfl, trivial⟩ trivial rfl ⟨PermP.sc, trivial⟩ trivial)
set_option maxRecDepth 100000 in
set_option maxHeartbeats 8000000 in
theorem w_laws_toPlace (a : TPlace) : ∀ t, m_laws_toPlace a = some t → Fw.Fn Try.prog 96 [(.agg [(iC a.X), (iC a.Y)])] [] (.s (.agg [(iC t.X), (iC t.Y)])) [] [] [] := by
  refine Fw.Fn.of (P := Try.prog) (X := []) (pn := []) (rs := (fun (t : TPlace) => [(.agg [(iC t.X), (iC t.Y)])])) (dfs := (fun (t : TPlace) => [])) Try.func96 rfl Try.ntmps96 (Nat.le_of_ble_eq_true rfl) rfl ?_
  intro w0 U0 R0 g0
  unfold m_laws_toPlace
  refine AWR.seq ?_
  refine AWR.region ?_
  refine AOR.step (LT.box (n := 21) (v := (.agg [(iC a.X), (iC a.Y)])) rfl sz108 (by exact rfl)) ⟨rfl, trivial⟩ trivial rfl rfl ?_
  refine AOR.step (LT.alloc (n := 22) (cells := [(iC 0), (iC 0)]) rfl ti100 rfl rfl rfl) trivial trivial rfl rfl ?_
  refine AOR.nil ?_
  refine AWR.seq ?_
  refine AWR.region ?_
  refine AOR.step (LT.alloc (n := 23) (cells := [(iC 0), (iC 0)]) rfl ti100 rfl rfl rfl) trivial trivial rfl rfl ?_
  refine AOR.nil ?_
  refine AWR.seq ?_
  refine AWR.region ?_
  refine AOR.pure (LT.fieldPl rfl fo108_0) ⟨rfl, trivial⟩ trivial rfl rfl ?_
  refine AOR.pure (LT.bload1 (c := (iC a.X)) rfl ag3 (by exact rfl)) ⟨rfl, trivial⟩ ⟨rfl, trivial⟩ rfl rfl ?_
  refine AOR.pure (LT.fieldPl rfl fo100_0) ⟨rfl, trivial⟩ trivial rfl rfl ?_
  refine AOR.step (LT.bstore (v := (.c (iC a.X))) (out := [(iC a.X), (iC 0)]) rfl rfl (infS inf3) sz3 (by exact rfl) (by exact Nat.le_of_ble_eq_true rfl) (by exact rfl)) ⟨rfl, rfl, trivial⟩ ⟨rfl, trivial⟩ rfl rfl ?_
  refine AOR.nil ?_
  refine AWR.seq ?_
  refine AWR.ent (Ent.of (σ' := [(1, (.s (.c (.pl 21 0)))), (2, (.s (.c (.pl 22 0)))), (3, (.s (.c (.pl 23 0))))]) (m' := [(21, (.row 108 [[(iC a.X), (iC a.Y)]])), (22, (.row 100 [[(iC 0), (iC 0)]])), (23, (.row 100 [[(iC a.X), (iC 0)]]))]) ⟨rfl, rfl, rfl, trivial⟩ ⟨rfl, rfl, rfl, trivial⟩) ?_
  refine AWR.region ?_
  refine AOR.pure (LT.fieldPl rfl fo108_1) ⟨rfl, trivial⟩ trivial rfl rfl ?_
  refine AOR.pure (LT.bload1 (c := (iC a.Y)) rfl ag3 (by exact rfl)) ⟨rfl, trivial⟩ ⟨rfl, trivial⟩ rfl rfl ?_
  refine AOR.pure (LT.fieldPl rfl fo100_1) ⟨rfl, trivial⟩ trivial rfl rfl ?_
  refine AOR.step (LT.bstore (v := (.c (iC a.Y))) (out := [(iC a.X), (iC a.Y)]) rfl rfl (infS inf3) sz3 (by exact rfl) (by exact Nat.le_of_ble_eq_true rfl) (by exact rfl)) ⟨rfl, rfl, trivial⟩ ⟨rfl, trivial⟩ rfl rfl ?_
  refine AOR.nil ?_
  refine AWR.seq ?_
  refine AWR.region ?_
  refine AOR.pure (LT.bloadN (out := [(iC a.X), (iC a.Y)]) rfl ag100 (infS inf100) sz100 (by exact rfl) (by exact rfl)) ⟨rfl, trivial⟩ ⟨rfl, trivial⟩ rfl rfl ?_
  refine AOR.step (LT.bstore (v := (.agg [(iC a.X), (iC a.Y)])) (out := [(iC a.X), (iC a.Y)]) rfl rfl (infS inf100) sz100 (by exact rfl) (by exact Nat.le_of_ble_eq_true rfl) (by exact rfl)) ⟨rfl, rfl, trivial⟩ ⟨rfl, trivial⟩ rfl rfl ?_
  refine AOR.nil ?_
  refine AWR.ret (FPost.mk (.inr rfl) ⟨⟨_, _, _, rfl, rfl, rfl, ag100, sz100, _, (infS inf100)⟩, trivial⟩ trivial rfl ⟨⟨PermP.sc, PermP.sc, trivial⟩, trivial⟩ trivial)
set_option maxRecDepth 100000 in
set_option maxHeartbeats 8000000 in
theorem w_laws_toPlaceS (a : (List TPlace)) : ∀ t, m_laws_toPlaceS a = some t → Fw.Fn Try.prog 81 [(.c (.pv (.xs false (a.map encTPlace))))] [] (.s (.c (.loc 0 0 t.length))) [(0, (.prow 100 (t.map encTPlace)))] [] [0] := by
  refine Fw.Fn.of (P := Try.prog) (X := [0]) (pn := []) (rs := (fun (t : (List TPlace)) => [(.c (.loc 0 0 t.length))])) (dfs := (fun (t : (List TPlace)) => [(0, (.prow 100 (t.map encTPlace)))])) Try.func81 rfl Try.ntmps81 (Nat.le_of_ble_eq_true rfl) rfl ?_
  intro w0 U0 R0 g0
  unfold m_laws_toPlaceS
  refine AWR.seq ?_
  refine AWR.region ?_
  refine AOR.pure (LT.assign (v := (.s (.c (sC nilV)))) rfl) ⟨⟨rfl, rfl⟩, trivial⟩ trivial rfl rfl ?_
  refine AOR.nil ?_
  refine AWR.seq ?_
  refine AWR.region ?_
  refine AOR.pure (LT.move (v := (.s (.c (.pv (.xs false (a.map encTPlace)))))) rfl) ⟨rfl, trivial⟩ trivial rfl rfl ?_
  refine AOR.pure (LT.tlenRO rfl und55) ⟨rfl, trivial⟩ trivial rfl rfl ?_
  refine AOR.bind fun u1 hu1 => ?_
  refine AOR.step (LT.tmake (n := 21) (enc := encTPlace) (zc := [(iC 0), (iC 0)]) (TPlace.mk (0 : Int) (0 : Int)) rfl und60 ti100 rfl rfl rfl (by decide) (by decide) (lenOk_le hu1) rfl) ⟨rfl, rfl, trivial⟩ trivial rfl rfl ?_
  refine AOR.pure (LT.assign (v := (.s (.c (.loc 21 0 (List.replicate (a.length : Int).toNat (TPlace.mk (0 : Int) (0 : Int))).length)))) rfl) ⟨rfl, trivial⟩ trivial rfl rfl ?_
  refine AOR.nil ?_
  refine AWR.seq ?_
  refine AWR.seq ?_
  refine AWR.region ?_
  refine AOR.pure (LT.assign (v := (.s (.c (iC 0)))) rfl) ⟨⟨rfl, rfl⟩, trivial⟩ trivial rfl rfl ?_
  refine AOR.nil ?_
  refine AWR.block ?_
  refine AWR.loop1 (id := 0) (m_laws_toPlaceS_L1 a) (fun s2 => ([(0, (.s (.c (.pv (.xs false (a.map encTPlace)))))), (3, (.s (.c (.loc 21 0 s2.2.length)))), (4, (.s (.c (iC s2.1))))], [(21, (.prow 100 (s2.2.map encTPlace)))])) (fun b11 => ([(3, (.s (.c (.loc 21 0 b11.length))))], [(21, (.prow 100 (b11.map encTPlace)))])) ?_ (Ent.of ⟨rfl, rfl, rfl, trivial⟩ ⟨rfl, trivial⟩) rfl (fun b11 _ => ?_)
  · intro s2
    unfold m_laws_toPlaceS_L1
    refine AWR.seq ?_
    refine AWR.seq ?_
    refine AWR.region ?_
    refine AOR.pure (LT.move (v := (.s (.c (iC s2.1)))) rfl) ⟨rfl, trivial⟩ trivial rfl rfl ?_
    refine AOR.pure (LT.move (v := (.s (.c (.pv (.xs false (a.map encTPlace)))))) rfl) ⟨rfl, trivial⟩ trivial rfl rfl ?_
    refine AOR.pure (LT.tlenRO rfl und55) ⟨rfl, trivial⟩ trivial rfl rfl ?_
    refine AOR.pure (LT.lss rfl) ⟨rfl, rfl, trivial⟩ trivial rfl rfl ?_
    refine AOR.nil ?_
    refine AWR.cond rfl (fun hc12 => ?_) (fun hc12 => ?_)
    · refine AWR.skip ?_
      refine AWR.seq ?_
      refine AWR.block ?_
      refine AWR.region ?_
      refine AOR.pure (LT.move (v := (.s (.c (.loc 21 0 s2.2.length)))) rfl) ⟨rfl, trivial⟩ trivial rfl rfl ?_
      refine AOR.pure (LT.move (v := (.s (.c (iC s2.1)))) rfl) ⟨rfl, trivial⟩ trivial rfl rfl ?_
      refine AOR.pure (LT.move (v := (.s (.c (.pv (.xs false (a.map encTPlace)))))) rfl) ⟨rfl, trivial⟩ trivial rfl rfl ?_
      refine AOR.pure (LT.move (v := (.s (.c (iC s2.1)))) rfl) ⟨rfl, trivial⟩ trivial rfl rfl ?_
      refine AOR.bind fun x13 hx13 => ?_
      refine AOR.pure (LT.tindexRO (enc := encTPlace) rfl el55 hx13 sz108) ⟨rfl, rfl, trivial⟩ trivial rfl rfl ?_
      refine AOR.pure (LT.loadPxN rfl ag108 (infS inf108) (by exact sz108.symm)) ⟨rfl, trivial⟩ trivial rfl rfl ?_
      refine AOR.bind fun r14 hr14 => ?_
      refine AOR.pure (@LT.callF Try.prog _ _ 96 _ _ [(.agg [(iC x13.X), (iC x13.Y)])] _ _ [] _ _ _ _ (w_laws_toPlace x13 r14 hr14) rfl cb96 (.cons (.agg (.cons (.same rfl) (.cons (.same rfl) .nil))) .nil) rfl rfl trivial) ⟨rfl, rfl, trivial⟩ trivial rfl rfl ?_
      refine AOR.bind fun x15 hx15 => ?_
      refine AOR.pure (LT.tindexLoc rfl rfl el60 hx15) ⟨rfl, rfl, trivial⟩ ⟨rfl, trivial⟩ rfl rfl ?_
      refine AOR.step (LT.tstore (k := 0) (v := (.agg [(iC r14.X), (iC r14.Y)])) (b' := r14) rfl rfl (infS inf100) sz100 (by exact rfl) hx15 (by exact rfl) (by exact Nat.le_of_ble_eq_true rfl) (by exact rfl)) ⟨rfl, rfl, trivial⟩ ⟨rfl, trivial⟩ rfl rfl ?_
      refine AOR.nil ?_
      refine AWR.blk ?_
      refine AWR.ent (Ent.of (σ' := [(0, (.s (.c (.pv (.xs false (a.map encTPlace)))))), (3, (.s (.c (.loc 21 0 s2.2.length)))), (4, (.s (.c (iC s2.1))))]) (m' := [(21, (.prow 100 ((s2.2.set s2.1.toNat r14).map encTPlace)))]) ⟨rfl, rfl, rfl, trivial⟩ ⟨rfl, trivial⟩) ?_
      refine AWR.region ?_
      refine AOR.pure (LT.move (v := (.s (.c (iC s2.1)))) rfl) ⟨rfl, trivial⟩ trivial rfl rfl ?_
      refine AOR.pure (LT.add rfl) ⟨rfl, ⟨rfl, rfl⟩, trivial⟩ trivial rfl rfl ?_
      refine AOR.pure (LT.assign (v := (.s (.c (iC (w64 (s2.1 + 1)))))) rfl) ⟨rfl, trivial⟩ trivial rfl rfl ?_
      refine AOR.nil ?_
      refine AWR.nil ⟨rfl, Ent.of ⟨rfl, (congrArg (fun l1 => (some (AV.s (.c (.loc 21 0 l1))) : Option AV)) (show s2.2.length = (s2.2.set s2.1.toNat r14).length by simp only [List.length_set])), rfl, trivial⟩ ⟨rfl, trivial⟩⟩
    · refine AWR.exit_end rfl ⟨rfl, Ent.of ⟨rfl, trivial⟩ ⟨rfl, trivial⟩⟩
  · refine AWR.seq ?_
    refine AWR.region ?_
    refine AOR.pure (LT.move (v := (.s (.c (.loc 21 0 b11.length)))) rfl) ⟨rfl, trivial⟩ trivial rfl rfl ?_
    refine AOR.pure (LT.assign (v := (.s (.c (.loc 21 0 b11.length)))) rfl) ⟨rfl, trivial⟩ trivial rfl rfl ?_
    refine AOR.nil ?_
    refine AWR.ent (Ent.of (σ' := [(2, (.s (.c (.loc 21 0 b11.length))))]) (m' := [(21, (.prow 100 (b11.map encTPlace)))]) ⟨rfl, trivial⟩ ⟨rfl, trivial⟩) ?_
    refine AWR.ent (Ent.mv 21 0 rfl rfl) ?_
    refine AWR.ent (Ent.of (σ' := [(2, (.s (.c (.loc 0 0 b11.length))))]) (m' := [(0, (.prow 100 (b11.map encTPlace)))]) ⟨rfl, trivial⟩ ⟨rfl, trivial⟩) ?_
    refine AWR.ret (FPost.mk (.inr rfl) ⟨rfl, trivial⟩ ⟨rfl, trivial⟩ rfl ⟨trivial, trivial⟩ ⟨PermO.prow' perm_encTPlace, trivial⟩)
set_option maxRecDepth 100000 in
set_option maxHeartbeats 8000000 in
theorem w_laws_toFramework (a : TFramework) : ∀ t, m_laws_toFramework a = some t → Fw.Fn Try.prog 41 [(.agg [(iC a.Graph.Points), (.pv (.xs false (a.Graph.Bars.map encTBar))), (.pv (.xs false (a.Places.map encTPlace)))])] [] (.s (.agg [(iC t.Graph.Points), (.loc 0 0 t.Graph.Bars.length), (.loc 1 0 t.Places.length)])) [(0, (.prow 88 (t.Graph.Bars.map encTBar))), (1, (.prow 100 (t.Places.map encTPlace)))] [] [0, 1] := by
  refine Fw.Fn.of (P := Try.prog) (X := [0, 1]) (pn := []) (rs := (fun (t : TFramework) => [(.agg [(iC t.Graph.Points), (.loc 0 0 t.Graph.Bars.length), (.loc 1 0 t.Places.length)])])) (dfs := (fun (t : TFramework) => [(0, (.prow 88 (t.Graph.Bars.map encTBar))), (1, (.prow 100 (t.Places.map encTPlace)))])) Try.func41 rfl Try.ntmps41 (Nat.le_of_ble_eq_true rfl) rfl ?_
  intro w0 U0 R0 g0
  unfold m_laws_toFramework
  refine AWR.seq ?_
  refine AWR.region ?_
  refine AOR.step (LT.box (n := 21) (v := (.agg [(iC a.Graph.Points), (.pv (.xs false (a.Graph.Bars.map encTBar))), (.pv (.xs false (a.Places.map encTPlace)))])) rfl sz57 (by exact rfl)) ⟨rfl, trivial⟩ trivial rfl rfl ?_
  refine AOR.step (LT.alloc (n := 22) (cells := [(iC 0), (sC nilV), (sC nilV)]) rfl ti62 rfl rfl rfl) trivial trivial rfl rfl ?_
  refine AOR.nil ?_
  refine AWR.seq ?_
  refine AWR.region ?_
  refine AOR.step (LT.alloc (n := 23) (cells := [(iC 0), (sC nilV), (sC nilV)]) rfl ti62 rfl rfl rfl) trivial trivial rfl rfl ?_
  refine AOR.nil ?_
  refine AWR.seq ?_
  refine AWR.region ?_
  refine AOR.pure (LT.fieldPl rfl fo57_0) ⟨rfl, trivial⟩ trivial rfl rfl ?_
  refine AOR.pure (LT.bloadN (out := [(iC a.Graph.Points), (.pv (.xs false (a.Graph.Bars.map encTBar)))]) rfl ag26 (infS inf26) sz26 (by exact rfl) (by exact rfl)) ⟨rfl, trivial⟩ ⟨rfl, trivial⟩ rfl rfl ?_
  refine AOR.bind fun r1 hr1 => ?_
  refine AOR.step (@LT.callF Try.prog _ _ 19 _ _ [(.agg [(iC a.Graph.Points), (.pv (.xs false (a.Graph.Bars.map encTBar)))])] _ _ [] _ _ _ _ ((show Fw.Fn Try.prog 19 [(.agg [(iC a.Graph.Points), (.pv (.xs false (a.Graph.Bars.map encTBar)))])] [] (.s (.agg [(iC r1.Points), (.loc 25 0 r1.Bars.length)])) [(25, (.prow 88 (r1.Bars.map encTBar)))] [] [25] from Fw.Fn.ren [(0, 25)] (w_laws_toGraph a.Graph r1 hr1) rfl)) rfl cb19 (.cons (.agg (.cons (.same rfl) (.cons (.same rfl) .nil))) .nil) rfl rfl trivial) ⟨rfl, rfl, trivial⟩ trivial rfl rfl ?_
  refine AOR.pure (LT.fieldPl rfl fo62_0) ⟨rfl, trivial⟩ trivial rfl rfl ?_
  refine AOR.step (LT.bstore (v := (.agg [(iC r1.Points), (.loc 25 0 r1.Bars.length)])) (out := [(iC r1.Points), (.loc 25 0 r1.Bars.length), (sC nilV)]) rfl rfl (infS inf30) sz30 (by exact rfl) (by exact Nat.le_of_ble_eq_true rfl) (by exact rfl)) ⟨rfl, rfl, trivial⟩ ⟨rfl, trivial⟩ rfl rfl ?_
  refine AOR.nil ?_
  refine AWR.seq ?_
  refine AWR.ent (Ent.of (σ' := [(1, (.s (.c (.pl 21 0)))), (2, (.s (.c (.pl 22 0)))), (3, (.s (.c (.pl 23 0))))]) (m' := [(21, (.row 57 [[(iC a.Graph.Points), (.pv (.xs false (a.Graph.Bars.map encTBar))), (.pv (.xs false (a.Places.map encTPlace)))]])), (22, (.row 62 [[(iC 0), (sC nilV), (sC nilV)]])), (23, (.row 62 [[(iC r1.Points), (.loc 25 0 r1.Bars.length), (sC nilV)]])), (25, (.prow 88 (r1.Bars.map encTBar)))]) ⟨rfl, rfl, rfl, trivial⟩ ⟨rfl, rfl, rfl, rfl, trivial⟩) ?_
  refine AWR.region ?_
  refine AOR.pure (LT.fieldPl rfl fo57_1) ⟨rfl, trivial⟩ trivial rfl rfl ?_
  refine AOR.pure (LT.bload1 (c := (.pv (.xs false (a.Places.map encTPlace)))) rfl ag55 (by exact rfl)) ⟨rfl, trivial⟩ ⟨rfl, trivial⟩ rfl rfl ?_
  refine AOR.bind fun r2 hr2 => ?_
  refine AOR.step (@LT.callF Try.prog _ _ 81 _ _ [(.c (.pv (.xs false (a.Places.map encTPlace))))] _ _ [] _ _ _ _ ((show Fw.Fn Try.prog 81 [(.c (.pv (.xs false (a.Places.map encTPlace))))] [] (.s (.c (.loc 27 0 r2.length))) [(27, (.prow 100 (r2.map encTPlace)))] [] [27] from Fw.Fn.ren [(0, 27)] (w_laws_toPlaceS a.Places r2 hr2) rfl)) rfl cb81 (.cons (.c (.same rfl)) .nil) rfl rfl trivial) ⟨rfl, rfl, trivial⟩ trivial rfl rfl ?_
  refine AOR.pure (LT.fieldPl rfl fo62_1) ⟨rfl, trivial⟩ trivial rfl rfl ?_
  refine AOR.step (LT.bstore (v := (.c (.loc 27 0 r2.length))) (out := [(iC r1.Points), (.loc 25 0 r1.Bars.length), (.loc 27 0 r2.length)]) rfl rfl (infS inf60) sz60 (by exact rfl) (by exact Nat.le_of_ble_eq_true rfl) (by exact rfl)) ⟨rfl, rfl, trivial⟩ ⟨rfl, trivial⟩ rfl rfl ?_
  refine AOR.nil ?_
  refine AWR.seq ?_
  refine AWR.region ?_
  refine AOR.pure (LT.bloadN (out := [(iC r1.Points), (.loc 25 0 r1.Bars.length), (.loc 27 0 r2.length)]) rfl ag62 (infS inf62) sz62 (by exact rfl) (by exact rfl)) ⟨rfl, trivial⟩ ⟨rfl, trivial⟩ rfl rfl ?_
  refine AOR.step (LT.bstore (v := (.agg [(iC r1.Points), (.loc 25 0 r1.Bars.length), (.loc 27 0 r2.length)])) (out := [(iC r1.Points), (.loc 25 0 r1.Bars.length), (.loc 27 0 r2.length)]) rfl rfl (infS inf62) sz62 (by exact rfl) (by exact Nat.le_of_ble_eq_true rfl) (by exact rfl)) ⟨rfl, rfl, trivial⟩ ⟨rfl, trivial⟩ rfl rfl ?_
  refine AOR.nil ?_
  refine AWR.ent (Ent.of (σ' := [(2, (.s (.c (.pl 22 0))))]) (m' := [(22, (.row 62 [[(iC r1.Points), (.loc 25 0 r1.Bars.length), (.loc 27 0 r2.length)]])), (25, (.prow 88 (r1.Bars.map encTBar))), (27, (.prow 100 (r2.map encTPlace)))]) ⟨rfl, trivial⟩ ⟨rfl, rfl, rfl, trivial⟩) ?_
  refine AWR.ent (Ent.mv 25 0 rfl rfl) ?_
  refine AWR.ent (Ent.mv 27 1 rfl rfl) ?_
  refine AWR.ent (Ent.of (σ' := [(2, (.s (.c (.pl 22 0))))]) (m' := [(0, (.prow 88 (r1.Bars.map encTBar))), (1, (.prow 100 (r2.map encTPlace))), (22, (.row 62 [[(iC r1.Points), (.loc 0 0 r1.Bars.length), (.loc 1 0 r2.length)]]))]) ⟨rfl, trivial⟩ ⟨rfl, rfl, rfl, trivial⟩) ?_
  refine AWR.ret (FPost.mk (.inr rfl) ⟨⟨_, _, _, rfl, rfl, rfl, ag62, sz62, _, (infS inf62)⟩, trivial⟩ ⟨rfl, rfl, trivial⟩ rfl ⟨⟨PermP.sc, trivial, trivial, trivial⟩, trivial⟩ ⟨PermO.prow' perm_encTBar, PermO.prow' perm_encTPlace, trivial⟩)
set_option maxRecDepth 100000 in
set_option maxHeartbeats 8000000 in
theorem w_spec_IsFramework (f : TFramework) : ∀ t, m_spec_IsFramework f = some t → Fw.Fn Try.prog 79 [(.agg [(iC f.Graph.Points), (.pv (.xs false (f.Graph.Bars.map encTBar))), (.pv (.xs false (f.Places.map encTPlace)))])] [] (.s (.c (bC t))) [] [] [] := by
  refine Fw.Fn.of (P := Try.prog) (X := []) (pn := []) (rs := (fun (t : Bool) => [(.c (bC t))])) (dfs := (fun (t : Bool) => [])) Try.func79 rfl Try.ntmps79 (Nat.le_of_ble_eq_true rfl) rfl ?_
  intro w0 U0 R0 g0
  unfold m_spec_IsFramework
  refine AWR.seq ?_
  refine AWR.region ?_
  refine AOR.step (LT.box (n := 21) (v := (.agg [(iC f.Graph.Points), (.pv (.xs false (f.Graph.Bars.map encTBar))), (.pv (.xs false (f.Places.map encTPlace)))])) rfl sz62 (by exact rfl)) ⟨rfl, trivial⟩ trivial rfl rfl ?_
  refine AOR.pure (LT.assign (v := (.s (.c (bC false)))) rfl) ⟨⟨rfl, rfl⟩, trivial⟩ trivial rfl rfl ?_
  refine AOR.nil ?_
  refine AWR.seq ?_
  refine AWR.seq ?_
  refine AWR.joinK (fun j5 => ([(1, (.s (.c (.pl 21 0)))), (31, (.s (.c (bC j5))))], [(21, (.row 62 [[(iC f.Graph.Points), (.pv (.xs false (f.Graph.Bars.map encTBar))), (.pv (.xs false (f.Places.map encTPlace)))]]))])) ?_ (fun j5 _ => ?_)
  · refine AWR.region ?_
    refine AOR.pure (LT.fieldPl rfl fo62_0) ⟨rfl, trivial⟩ trivial rfl rfl ?_
    refine AOR.pure (LT.bloadN (out := [(iC f.Graph.Points), (.pv (.xs false (f.Graph.Bars.map encTBar)))]) rfl ag30 (infS inf30) sz30 (by exact rfl) (by exact rfl)) ⟨rfl, trivial⟩ ⟨rfl, trivial⟩ rfl rfl ?_
    refine AOR.bind fun r6 hr6 => ?_
    refine AOR.pure (@LT.callF Try.prog _ _ 66 _ _ [(.agg [(iC f.Graph.Points), (.pv (.xs false (f.Graph.Bars.map encTBar)))])] _ _ [] _ _ _ _ (w_spec_IsGraph f.Graph r6 hr6) rfl cb66 (.cons (.agg (.cons (.same rfl) (.cons (.same rfl) .nil))) .nil) rfl rfl trivial) ⟨rfl, rfl, trivial⟩ trivial rfl rfl ?_
    refine AOR.pure (LT.not rfl) ⟨rfl, trivial⟩ trivial rfl rfl ?_
    refine AOR.pure (LT.move (v := (.s (.c (bC (!r6))))) rfl) ⟨rfl, trivial⟩ trivial rfl rfl ?_
    refine AOR.split (fun hb7 => ?_) (fun hb7 => ?_)
    · refine AOR.skip ⟨_, rfl, .inl ⟨_, rfl, (by rw [hb7]; rfl)⟩⟩ rfl ?_
      refine AOR.skip ⟨_, rfl, .inl ⟨_, rfl, (by rw [hb7]; rfl)⟩⟩ rfl ?_
      refine AOR.skip ⟨_, rfl, .inl ⟨_, rfl, (by rw [hb7]; rfl)⟩⟩ rfl ?_
      refine AOR.skip ⟨_, rfl, .inl ⟨_, rfl, (by rw [hb7]; rfl)⟩⟩ rfl ?_
      refine AOR.pure (LT.pickT (v := (.s (.c (bC true)))) rfl hb7) ⟨rfl, ⟨rfl, rfl⟩, trivial⟩ trivial rfl rfl ?_
      refine AOR.pure (LT.move (v := (.s (.c (bC true)))) rfl) ⟨rfl, trivial⟩ trivial rfl rfl ?_
      refine AOR.skip ⟨_, rfl, .inl ⟨_, rfl, rfl⟩⟩ rfl ?_
      refine AOR.skip ⟨_, rfl, .inl ⟨_, rfl, rfl⟩⟩ rfl ?_
      refine AOR.skip ⟨_, rfl, .inl ⟨_, rfl, rfl⟩⟩ rfl ?_
      refine AOR.skip ⟨_, rfl, .inl ⟨_, rfl, rfl⟩⟩ rfl ?_
      refine AOR.skip ⟨_, rfl, .inl ⟨_, rfl, rfl⟩⟩ rfl ?_
      refine AOR.skip ⟨_, rfl, .inl ⟨_, rfl, rfl⟩⟩ rfl ?_
      refine AOR.skip ⟨_, rfl, .inl ⟨_, rfl, rfl⟩⟩ rfl ?_
      refine AOR.pure (LT.pickT (v := (.s (.c (bC true)))) rfl rfl) ⟨rfl, ⟨rfl, rfl⟩, trivial⟩ trivial rfl rfl ?_
      refine AOR.pure (LT.move (v := (.s (.c (bC true)))) rfl) ⟨rfl, trivial⟩ trivial rfl rfl ?_
      refine AOR.skip ⟨_, rfl, .inl ⟨_, rfl, rfl⟩⟩ rfl ?_
      refine AOR.skip ⟨_, rfl, .inl ⟨_, rfl, rfl⟩⟩ rfl ?_
      refine AOR.skip ⟨_, rfl, .inl ⟨_, rfl, rfl⟩⟩ rfl ?_
      refine AOR.skip ⟨_, rfl, .inl ⟨_, rfl, rfl⟩⟩ rfl ?_
      refine AOR.skip ⟨_, rfl, .inl ⟨_, rfl, rfl⟩⟩ rfl ?_
      refine AOR.pure (LT.pickT (v := (.s (.c (bC true)))) rfl rfl) ⟨rfl, ⟨rfl, rfl⟩, trivial⟩ trivial rfl rfl ?_
      refine AOR.nil ?_
      refine AWR.nil ⟨rfl, Ent.of ⟨rfl, rfl, trivial⟩ ⟨rfl, trivial⟩⟩
    · refine AOR.pure (LT.fieldPl rfl fo62_0) ⟨rfl, trivial⟩ trivial ⟨_, rfl, .inl ⟨_, rfl, (by rw [hb7]; rfl)⟩⟩ rfl ?_
      refine AOR.pure (LT.fieldPl rfl fo30_0) ⟨rfl, trivial⟩ trivial ⟨_, rfl, .inl ⟨_, rfl, (by rw [hb7]; rfl)⟩⟩ rfl ?_
      refine AOR.pure (LT.bload1 (c := (iC f.Graph.Points)) rfl ag3 (by exact rfl)) ⟨rfl, trivial⟩ ⟨rfl, trivial⟩ ⟨_, rfl, .inl ⟨_, rfl, (by rw [hb7]; rfl)⟩⟩ rfl ?_
      refine AOR.pure (LT.gtr rfl) ⟨rfl, ⟨rfl, rfl⟩, trivial⟩ trivial ⟨_, rfl, .inl ⟨_, rfl, (by rw [hb7]; rfl)⟩⟩ rfl ?_
      refine AOR.pure (LT.pickF (v := (.s (.c (bC (decide (6 < f.Graph.Points)))))) rfl hb7) ⟨rfl, rfl, trivial⟩ trivial rfl rfl ?_
      refine AOR.pure (LT.move (v := (.s (.c (bC (decide (6 < f.Graph.Points)))))) rfl) ⟨rfl, trivial⟩ trivial rfl rfl ?_
      refine AOR.split (fun hb8 => ?_) (fun hb8 => ?_)
      · refine AOR.skip ⟨_, rfl, .inl ⟨_, rfl, (by rw [hb8]; rfl)⟩⟩ rfl ?_
        refine AOR.skip ⟨_, rfl, .inl ⟨_, rfl, (by rw [hb8]; rfl)⟩⟩ rfl ?_
        refine AOR.skip ⟨_, rfl, .inl ⟨_, rfl, (by rw [hb8]; rfl)⟩⟩ rfl ?_
        refine AOR.skip ⟨_, rfl, .inl ⟨_, rfl, (by rw [hb8]; rfl)⟩⟩ rfl ?_
        refine AOR.skip ⟨_, rfl, .inl ⟨_, rfl, (by rw [hb8]; rfl)⟩⟩ rfl ?_
        refine AOR.skip ⟨_, rfl, .inl ⟨_, rfl, (by rw [hb8]; rfl)⟩⟩ rfl ?_
        refine AOR.skip ⟨_, rfl, .inl ⟨_, rfl, (by rw [hb8]; rfl)⟩⟩ rfl ?_
        refine AOR.pure (LT.pickT (v := (.s (.c (bC true)))) rfl hb8) ⟨rfl, ⟨rfl, rfl⟩, trivial⟩ trivial rfl rfl ?_
        refine AOR.pure (LT.move (v := (.s (.c (bC true)))) rfl) ⟨rfl, trivial⟩ trivial rfl rfl ?_
        refine AOR.skip ⟨_, rfl, .inl ⟨_, rfl, rfl⟩⟩ rfl ?_
        refine AOR.skip ⟨_, rfl, .inl ⟨_, rfl, rfl⟩⟩ rfl ?_
        refine AOR.skip ⟨_, rfl, .inl ⟨_, rfl, rfl⟩⟩ rfl ?_
        refine AOR.skip ⟨_, rfl, .inl ⟨_, rfl, rfl⟩⟩ rfl ?_
        refine AOR.skip ⟨_, rfl, .inl ⟨_, rfl, rfl⟩⟩ rfl ?_
        refine AOR.pure (LT.pickT (v := (.s (.c (bC true)))) rfl rfl) ⟨rfl, ⟨rfl, rfl⟩, trivial⟩ trivial rfl rfl ?_
        refine AOR.nil ?_
        refine AWR.nil ⟨rfl, Ent.of ⟨rfl, rfl, trivial⟩ ⟨rfl, trivial⟩⟩
      · refine AOR.pure (LT.fieldPl rfl fo62_1) ⟨rfl, trivial⟩ trivial ⟨_, rfl, .inl ⟨_, rfl, (by rw [hb8]; rfl)⟩⟩ rfl ?_
        refine AOR.pure (LT.bload1 (c := (.pv (.xs false (f.Places.map encTPlace)))) rfl ag60 (by exact rfl)) ⟨rfl, trivial⟩ ⟨rfl, trivial⟩ ⟨_, rfl, .inl ⟨_, rfl, (by rw [hb8]; rfl)⟩⟩ rfl ?_
        refine AOR.pure (LT.tlenRO rfl und60) ⟨rfl, trivial⟩ trivial ⟨_, rfl, .inl ⟨_, rfl, (by rw [hb8]; rfl)⟩⟩ rfl ?_
        refine AOR.pure (LT.fieldPl rfl fo62_0) ⟨rfl, trivial⟩ trivial ⟨_, rfl, .inl ⟨_, rfl, (by rw [hb8]; rfl)⟩⟩ rfl ?_
        refine AOR.pure (LT.fieldPl rfl fo30_0) ⟨rfl, trivial⟩ trivial ⟨_, rfl, .inl ⟨_, rfl, (by rw [hb8]; rfl)⟩⟩ rfl ?_
        refine AOR.pure (LT.bload1 (c := (iC f.Graph.Points)) rfl ag3 (by exact rfl)) ⟨rfl, trivial⟩ ⟨rfl, trivial⟩ ⟨_, rfl, .inl ⟨_, rfl, (by rw [hb8]; rfl)⟩⟩ rfl ?_
        refine AOR.pure (LT.neq rfl) ⟨rfl, rfl, trivial⟩ trivial ⟨_, rfl, .inl ⟨_, rfl, (by rw [hb8]; rfl)⟩⟩ rfl ?_
        refine AOR.pure (LT.pickF (v := (.s (.c (bC ((f.Places.length : Int) != f.Graph.Points))))) rfl hb8) ⟨rfl, rfl, trivial⟩ trivial rfl rfl ?_
        refine AOR.pure (LT.move (v := (.s (.c (bC ((f.Places.length : Int) != f.Graph.Points))))) rfl) ⟨rfl, trivial⟩ trivial rfl rfl ?_
        refine AOR.split (fun hb9 => ?_) (fun hb9 => ?_)
        · refine AOR.skip ⟨_, rfl, .inl ⟨_, rfl, (by rw [hb9]; rfl)⟩⟩ rfl ?_
          refine AOR.skip ⟨_, rfl, .inl ⟨_, rfl, (by rw [hb9]; rfl)⟩⟩ rfl ?_
          refine AOR.skip ⟨_, rfl, .inl ⟨_, rfl, (by rw [hb9]; rfl)⟩⟩ rfl ?_
          refine AOR.skip ⟨_, rfl, .inl ⟨_, rfl, (by rw [hb9]; rfl)⟩⟩ rfl ?_
          refine AOR.skip ⟨_, rfl, .inl ⟨_, rfl, (by rw [hb9]; rfl)⟩⟩ rfl ?_
          refine AOR.pure (LT.pickT (v := (.s (.c (bC true)))) rfl hb9) ⟨rfl, ⟨rfl, rfl⟩, trivial⟩ trivial rfl rfl ?_
          refine AOR.nil ?_
          refine AWR.nil ⟨rfl, Ent.of ⟨rfl, rfl, trivial⟩ ⟨rfl, trivial⟩⟩
        · refine AOR.pure (LT.fieldPl rfl fo62_0) ⟨rfl, trivial⟩ trivial ⟨_, rfl, .inl ⟨_, rfl, (by rw [hb9]; rfl)⟩⟩ rfl ?_
          refine AOR.pure (LT.fieldPl rfl fo30_1) ⟨rfl, trivial⟩ trivial ⟨_, rfl, .inl ⟨_, rfl, (by rw [hb9]; rfl)⟩⟩ rfl ?_
          refine AOR.pure (LT.bload1 (c := (.pv (.xs false (f.Graph.Bars.map encTBar)))) rfl ag28 (by exact rfl)) ⟨rfl, trivial⟩ ⟨rfl, trivial⟩ ⟨_, rfl, .inl ⟨_, rfl, (by rw [hb9]; rfl)⟩⟩ rfl ?_
          refine AOR.pure (LT.tlenRO rfl und28) ⟨rfl, trivial⟩ trivial ⟨_, rfl, .inl ⟨_, rfl, (by rw [hb9]; rfl)⟩⟩ rfl ?_
          refine AOR.pure (LT.gtr rfl) ⟨rfl, ⟨rfl, rfl⟩, trivial⟩ trivial ⟨_, rfl, .inl ⟨_, rfl, (by rw [hb9]; rfl)⟩⟩ rfl ?_
          refine AOR.pure (LT.pickF (v := (.s (.c (bC (decide (15 < (f.Graph.Bars.length : Int))))))) rfl hb9) ⟨rfl, rfl, trivial⟩ trivial rfl rfl ?_
          refine AOR.nil ?_
          refine AWR.nil ⟨rfl, Ent.of ⟨rfl, rfl, trivial⟩ ⟨rfl, trivial⟩⟩
  · refine AWR.cond rfl (fun hc10 => ?_) (fun hc10 => ?_)
    · refine AWR.seq ?_
      refine AWR.region ?_
      refine AOR.pure (LT.assign (v := (.s (.c (bC false)))) rfl) ⟨⟨rfl, rfl⟩, trivial⟩ trivial rfl rfl ?_
      refine AOR.nil ?_
      refine AWR.ret (FPost.mk (.inr rfl) ⟨rfl, trivial⟩ trivial rfl ⟨PermP.sc, trivial⟩ trivial)
    · refine AWR.skip ?_
      refine AWR.seq ?_
      refine AWR.seq ?_
      refine AWR.region ?_
      refine AOR.pure (LT.assign (v := (.s (.c (iC 0)))) rfl) ⟨⟨rfl, rfl⟩, trivial⟩ trivial rfl rfl ?_
      refine AOR.nil ?_
      refine AWR.block ?_
      refine AWR.loopR (id := 0) (m_spec_IsFramework_L1 f) (fun s11 => ([(1, (.s (.c (.pl 21 0)))), (3, (.s (.c (iC s11))))], [(21, (.row 62 [[(iC f.Graph.Points), (.pv (.xs false (f.Graph.Bars.map encTBar))), (.pv (.xs false (f.Places.map encTPlace)))]]))])) (fun b38 => ([(1, (.s (.c (.pl 21 0))))], [(21, (.row 62 [[(iC f.Graph.Points), (.pv (.xs false (f.Graph.Bars.map encTBar))), (.pv (.xs false (f.Places.map encTPlace)))]]))])) (FPost Try.prog Try.f79.results.toList [] [] (fun (t : Bool) => [(.c (bC t))]) (fun (t : Bool) => [])) ?_ (Ent.of ⟨rfl, rfl, trivial⟩ ⟨rfl, trivial⟩) rfl (fun b38 _ => ?_) (by intro r t σ m ht hk; injection ht with ht; subst ht; exact hk)
      · intro s11
        unfold m_spec_IsFramework_L1
        refine AWR.seq ?_
        refine AWR.seq ?_
        refine AWR.region ?_
        refine AOR.pure (LT.move (v := (.s (.c (iC s11)))) rfl) ⟨rfl, trivial⟩ trivial rfl rfl ?_
        refine AOR.pure (LT.fieldPl rfl fo62_1) ⟨rfl, trivial⟩ trivial rfl rfl ?_
        refine AOR.pure (LT.bload1 (c := (.pv (.xs false (f.Places.map encTPlace)))) rfl ag60 (by exact rfl)) ⟨rfl, trivial⟩ ⟨rfl, trivial⟩ rfl rfl ?_
        refine AOR.pure (LT.tlenRO rfl und60) ⟨rfl, trivial⟩ trivial rfl rfl ?_
        refine AOR.pure (LT.lss rfl) ⟨rfl, rfl, trivial⟩ trivial rfl rfl ?_
        refine AOR.nil ?_
        refine AWR.cond rfl (fun hc39 => ?_) (fun hc39 => ?_)
        · refine AWR.skip ?_
          refine AWR.seq ?_
          refine AWR.block ?_
          refine AWR.seq ?_
          refine AWR.joinK (fun j45 => ([(1, (.s (.c (.pl 21 0)))), (3, (.s (.c (iC s11)))), (56, (.s (.c (bC j45))))], [(21, (.row 62 [[(iC f.Graph.Points), (.pv (.xs false (f.Graph.Bars.map encTBar))), (.pv (.xs false (f.Places.map encTPlace)))]]))])) ?_ (fun j45 _ => ?_)
          · refine AWR.region ?_
            refine AOR.pure (LT.fieldPl rfl fo62_1) ⟨rfl, trivial⟩ trivial rfl rfl ?_
            refine AOR.pure (LT.bload1 (c := (.pv (.xs false (f.Places.map encTPlace)))) rfl ag60 (by exact rfl)) ⟨rfl, trivial⟩ ⟨rfl, trivial⟩ rfl rfl ?_
            refine AOR.pure (LT.move (v := (.s (.c (iC s11)))) rfl) ⟨rfl, trivial⟩ trivial rfl rfl ?_
            refine AOR.bind fun x46 hx46 => ?_
            refine AOR.pure (LT.tindexRO (enc := encTPlace) rfl el60 hx46 sz100) ⟨rfl, rfl, trivial⟩ trivial rfl rfl ?_
            refine AOR.pure (LT.fieldPx rfl fo100_0) ⟨rfl, trivial⟩ trivial rfl rfl ?_
            refine AOR.pure (LT.loadPx1 rfl ag3) ⟨rfl, trivial⟩ trivial rfl rfl ?_
            refine AOR.bind fun r47 hr47 => ?_
            refine AOR.pure (@LT.callF Try.prog _ _ 63 _ _ [(.c (iC x46.X)), (.c (iC 0)), (.c (iC 4))] _ _ [] _ _ _ _ (w_spec_l1In x46.X 0 4 r47 hr47) rfl cb63 (.cons (.c (.same rfl)) (.cons (.c (.same rfl)) (.cons (.c (.same rfl)) .nil))) rfl rfl trivial) ⟨rfl, rfl, ⟨rfl, rfl⟩, ⟨rfl, rfl⟩, trivial⟩ trivial rfl rfl ?_
            refine AOR.pure (LT.not rfl) ⟨rfl, trivial⟩ trivial rfl rfl ?_
            refine AOR.pure (LT.move (v := (.s (.c (bC (!r47))))) rfl) ⟨rfl, trivial⟩ trivial rfl rfl ?_
            refine AOR.split (fun hb48 => ?_) (fun hb48 => ?_)
            · refine AOR.skip ⟨_, rfl, .inl ⟨_, rfl, (by rw [hb48]; rfl)⟩⟩ rfl ?_
              refine AOR.skip ⟨_, rfl, .inl ⟨_, rfl, (by rw [hb48]; rfl)⟩⟩ rfl ?_
              refine AOR.skip ⟨_, rfl, .inl ⟨_, rfl, (by rw [hb48]; rfl)⟩⟩ rfl ?_
              refine AOR.skip ⟨_, rfl, .inl ⟨_, rfl, (by rw [hb48]; rfl)⟩⟩ rfl ?_
              refine AOR.skip ⟨_, rfl, .inl ⟨_, rfl, (by rw [hb48]; rfl)⟩⟩ rfl ?_
              refine AOR.skip ⟨_, rfl, .inl ⟨_, rfl, (by rw [hb48]; rfl)⟩⟩ rfl ?_
              refine AOR.skip ⟨_, rfl, .inl ⟨_, rfl, (by rw [hb48]; rfl)⟩⟩ rfl ?_
              refine AOR.skip ⟨_, rfl, .inl ⟨_, rfl, (by rw [hb48]; rfl)⟩⟩ rfl ?_
              refine AOR.pure (LT.pickT (v := (.s (.c (bC true)))) rfl hb48) ⟨rfl, ⟨rfl, rfl⟩, trivial⟩ trivial rfl rfl ?_
              refine AOR.nil ?_
              refine AWR.nil ⟨rfl, Ent.of ⟨rfl, rfl, rfl, trivial⟩ ⟨rfl, trivial⟩⟩
            · refine AOR.pure (LT.fieldPl rfl fo62_1) ⟨rfl, trivial⟩ trivial ⟨_, rfl, .inl ⟨_, rfl, (by rw [hb48]; rfl)⟩⟩ rfl ?_
              refine AOR.pure (LT.bload1 (c := (.pv (.xs false (f.Places.map encTPlace)))) rfl ag60 (by exact rfl)) ⟨rfl, trivial⟩ ⟨rfl, trivial⟩ ⟨_, rfl, .inl ⟨_, rfl, (by rw [hb48]; rfl)⟩⟩ rfl ?_
              refine AOR.pure (LT.move (v := (.s (.c (iC s11)))) rfl) ⟨rfl, trivial⟩ trivial ⟨_, rfl, .inl ⟨_, rfl, (by rw [hb48]; rfl)⟩⟩ rfl ?_
              refine AOR.bind fun x49 hx49 => ?_
              refine AOR.pure (LT.tindexRO (enc := encTPlace) rfl el60 hx49 sz100) ⟨rfl, rfl, trivial⟩ trivial ⟨_, rfl, .inl ⟨_, rfl, (by rw [hb48]; rfl)⟩⟩ rfl ?_
              refine AOR.pure (LT.fieldPx rfl fo100_1) ⟨rfl, trivial⟩ trivial ⟨_, rfl, .inl ⟨_, rfl, (by rw [hb48]; rfl)⟩⟩ rfl ?_
              refine AOR.pure (LT.loadPx1 rfl ag3) ⟨rfl, trivial⟩ trivial ⟨_, rfl, .inl ⟨_, rfl, (by rw [hb48]; rfl)⟩⟩ rfl ?_
              refine AOR.bind fun r50 hr50 => ?_
              refine AOR.pure (@LT.callF Try.prog _ _ 63 _ _ [(.c (iC x49.Y)), (.c (iC 0)), (.c (iC 4))] _ _ [] _ _ _ _ (w_spec_l1In x49.Y 0 4 r50 hr50) rfl cb63 (.cons (.c (.same rfl)) (.cons (.c (.same rfl)) (.cons (.c (.same rfl)) .nil))) rfl rfl trivial) ⟨rfl, rfl, ⟨rfl, rfl⟩, ⟨rfl, rfl⟩, trivial⟩ trivial ⟨_, rfl, .inl ⟨_, rfl, (by rw [hb48]; rfl)⟩⟩ rfl ?_
              refine AOR.pure (LT.not rfl) ⟨rfl, trivial⟩ trivial ⟨_, rfl, .inl ⟨_, rfl, (by rw [hb48]; rfl)⟩⟩ rfl ?_
              refine AOR.pure (LT.pickF (v := (.s (.c (bC (!r50))))) rfl hb48) ⟨rfl, rfl, trivial⟩ trivial rfl rfl ?_
              refine AOR.nil ?_
              refine AWR.nil ⟨rfl, Ent.of ⟨rfl, rfl, rfl, trivial⟩ ⟨rfl, trivial⟩⟩
          · refine AWR.cond rfl (fun hc51 => ?_) (fun hc51 => ?_)
            · refine AWR.seq ?_
              refine AWR.region ?_
              refine AOR.pure (LT.assign (v := (.s (.c (bC false)))) rfl) ⟨⟨rfl, rfl⟩, trivial⟩ trivial rfl rfl ?_
              refine AOR.nil ?_
              refine AWR.ret ⟨rfl, FPost.mk (.inr rfl) ⟨rfl, trivial⟩ trivial rfl ⟨PermP.sc, trivial⟩ trivial⟩
            · refine AWR.skip ?_
              refine AWR.blk ?_
              refine AWR.region ?_
              refine AOR.pure (LT.move (v := (.s (.c (iC s11)))) rfl) ⟨rfl, trivial⟩ trivial rfl rfl ?_
              refine AOR.pure (LT.add rfl) ⟨rfl, ⟨rfl, rfl⟩, trivial⟩ trivial rfl rfl ?_
              refine AOR.pure (LT.assign (v := (.s (.c (iC (w64 (s11 + 1)))))) rfl) ⟨rfl, trivial⟩ trivial rfl rfl ?_
              refine AOR.nil ?_
              refine AWR.nil ⟨rfl, Ent.of ⟨rfl, rfl, trivial⟩ ⟨rfl, trivial⟩⟩
        · refine AWR.exit_end rfl ⟨rfl, Ent.of ⟨rfl, trivial⟩ ⟨rfl, trivial⟩⟩
      · refine AWR.seq ?_
        refine AWR.seq ?_
        refine AWR.region ?_
        refine AOR.pure (LT.assign (v := (.s (.c (iC 0)))) rfl) ⟨⟨rfl, rfl⟩, trivial⟩ trivial rfl rfl ?_
        refine AOR.nil ?_
        refine AWR.block ?_
        refine AWR.loopR (id := 2) (m_spec_IsFramework_L2 f) (fun s52 => ([(1, (.s (.c (.pl 21 0)))), (4, (.s (.c (iC s52))))], [(21, (.row 62 [[(iC f.Graph.Points), (.pv (.xs false (f.Graph.Bars.map encTBar))), (.pv (.xs false (f.Places.map encTPlace)))]]))])) (fun b81 => ([], [])) (FPost Try.prog Try.f79.results.toList [] [] (fun (t : Bool) => [(.c (bC t))]) (fun (t : Bool) => [])) ?_ (Ent.of ⟨rfl, rfl, trivial⟩ ⟨rfl, trivial⟩) rfl (fun b81 _ => ?_) (by intro r t σ m ht hk; injection ht with ht; subst ht; exact hk)
        · intro s52
          unfold m_spec_IsFramework_L2
          refine AWR.seq ?_
          refine AWR.seq ?_
          refine AWR.region ?_
          refine AOR.pure (LT.move (v := (.s (.c (iC s52)))) rfl) ⟨rfl, trivial⟩ trivial rfl rfl ?_
          refine AOR.pure (LT.fieldPl rfl fo62_0) ⟨rfl, trivial⟩ trivial rfl rfl ?_
          refine AOR.pure (LT.fieldPl rfl fo30_1) ⟨rfl, trivial⟩ trivial rfl rfl ?_
          refine AOR.pure (LT.bload1 (c := (.pv (.xs false (f.Graph.Bars.map encTBar)))) rfl ag28 (by exact rfl)) ⟨rfl, trivial⟩ ⟨rfl, trivial⟩ rfl rfl ?_
          refine AOR.pure (LT.tlenRO rfl und28) ⟨rfl, trivial⟩ trivial rfl rfl ?_
          refine AOR.pure (LT.lss rfl) ⟨rfl, rfl, trivial⟩ trivial rfl rfl ?_
          refine AOR.nil ?_
          refine AWR.cond rfl (fun hc82 => ?_) (fun hc82 => ?_)
          · refine AWR.skip ?_
            refine AWR.seq ?_
            refine AWR.block ?_
            refine AWR.seq ?_
            refine AWR.region ?_
            refine AOR.pure (LT.fieldPl rfl fo62_0) ⟨rfl, trivial⟩ trivial rfl rfl ?_
            refine AOR.pure (LT.fieldPl rfl fo30_1) ⟨rfl, trivial⟩ trivial rfl rfl ?_
            refine AOR.pure (LT.bload1 (c := (.pv (.xs false (f.Graph.Bars.map encTBar)))) rfl ag28 (by exact rfl)) ⟨rfl, trivial⟩ ⟨rfl, trivial⟩ rfl rfl ?_
            refine AOR.pure (LT.move (v := (.s (.c (iC s52)))) rfl) ⟨rfl, trivial⟩ trivial rfl rfl ?_
            refine AOR.bind fun x83 hx83 => ?_
            refine AOR.pure (LT.tindexRO (enc := encTBar) rfl el28 hx83 sz88) ⟨rfl, rfl, trivial⟩ trivial rfl rfl ?_
            refine AOR.pure (LT.loadPxN rfl ag88 (infS inf88) (by exact sz88.symm)) ⟨rfl, trivial⟩ trivial rfl rfl ?_
            refine AOR.step (LT.alloc (n := 25) (cells := [(iC 0), (iC 0)]) rfl ti88 rfl rfl rfl) trivial trivial rfl rfl ?_
            refine AOR.step (LT.bstore (v := (.agg [(iC x83.A), (iC x83.B)])) (out := [(iC x83.A), (iC x83.B)]) rfl rfl (infS inf88) sz88 (by exact rfl) (by exact Nat.le_of_ble_eq_true rfl) (by exact rfl)) ⟨rfl, rfl, trivial⟩ ⟨rfl, trivial⟩ rfl rfl ?_
            refine AOR.nil ?_
            refine AWR.seq ?_
            refine AWR.joinK (fun j89 => ([(1, (.s (.c (.pl 21 0)))), (4, (.s (.c (iC s52)))), (98, (.s (.c (bC j89))))], [(21, (.row 62 [[(iC f.Graph.Points), (.pv (.xs false (f.Graph.Bars.map encTBar))), (.pv (.xs false (f.Places.map encTPlace)))]]))])) ?_ (fun j89 _ => ?_)
            · refine AWR.ent (Ent.of (σ' := [(1, (.s (.c (.pl 21 0)))), (4, (.s (.c (iC s52)))), (5, (.s (.c (.pl 25 0))))]) (m' := [(21, (.row 62 [[(iC f.Graph.Points), (.pv (.xs false (f.Graph.Bars.map encTBar))), (.pv (.xs false (f.Places.map encTPlace)))]])), (25, (.row 88 [[(iC x83.A), (iC x83.B)]]))]) ⟨rfl, rfl, rfl, trivial⟩ ⟨rfl, rfl, trivial⟩) ?_
              refine AWR.draw mixed ?_
              refine AOD.pure (LT.fieldPl rfl fo62_1) ⟨rfl, trivial⟩ trivial rfl rfl ?_
              refine AOD.pure (LT.bload1 (c := (.pv (.xs false (f.Places.map encTPlace)))) rfl ag60 (by exact rfl)) ⟨rfl, trivial⟩ ⟨rfl, trivial⟩ rfl rfl ?_
              refine AOD.pure (LT.fieldPl rfl fo88_0) ⟨rfl, trivial⟩ trivial rfl rfl ?_
              refine AOD.pure (LT.bload1 (c := (iC x83.A)) rfl ag3 (by exact rfl)) ⟨rfl, trivial⟩ ⟨rfl, trivial⟩ rfl rfl ?_
              refine AOD.bind fun x90 hx90 => ?_
              refine AOD.pure (LT.tindexRO (enc := encTPlace) rfl el60 hx90 sz100) ⟨rfl, rfl, trivial⟩ trivial rfl rfl ?_
              refine AOD.pure (LT.loadPxN rfl ag100 (infS inf100) (by exact sz100.symm)) ⟨rfl, trivial⟩ trivial rfl rfl ?_
              refine AOD.pure (LT.fieldPl rfl fo62_1) ⟨rfl, trivial⟩ trivial rfl rfl ?_
              refine AOD.pure (LT.bload1 (c := (.pv (.xs false (f.Places.map encTPlace)))) rfl ag60 (by exact rfl)) ⟨rfl, trivial⟩ ⟨rfl, trivial⟩ rfl rfl ?_
              refine AOD.pure (LT.fieldPl rfl fo88_1) ⟨rfl, trivial⟩ trivial rfl rfl ?_
              refine AOD.pure (LT.bload1 (c := (iC x83.B)) rfl ag3 (by exact rfl)) ⟨rfl, trivial⟩ ⟨rfl, trivial⟩ rfl rfl ?_
              refine AOD.bind fun x91 hx91 => ?_
              refine AOD.pure (LT.tindexRO (enc := encTPlace) rfl el60 hx91 sz100) ⟨rfl, rfl, trivial⟩ trivial rfl rfl ?_
              refine AOD.pure (LT.loadPxN rfl ag100 (infS inf100) (by exact sz100.symm)) ⟨rfl, trivial⟩ trivial rfl rfl ?_
              refine AOD.pure (LT.eqlStruct [x90.X, x90.Y] [x91.X, x91.Y] rfl ist100 rfl rfl) ⟨rfl, rfl, trivial⟩ trivial rfl rfl ?_
              refine AOD.pure (LT.move (v := (.s (.c (bC (eqI [x90.X, x90.Y] [x91.X, x91.Y]))))) rfl) ⟨rfl, trivial⟩ trivial rfl rfl ?_
              refine AOD.split (fun hb92 => ?_) (fun hb92 => ?_)
              · refine AOD.skip ⟨_, rfl, .inl ⟨_, rfl, (by rw [hb92]; rfl)⟩⟩ rfl ?_
                refine AOD.skip ⟨_, rfl, .inl ⟨_, rfl, (by rw [hb92]; rfl)⟩⟩ rfl ?_
                refine AOD.skip ⟨_, rfl, .inl ⟨_, rfl, (by rw [hb92]; rfl)⟩⟩ rfl ?_
                refine AOD.skip ⟨_, rfl, .inr ⟨rfl, rfl⟩⟩ rfl ?_
                refine AOD.skip ⟨_, rfl, .inr ⟨rfl, rfl⟩⟩ rfl ?_
                refine AOD.skip ⟨_, rfl, .inr ⟨rfl, rfl⟩⟩ rfl ?_
                refine AOD.skip ⟨_, rfl, .inr ⟨rfl, rfl⟩⟩ rfl ?_
                refine AOD.skip ⟨_, rfl, .inr ⟨rfl, rfl⟩⟩ rfl ?_
                refine AOD.skip ⟨_, rfl, .inr ⟨rfl, rfl⟩⟩ rfl ?_
                refine AOD.skip ⟨_, rfl, .inr ⟨rfl, rfl⟩⟩ rfl ?_
                refine AOD.skip ⟨_, rfl, .inr ⟨rfl, rfl⟩⟩ rfl ?_
                refine AOD.skip ⟨_, rfl, .inr ⟨rfl, rfl⟩⟩ rfl ?_
                refine AOD.skip ⟨_, rfl, .inl ⟨_, rfl, (by rw [hb92]; rfl)⟩⟩ rfl ?_
                refine AOD.pure (LT.pickT (v := (.s (.c (bC true)))) rfl hb92) ⟨rfl, ⟨rfl, rfl⟩, trivial⟩ trivial rfl rfl ?_
                refine AOD.nil (by kernel_rfl) ?_
                refine AWR.nil ⟨rfl, Ent.of ⟨rfl, rfl, rfl, trivial⟩ ⟨rfl, trivial⟩⟩
              · refine AOD.pure (LT.move (v := (.s (.c (iC s52)))) rfl) ⟨rfl, trivial⟩ trivial ⟨_, rfl, .inl ⟨_, rfl, (by rw [hb92]; rfl)⟩⟩ rfl ?_
                refine AOD.pure (LT.gtr rfl) ⟨rfl, ⟨rfl, rfl⟩, trivial⟩ trivial ⟨_, rfl, .inl ⟨_, rfl, (by rw [hb92]; rfl)⟩⟩ rfl ?_
                refine AOD.pure (LT.move (v := (.s (.c (bC (decide (0 < s52)))))) rfl) ⟨rfl, trivial⟩ trivial ⟨_, rfl, .inl ⟨_, rfl, (by rw [hb92]; rfl)⟩⟩ rfl ?_
                refine AOD.split (fun hb93 => ?_) (fun hb93 => ?_)
                · refine AOD.pure (LT.fieldPl rfl fo62_0) ⟨rfl, trivial⟩ trivial ⟨_, rfl, .inl ⟨_, rfl, (by rw [hb93]; rfl)⟩⟩ rfl ?_
                  refine AOD.pure (LT.fieldPl rfl fo30_1) ⟨rfl, trivial⟩ trivial ⟨_, rfl, .inl ⟨_, rfl, (by rw [hb93]; rfl)⟩⟩ rfl ?_
                  refine AOD.pure (LT.bload1 (c := (.pv (.xs false (f.Graph.Bars.map encTBar)))) rfl ag28 (by exact rfl)) ⟨rfl, trivial⟩ ⟨rfl, trivial⟩ ⟨_, rfl, .inl ⟨_, rfl, (by rw [hb93]; rfl)⟩⟩ rfl ?_
                  refine AOD.pure (LT.move (v := (.s (.c (iC s52)))) rfl) ⟨rfl, trivial⟩ trivial ⟨_, rfl, .inl ⟨_, rfl, (by rw [hb93]; rfl)⟩⟩ rfl ?_
                  refine AOD.pure (LT.sub rfl) ⟨rfl, ⟨rfl, rfl⟩, trivial⟩ trivial ⟨_, rfl, .inl ⟨_, rfl, (by rw [hb93]; rfl)⟩⟩ rfl ?_
                  refine AOD.bind fun x94 hx94 => ?_
                  refine AOD.pure (LT.tindexRO (enc := encTBar) rfl el28 hx94 sz88) ⟨rfl, rfl, trivial⟩ trivial ⟨_, rfl, .inl ⟨_, rfl, (by rw [hb93]; rfl)⟩⟩ rfl ?_
                  refine AOD.pure (LT.loadPxN rfl ag88 (infS inf88) (by exact sz88.symm)) ⟨rfl, trivial⟩ trivial ⟨_, rfl, .inl ⟨_, rfl, (by rw [hb93]; rfl)⟩⟩ rfl ?_
                  refine AOD.pure (LT.bloadN (out := [(iC x83.A), (iC x83.B)]) rfl ag88 (infS inf88) sz88 (by exact rfl) (by exact rfl)) ⟨rfl, trivial⟩ ⟨rfl, trivial⟩ ⟨_, rfl, .inl ⟨_, rfl, (by rw [hb93]; rfl)⟩⟩ rfl ?_
                  refine AOD.pure (LT.eqlStruct [x94.A, x94.B] [x83.A, x83.B] rfl ist88 rfl rfl) ⟨rfl, rfl, trivial⟩ trivial ⟨_, rfl, .inl ⟨_, rfl, (by rw [hb93]; rfl)⟩⟩ rfl ?_
                  refine AOD.pure (LT.pickT (v := (.s (.c (bC (eqI [x94.A, x94.B] [x83.A, x83.B]))))) rfl hb93) ⟨rfl, rfl, trivial⟩ trivial ⟨_, rfl, .inl ⟨_, rfl, (by rw [hb92]; rfl)⟩⟩ rfl ?_
                  refine AOD.pure (LT.pickF (v := (.s (.c (bC (eqI [x94.A, x94.B] [x83.A, x83.B]))))) rfl hb92) ⟨rfl, rfl, trivial⟩ trivial rfl rfl ?_
                  refine AOD.nil (by kernel_rfl) ?_
                  refine AWR.nil ⟨rfl, Ent.of ⟨rfl, rfl, rfl, trivial⟩ ⟨rfl, trivial⟩⟩
                · refine AOD.skip ⟨_, rfl, .inl ⟨_, rfl, (by rw [hb93]; rfl)⟩⟩ rfl ?_
                  refine AOD.skip ⟨_, rfl, .inl ⟨_, rfl, (by rw [hb93]; rfl)⟩⟩ rfl ?_
                  refine AOD.skip ⟨_, rfl, .inl ⟨_, rfl, (by rw [hb93]; rfl)⟩⟩ rfl ?_
                  refine AOD.skip ⟨_, rfl, .inl ⟨_, rfl, (by rw [hb93]; rfl)⟩⟩ rfl ?_
                  refine AOD.skip ⟨_, rfl, .inl ⟨_, rfl, (by rw [hb93]; rfl)⟩⟩ rfl ?_
                  refine AOD.skip ⟨_, rfl, .inl ⟨_, rfl, (by rw [hb93]; rfl)⟩⟩ rfl ?_
                  refine AOD.skip ⟨_, rfl, .inl ⟨_, rfl, (by rw [hb93]; rfl)⟩⟩ rfl ?_
                  refine AOD.skip ⟨_, rfl, .inl ⟨_, rfl, (by rw [hb93]; rfl)⟩⟩ rfl ?_
                  refine AOD.skip ⟨_, rfl, .inl ⟨_, rfl, (by rw [hb93]; rfl)⟩⟩ rfl ?_
                  refine AOD.pure (LT.pickF (v := (.s (.c (bC false)))) rfl hb93) ⟨rfl, ⟨rfl, rfl⟩, trivial⟩ trivial ⟨_, rfl, .inl ⟨_, rfl, (by rw [hb92]; rfl)⟩⟩ rfl ?_
                  refine AOD.pure (LT.pickF (v := (.s (.c (bC false)))) rfl hb92) ⟨rfl, rfl, trivial⟩ trivial rfl rfl ?_
                  refine AOD.nil (by kernel_rfl) ?_
                  refine AWR.nil ⟨rfl, Ent.of ⟨rfl, rfl, rfl, trivial⟩ ⟨rfl, trivial⟩⟩
            · refine AWR.cond rfl (fun hc95 => ?_) (fun hc95 => ?_)
              · refine AWR.seq ?_
                refine AWR.region ?_
                refine AOR.pure (LT.assign (v := (.s (.c (bC false)))) rfl) ⟨⟨rfl, rfl⟩, trivial⟩ trivial rfl rfl ?_
                refine AOR.nil ?_
                refine AWR.ret ⟨rfl, FPost.mk (.inr rfl) ⟨rfl, trivial⟩ trivial rfl ⟨PermP.sc, trivial⟩ trivial⟩
              · refine AWR.skip ?_
                refine AWR.blk ?_
                refine AWR.region ?_
                refine AOR.pure (LT.move (v := (.s (.c (iC s52)))) rfl) ⟨rfl, trivial⟩ trivial rfl rfl ?_
                refine AOR.pure (LT.add rfl) ⟨rfl, ⟨rfl, rfl⟩, trivial⟩ trivial rfl rfl ?_
                refine AOR.pure (LT.assign (v := (.s (.c (iC (w64 (s52 + 1)))))) rfl) ⟨rfl, trivial⟩ trivial rfl rfl ?_
                refine AOR.nil ?_
                refine AWR.nil ⟨rfl, Ent.of ⟨rfl, rfl, trivial⟩ ⟨rfl, trivial⟩⟩
          · refine AWR.exit_end rfl ⟨rfl, Ent.of trivial trivial⟩
        · refine AWR.seq ?_
          refine AWR.region ?_
          refine AOR.pure (LT.assign (v := (.s (.c (bC true)))) rfl) ⟨⟨rfl, rfl⟩, trivial⟩ trivial rfl rfl ?_
          refine AOR.nil ?_
          refine AWR.ret (FPost.mk (.inr rfl) ⟨rfl, trivial⟩ trivial rfl ⟨PermP.sc, trivial⟩ trivial)
set_option maxRecDepth 100000 in
set_option maxHeartbeats 8000000 in
theorem w_spec_PairDistances (f : TFramework) : ∀ t, m_spec_PairDistances f = some t → Fw.Fn Try.prog 55 [(.agg [(iC f.Graph.Points), (.pv (.xs false (f.Graph.Bars.map encTBar))), (.pv (.xs false (f.Places.map encTPlace)))])] [] (.s (.c (.loc 0 0 t.length))) [(0, (.prow 3 (t.map encInt)))] [] [0] := by
  refine Fw.Fn.of (P := Try.prog) (X := [0]) (pn := []) (rs := (fun (t : (List Int)) => [(.c (.loc 0 0 t.length))])) (dfs := (fun (t : (List Int)) => [(0, (.prow 3 (t.map encInt)))])) Try.func55 rfl Try.ntmps55 (Nat.le_of_ble_eq_true rfl) rfl ?_
  intro w0 U0 R0 g0
  unfold m_spec_PairDistances
  refine AWR.seq ?_
  refine AWR.region ?_
  refine AOR.step (LT.box (n := 21) (v := (.agg [(iC f.Graph.Points), (.pv (.xs false (f.Graph.Bars.map encTBar))), (.pv (.xs false (f.Places.map encTPlace)))])) rfl sz62 (by exact rfl)) ⟨rfl, trivial⟩ trivial rfl rfl ?_
  refine AOR.pure (LT.assign (v := (.s (.c (sC nilV)))) rfl) ⟨⟨rfl, rfl⟩, trivial⟩ trivial rfl rfl ?_
  refine AOR.nil ?_
  refine AWR.seq ?_
  refine AWR.region ?_
  refine AOR.step (LT.tbuildSlice (n := 22) (enc := encInt) [] ([] : List Int) rfl rfl und40 ti3 rfl rfl rfl rfl (by decide) (fun _ => rfl) rfl) trivial trivial rfl rfl ?_
  refine AOR.pure (LT.assign (v := (.s (.c (.loc 22 0 ([] : List Int).length)))) rfl) ⟨rfl, trivial⟩ trivial rfl rfl ?_
  refine AOR.nil ?_
  refine AWR.seq ?_
  refine AWR.seq ?_
  refine AWR.region ?_
  refine AOR.pure (LT.assign (v := (.s (.c (iC 0)))) rfl) ⟨⟨rfl, rfl⟩, trivial⟩ trivial rfl rfl ?_
  refine AOR.nil ?_
  refine AWR.block ?_
  refine AWR.loop1 (id := 0) (m_spec_PairDistances_L3 f) (fun s1 => ([(1, (.s (.c (.pl 21 0)))), (3, (.s (.c (.loc 22 0 s1.2.length)))), (4, (.s (.c (iC s1.1))))], [(21, (.row 62 [[(iC f.Graph.Points), (.pv (.xs false (f.Graph.Bars.map encTBar))), (.pv (.xs false (f.Places.map encTPlace)))]])), (22, (.prow 3 (s1.2.map encInt)))])) (fun b42 => ([(3, (.s (.c (.loc 22 0 b42.length))))], [(22, (.prow 3 (b42.map encInt)))])) ?_ (Ent.of ⟨rfl, rfl, rfl, trivial⟩ ⟨rfl, rfl, trivial⟩) rfl (fun b42 _ => ?_)
  · intro s1
    unfold m_spec_PairDistances_L3
    refine AWR.seq ?_
    refine AWR.seq ?_
    refine AWR.joinK (fun j45 => ([(1, (.s (.c (.pl 21 0)))), (3, (.s (.c (.loc 22 0 s1.2.length)))), (4, (.s (.c (iC s1.1)))), (17, (.s (.c (bC j45))))], [(21, (.row 62 [[(iC f.Graph.Points), (.pv (.xs false (f.Graph.Bars.map encTBar))), (.pv (.xs false (f.Places.map encTPlace)))]])), (22, (.prow 3 (s1.2.map encInt)))])) ?_ (fun j45 _ => ?_)
    · refine AWR.region ?_
      refine AOR.pure (LT.move (v := (.s (.c (iC s1.1)))) rfl) ⟨rfl, trivial⟩ trivial rfl rfl ?_
      refine AOR.pure (LT.fieldPl rfl fo62_1) ⟨rfl, trivial⟩ trivial rfl rfl ?_
      refine AOR.pure (LT.bload1 (c := (.pv (.xs false (f.Places.map encTPlace)))) rfl ag60 (by exact rfl)) ⟨rfl, trivial⟩ ⟨rfl, trivial⟩ rfl rfl ?_
      refine AOR.pure (LT.tlenRO rfl und60) ⟨rfl, trivial⟩ trivial rfl rfl ?_
      refine AOR.pure (LT.lss rfl) ⟨rfl, rfl, trivial⟩ trivial rfl rfl ?_
      refine AOR.pure (LT.move (v := (.s (.c (bC (decide (s1.1 < (f.Places.length : Int))))))) rfl) ⟨rfl, trivial⟩ trivial rfl rfl ?_
      refine AOR.split (fun hb46 => ?_) (fun hb46 => ?_)
      · refine AOR.pure (LT.bloadN (out := [(iC f.Graph.Points), (.pv (.xs false (f.Graph.Bars.map encTBar))), (.pv (.xs false (f.Places.map encTPlace)))]) rfl ag62 (infS inf62) sz62 (by exact rfl) (by exact rfl)) ⟨rfl, trivial⟩ ⟨rfl, trivial⟩ ⟨_, rfl, .inl ⟨_, rfl, (by rw [hb46]; rfl)⟩⟩ rfl ?_
        refine AOR.bind fun r47 hr47 => ?_
        refine AOR.pure (@LT.callF Try.prog _ _ 79 _ _ [(.agg [(iC f.Graph.Points), (.pv (.xs false (f.Graph.Bars.map encTBar))), (.pv (.xs false (f.Places.map encTPlace)))])] _ _ [] _ _ _ _ (w_spec_IsFramework f r47 hr47) rfl cb79 (.cons (.agg (.cons (.same rfl) (.cons (.same rfl) (.cons (.same rfl) .nil)))) .nil) rfl rfl trivial) ⟨rfl, rfl, trivial⟩ trivial ⟨_, rfl, .inl ⟨_, rfl, (by rw [hb46]; rfl)⟩⟩ rfl ?_
        refine AOR.pure (LT.pickT (v := (.s (.c (bC r47)))) rfl hb46) ⟨rfl, rfl, trivial⟩ trivial rfl rfl ?_
        refine AOR.nil ?_
        refine AWR.nil ⟨rfl, Ent.of ⟨rfl, rfl, rfl, rfl, trivial⟩ ⟨rfl, rfl, trivial⟩⟩
      · refine AOR.skip ⟨_, rfl, .inl ⟨_, rfl, (by rw [hb46]; rfl)⟩⟩ rfl ?_
        refine AOR.skip ⟨_, rfl, .inl ⟨_, rfl, (by rw [hb46]; rfl)⟩⟩ rfl ?_
        refine AOR.pure (LT.pickF (v := (.s (.c (bC false)))) rfl hb46) ⟨rfl, ⟨rfl, rfl⟩, trivial⟩ trivial rfl rfl ?_
        refine AOR.nil ?_
        refine AWR.nil ⟨rfl, Ent.of ⟨rfl, rfl, rfl, rfl, trivial⟩ ⟨rfl, rfl, trivial⟩⟩
    · refine AWR.cond rfl (fun hc48 => ?_) (fun hc48 => ?_)
      · refine AWR.skip ?_
        refine AWR.seq ?_
        refine AWR.block ?_
        refine AWR.seq ?_
        refine AWR.region ?_
        refine AOR.pure (LT.move (v := (.s (.c (iC s1.1)))) rfl) ⟨rfl, trivial⟩ trivial rfl rfl ?_
        refine AOR.pure (LT.add rfl) ⟨rfl, ⟨rfl, rfl⟩, trivial⟩ trivial rfl rfl ?_
        refine AOR.pure (LT.assign (v := (.s (.c (iC (w64 (s1.1 + 1)))))) rfl) ⟨rfl, trivial⟩ trivial rfl rfl ?_
        refine AOR.nil ?_
        refine AWR.block ?_
        refine AWR.loop1 (id := 2) (m_spec_PairDistances_L4 f s1) (fun s49 => ([(1, (.s (.c (.pl 21 0)))), (3, (.s (.c (.loc 22 0 s49.2.length)))), (4, (.s (.c (iC s1.1)))), (5, (.s (.c (iC s49.1))))], [(21, (.row 62 [[(iC f.Graph.Points), (.pv (.xs false (f.Graph.Bars.map encTBar))), (.pv (.xs false (f.Places.map encTPlace)))]])), (22, (.prow 3 (s49.2.map encInt)))])) (fun b62 => ([(1, (.s (.c (.pl 21 0)))), (3, (.s (.c (.loc 22 0 b62.2.length)))), (4, (.s (.c (iC b62.1))))], [(21, (.row 62 [[(iC f.Graph.Points), (.pv (.xs false (f.Graph.Bars.map encTBar))), (.pv (.xs false (f.Places.map encTPlace)))]])), (22, (.prow 3 (b62.2.map encInt)))])) ?_ (Ent.of ⟨rfl, rfl, rfl, rfl, trivial⟩ ⟨rfl, rfl, trivial⟩) rfl (fun b62 _ => ?_)
        · intro s49
          unfold m_spec_PairDistances_L4
          refine AWR.seq ?_
          refine AWR.seq ?_
          refine AWR.region ?_
          refine AOR.pure (LT.move (v := (.s (.c (iC s49.1)))) rfl) ⟨rfl, trivial⟩ trivial rfl rfl ?_
          refine AOR.pure (LT.fieldPl rfl fo62_1) ⟨rfl, trivial⟩ trivial rfl rfl ?_
          refine AOR.pure (LT.bload1 (c := (.pv (.xs false (f.Places.map encTPlace)))) rfl ag60 (by exact rfl)) ⟨rfl, trivial⟩ ⟨rfl, trivial⟩ rfl rfl ?_
          refine AOR.pure (LT.tlenRO rfl und60) ⟨rfl, trivial⟩ trivial rfl rfl ?_
          refine AOR.pure (LT.lss rfl) ⟨rfl, rfl, trivial⟩ trivial rfl rfl ?_
          refine AOR.nil ?_
          refine AWR.cond rfl (fun hc63 => ?_) (fun hc63 => ?_)
          · refine AWR.skip ?_
            refine AWR.seq ?_
            refine AWR.block ?_
            refine AWR.seq ?_
            refine AWR.draw mixed ?_
            refine AOD.pure (LT.fieldPl rfl fo62_1) ⟨rfl, trivial⟩ trivial rfl rfl ?_
            refine AOD.pure (LT.bload1 (c := (.pv (.xs false (f.Places.map encTPlace)))) rfl ag60 (by exact rfl)) ⟨rfl, trivial⟩ ⟨rfl, trivial⟩ rfl rfl ?_
            refine AOD.pure (LT.move (v := (.s (.c (iC s1.1)))) rfl) ⟨rfl, trivial⟩ trivial rfl rfl ?_
            refine AOD.bind fun x64 hx64 => ?_
            refine AOD.pure (LT.tindexRO (enc := encTPlace) rfl el60 hx64 sz100) ⟨rfl, rfl, trivial⟩ trivial rfl rfl ?_
            refine AOD.pure (LT.fieldPx rfl fo100_0) ⟨rfl, trivial⟩ trivial rfl rfl ?_
            refine AOD.pure (LT.loadPx1 rfl ag3) ⟨rfl, trivial⟩ trivial rfl rfl ?_
            refine AOD.pure (LT.fieldPl rfl fo62_1) ⟨rfl, trivial⟩ trivial rfl rfl ?_
            refine AOD.pure (LT.bload1 (c := (.pv (.xs false (f.Places.map encTPlace)))) rfl ag60 (by exact rfl)) ⟨rfl, trivial⟩ ⟨rfl, trivial⟩ rfl rfl ?_
            refine AOD.pure (LT.move (v := (.s (.c (iC s49.1)))) rfl) ⟨rfl, trivial⟩ trivial rfl rfl ?_
            refine AOD.bind fun x65 hx65 => ?_
            refine AOD.pure (LT.tindexRO (enc := encTPlace) rfl el60 hx65 sz100) ⟨rfl, rfl, trivial⟩ trivial rfl rfl ?_
            refine AOD.pure (LT.fieldPx rfl fo100_0) ⟨rfl, trivial⟩ trivial rfl rfl ?_
            refine AOD.pure (LT.loadPx1 rfl ag3) ⟨rfl, trivial⟩ trivial rfl rfl ?_
            refine AOD.pure (LT.sub rfl) ⟨rfl, rfl, trivial⟩ trivial rfl rfl ?_
            refine AOD.pure (LT.assign (v := (.s (.c (iC (w64 (x64.X - x65.X)))))) rfl) ⟨rfl, trivial⟩ trivial rfl rfl ?_
            refine AOD.nil (by kernel_rfl) ?_
            refine AWR.seq ?_
            refine AWR.ent (Ent.of (σ' := [(1, (.s (.c (.pl 21 0)))), (3, (.s (.c (.loc 22 0 s49.2.length)))), (4, (.s (.c (iC s1.1)))), (5, (.s (.c (iC s49.1)))), (6, (.s (.c (iC (w64 (x64.X - x65.X))))))]) (m' := [(21, (.row 62 [[(iC f.Graph.Points), (.pv (.xs false (f.Graph.Bars.map encTBar))), (.pv (.xs false (f.Places.map encTPlace)))]])), (22, (.prow 3 (s49.2.map encInt)))]) ⟨rfl, rfl, rfl, rfl, rfl, trivial⟩ ⟨rfl, rfl, trivial⟩) ?_
            refine AWR.draw mixed ?_
            refine AOD.pure (LT.fieldPl rfl fo62_1) ⟨rfl, trivial⟩ trivial rfl rfl ?_
            refine AOD.pure (LT.bload1 (c := (.pv (.xs false (f.Places.map encTPlace)))) rfl ag60 (by exact rfl)) ⟨rfl, trivial⟩ ⟨rfl, trivial⟩ rfl rfl ?_
            refine AOD.pure (LT.move (v := (.s (.c (iC s1.1)))) rfl) ⟨rfl, trivial⟩ trivial rfl rfl ?_
            refine AOD.bind fun x66 hx66 => ?_
            refine AOD.pure (LT.tindexRO (enc := encTPlace) rfl el60 hx66 sz100) ⟨rfl, rfl, trivial⟩ trivial rfl rfl ?_
            refine AOD.pure (LT.fieldPx rfl fo100_1) ⟨rfl, trivial⟩ trivial rfl rfl ?_
            refine AOD.pure (LT.loadPx1 rfl ag3) ⟨rfl, trivial⟩ trivial rfl rfl ?_
            refine AOD.pure (LT.fieldPl rfl fo62_1) ⟨rfl, trivial⟩ trivial rfl rfl ?_
            refine AOD.pure (LT.bload1 (c := (.pv (.xs false (f.Places.map encTPlace)))) rfl ag60 (by exact rfl)) ⟨rfl, trivial⟩ ⟨rfl, trivial⟩ rfl rfl ?_
            refine AOD.pure (LT.move (v := (.s (.c (iC s49.1)))) rfl) ⟨rfl, trivial⟩ trivial rfl rfl ?_
            refine AOD.bind fun x67 hx67 => ?_
            refine AOD.pure (LT.tindexRO (enc := encTPlace) rfl el60 hx67 sz100) ⟨rfl, rfl, trivial⟩ trivial rfl rfl ?_
            refine AOD.pure (LT.fieldPx rfl fo100_1) ⟨rfl, trivial⟩ trivial rfl rfl ?_
            refine AOD.pure (LT.loadPx1 rfl ag3) ⟨rfl, trivial⟩ trivial rfl rfl ?_
            refine AOD.pure (LT.sub rfl) ⟨rfl, rfl, trivial⟩ trivial rfl rfl ?_
            refine AOD.pure (LT.assign (v := (.s (.c (iC (w64 (x66.Y - x67.Y)))))) rfl) ⟨rfl, trivial⟩ trivial rfl rfl ?_
            refine AOD.nil (by kernel_rfl) ?_
            refine AWR.ent (Ent.of (σ' := [(1, (.s (.c (.pl 21 0)))), (3, (.s (.c (.loc 22 0 s49.2.length)))), (4, (.s (.c (iC s1.1)))), (5, (.s (.c (iC s49.1)))), (6, (.s (.c (iC (w64 (x64.X - x65.X)))))), (7, (.s (.c (iC (w64 (x66.Y - x67.Y))))))]) (m' := [(21, (.row 62 [[(iC f.Graph.Points), (.pv (.xs false (f.Graph.Bars.map encTBar))), (.pv (.xs false (f.Places.map encTPlace)))]])), (22, (.prow 3 (s49.2.map encInt)))]) ⟨rfl, rfl, rfl, rfl, rfl, rfl, trivial⟩ ⟨rfl, rfl, trivial⟩) ?_
            refine AWR.region ?_
            refine AOR.pure (LT.move (v := (.s (.c (.loc 22 0 s49.2.length)))) rfl) ⟨rfl, trivial⟩ trivial rfl rfl ?_
            refine AOR.pure (LT.move (v := (.s (.c (iC (w64 (x64.X - x65.X)))))) rfl) ⟨rfl, trivial⟩ trivial rfl rfl ?_
            refine AOR.pure (LT.move (v := (.s (.c (iC (w64 (x64.X - x65.X)))))) rfl) ⟨rfl, trivial⟩ trivial rfl rfl ?_
            refine AOR.pure (LT.mul rfl) ⟨rfl, rfl, trivial⟩ trivial rfl rfl ?_
            refine AOR.pure (LT.move (v := (.s (.c (iC (w64 (x66.Y - x67.Y)))))) rfl) ⟨rfl, trivial⟩ trivial rfl rfl ?_
            refine AOR.pure (LT.move (v := (.s (.c (iC (w64 (x66.Y - x67.Y)))))) rfl) ⟨rfl, trivial⟩ trivial rfl rfl ?_
            refine AOR.pure (LT.mul rfl) ⟨rfl, rfl, trivial⟩ trivial rfl rfl ?_
            refine AOR.pure (LT.add rfl) ⟨rfl, rfl, trivial⟩ trivial rfl rfl ?_
            refine AOR.step (LT.tbuildSlice (n := 24) (enc := encInt) [(0, .tmp 62, (.c (iC (w64 ((w64 ((w64 (x64.X - x65.X)) * (w64 (x64.X - x65.X)))) + (w64 ((w64 (x66.Y - x67.Y)) * (w64 (x66.Y - x67.Y)))))))))] ([(w64 ((w64 ((w64 (x64.X - x65.X)) * (w64 (x64.X - x65.X)))) + (w64 ((w64 (x66.Y - x67.Y)) * (w64 (x66.Y - x67.Y))))))] : List Int) rfl rfl und40 ti3 rfl rfl rfl rfl (by decide) (fun _ => rfl) rfl) ⟨rfl, trivial⟩ trivial rfl rfl ?_
            refine AOR.bind fun u68 hu68 => ?_
            refine AOR.step (LT.tappP (enc := encInt) rfl rfl rfl und40 ti3 rfl (by decide) (by decide) (fun _ => rfl) (lim_le hu68)) ⟨rfl, rfl, trivial⟩ ⟨rfl, rfl, trivial⟩ rfl rfl ?_
            refine AOR.pure (LT.assign (v := (.s (.c (.loc 22 0 (s49.2 ++ ([(w64 ((w64 ((w64 (x64.X - x65.X)) * (w64 (x64.X - x65.X)))) + (w64 ((w64 (x66.Y - x67.Y)) * (w64 (x66.Y - x67.Y))))))] : List Int)).length)))) rfl) ⟨rfl, trivial⟩ trivial rfl rfl ?_
            refine AOR.nil ?_
            refine AWR.blk ?_
            refine AWR.ent (Ent.of (σ' := [(1, (.s (.c (.pl 21 0)))), (3, (.s (.c (.loc 22 0 (s49.2 ++ ([(w64 ((w64 ((w64 (x64.X - x65.X)) * (w64 (x64.X - x65.X)))) + (w64 ((w64 (x66.Y - x67.Y)) * (w64 (x66.Y - x67.Y))))))] : List Int)).length)))), (4, (.s (.c (iC s1.1)))), (5, (.s (.c (iC s49.1))))]) (m' := [(21, (.row 62 [[(iC f.Graph.Points), (.pv (.xs false (f.Graph.Bars.map encTBar))), (.pv (.xs false (f.Places.map encTPlace)))]])), (22, (.prow 3 ((s49.2 ++ ([(w64 ((w64 ((w64 (x64.X - x65.X)) * (w64 (x64.X - x65.X)))) + (w64 ((w64 (x66.Y - x67.Y)) * (w64 (x66.Y - x67.Y))))))] : List Int)).map encInt)))]) ⟨rfl, rfl, rfl, rfl, trivial⟩ ⟨rfl, rfl, trivial⟩) ?_
            refine AWR.region ?_
            refine AOR.pure (LT.move (v := (.s (.c (iC s49.1)))) rfl) ⟨rfl, trivial⟩ trivial rfl rfl ?_
            refine AOR.pure (LT.add rfl) ⟨rfl, ⟨rfl, rfl⟩, trivial⟩ trivial rfl rfl ?_
            refine AOR.pure (LT.assign (v := (.s (.c (iC (w64 (s49.1 + 1)))))) rfl) ⟨rfl, trivial⟩ trivial rfl rfl ?_
            refine AOR.nil ?_
            refine AWR.nil ⟨rfl, Ent.of ⟨rfl, rfl, rfl, rfl, trivial⟩ ⟨rfl, rfl, trivial⟩⟩
          · refine AWR.exit_end rfl ⟨rfl, Ent.of ⟨rfl, rfl, rfl, trivial⟩ ⟨rfl, rfl, trivial⟩⟩
        · refine AWR.blk ?_
          refine AWR.region ?_
          refine AOR.pure (LT.move (v := (.s (.c (iC b62.1)))) rfl) ⟨rfl, trivial⟩ trivial rfl rfl ?_
          refine AOR.pure (LT.add rfl) ⟨rfl, ⟨rfl, rfl⟩, trivial⟩ trivial rfl rfl ?_
          refine AOR.pure (LT.assign (v := (.s (.c (iC (w64 (b62.1 + 1)))))) rfl) ⟨rfl, trivial⟩ trivial rfl rfl ?_
          refine AOR.nil ?_
          refine AWR.nil ⟨rfl, Ent.of ⟨rfl, rfl, rfl, trivial⟩ ⟨rfl, rfl, trivial⟩⟩
      · refine AWR.exit_end rfl ⟨rfl, Ent.of ⟨rfl, trivial⟩ ⟨rfl, trivial⟩⟩
  · refine AWR.seq ?_
    refine AWR.region ?_
    refine AOR.pure (LT.move (v := (.s (.c (.loc 22 0 b42.length)))) rfl) ⟨rfl, trivial⟩ trivial rfl rfl ?_
    refine AOR.pure (LT.assign (v := (.s (.c (.loc 22 0 b42.length)))) rfl) ⟨rfl, trivial⟩ trivial rfl rfl ?_
    refine AOR.nil ?_
    refine AWR.ent (Ent.of (σ' := [(2, (.s (.c (.loc 22 0 b42.length))))]) (m' := [(22, (.prow 3 (b42.map encInt)))]) ⟨rfl, trivial⟩ ⟨rfl, trivial⟩) ?_
    refine AWR.ent (Ent.mv 22 0 rfl rfl) ?_
    refine AWR.ent (Ent.of (σ' := [(2, (.s (.c (.loc 0 0 b42.length))))]) (m' := [(0, (.prow 3 (b42.map encInt)))]) ⟨rfl, trivial⟩ ⟨rfl, trivial⟩) ?_
    refine AWR.ret (FPost.mk (.inr rfl) ⟨rfl, trivial⟩ ⟨rfl, trivial⟩ rfl ⟨trivial, trivial⟩ ⟨PermO.prow' perm_encInt, trivial⟩)
end Go.Proofs.Ytihibpkbhjpajaa
