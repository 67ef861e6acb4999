/- The code computes the models. Written by a program of mine. -/
import Derived.Test.YtihibpkbhjpajaaGenF8
set_option linter.unusedVariables false
set_option linter.unusedSimpArgs false
open Go Go.Fw
namespace Go.Proofs.Ytihibpkbhjpajaa
set_option maxRecDepth 100000 in
set_option maxHeartbeats 8000000 in
theorem w_laws_eqTensegrity (a : TTensegrity) (b : TTensegrity) : ∀ t, m_laws_eqTensegrity a b = some t → Fw.Fn Try.prog 48 [(.agg [(iC a.Framework.Graph.Points), (.pv (.xs false (a.Framework.Graph.Bars.map encTBar))), (.pv (.xs false (a.Framework.Places.map encTPlace))), (.pv (.xs false (a.Kinds.map encInt)))]), (.agg [(iC b.Framework.Graph.Points), (.pv (.xs false (b.Framework.Graph.Bars.map encTBar))), (.pv (.xs false (b.Framework.Places.map encTPlace))), (.pv (.xs false (b.Kinds.map encInt)))])] [] (.s (.c (bC t))) [] [] [] := by
  refine Fw.Fn.of (P := Try.prog) (X := []) (pn := []) (rs := (fun (t : Bool) => [(.c (bC t))])) (dfs := (fun (t : Bool) => [])) Try.func48 rfl Try.ntmps48 (Nat.le_of_ble_eq_true rfl) rfl ?_
  intro w0 U0 R0 g0
  unfold m_laws_eqTensegrity
  refine AWR.seq ?_
  refine AWR.region ?_
  refine AOR.step (LT.box (n := 21) (v := (.agg [(iC a.Framework.Graph.Points), (.pv (.xs false (a.Framework.Graph.Bars.map encTBar))), (.pv (.xs false (a.Framework.Places.map encTPlace))), (.pv (.xs false (a.Kinds.map encInt)))])) rfl sz70 (by exact rfl)) ⟨rfl, trivial⟩ trivial rfl rfl ?_
  refine AOR.step (LT.box (n := 22) (v := (.agg [(iC b.Framework.Graph.Points), (.pv (.xs false (b.Framework.Graph.Bars.map encTBar))), (.pv (.xs false (b.Framework.Places.map encTPlace))), (.pv (.xs false (b.Kinds.map encInt)))])) rfl sz70 (by exact rfl)) ⟨rfl, trivial⟩ trivial rfl rfl ?_
  refine AOR.pure (LT.assign (v := (.s (.c (bC false)))) rfl) ⟨⟨rfl, rfl⟩, trivial⟩ trivial rfl rfl ?_
  refine AOR.nil ?_
  refine AWR.seq ?_
  refine AWR.seq ?_
  refine AWR.region ?_
  refine AOR.pure (LT.fieldPl rfl fo70_0) ⟨rfl, trivial⟩ trivial rfl rfl ?_
  refine AOR.pure (LT.bloadN (out := [(iC a.Framework.Graph.Points), (.pv (.xs false (a.Framework.Graph.Bars.map encTBar))), (.pv (.xs false (a.Framework.Places.map encTPlace)))]) rfl ag62 (infS inf62) sz62 (by exact rfl) (by exact rfl)) ⟨rfl, trivial⟩ ⟨rfl, trivial⟩ rfl rfl ?_
  refine AOR.pure (LT.fieldPl rfl fo70_0) ⟨rfl, trivial⟩ trivial rfl rfl ?_
  refine AOR.pure (LT.bloadN (out := [(iC b.Framework.Graph.Points), (.pv (.xs false (b.Framework.Graph.Bars.map encTBar))), (.pv (.xs false (b.Framework.Places.map encTPlace)))]) rfl ag62 (infS inf62) sz62 (by exact rfl) (by exact rfl)) ⟨rfl, trivial⟩ ⟨rfl, trivial⟩ rfl rfl ?_
  refine AOR.bind fun r1 hr1 => ?_
  refine AOR.pure (@LT.callF Try.prog _ _ 43 _ _ [(.agg [(iC a.Framework.Graph.Points), (.pv (.xs false (a.Framework.Graph.Bars.map encTBar))), (.pv (.xs false (a.Framework.Places.map encTPlace)))]), (.agg [(iC b.Framework.Graph.Points), (.pv (.xs false (b.Framework.Graph.Bars.map encTBar))), (.pv (.xs false (b.Framework.Places.map encTPlace)))])] _ _ [] _ _ _ _ (w_laws_eqFramework a.Framework b.Framework r1 hr1) rfl cb43 (.cons (.agg (.cons (.same rfl) (.cons (.same rfl) (.cons (.same rfl) .nil)))) (.cons (.agg (.cons (.same rfl) (.cons (.same rfl) (.cons (.same rfl) .nil)))) .nil)) rfl rfl trivial) ⟨rfl, rfl, rfl, trivial⟩ trivial rfl rfl ?_
  refine AOR.pure (LT.not rfl) ⟨rfl, trivial⟩ trivial rfl rfl ?_
  refine AOR.nil ?_
  refine AWR.cond rfl (fun hc2 => ?_) (fun hc2 => ?_)
  · refine AWR.seq ?_
    refine AWR.ent (Ent.of (σ' := []) (m' := []) trivial trivial) ?_
    refine AWR.region ?_
    refine AOR.pure (LT.assign (v := (.s (.c (bC false)))) rfl) ⟨⟨rfl, rfl⟩, trivial⟩ trivial rfl rfl ?_
    refine AOR.nil ?_
    refine AWR.ret (FPost.mk (.inr rfl) ⟨rfl, trivial⟩ trivial rfl ⟨PermP.sc, trivial⟩ trivial)
  · refine AWR.skip ?_
    refine AWR.seq ?_
    refine AWR.seq ?_
    refine AWR.ent (Ent.of (σ' := [(2, (.s (.c (.pl 21 0)))), (3, (.s (.c (.pl 22 0))))]) (m' := [(21, (.row 70 [[(iC a.Framework.Graph.Points), (.pv (.xs false (a.Framework.Graph.Bars.map encTBar))), (.pv (.xs false (a.Framework.Places.map encTPlace))), (.pv (.xs false (a.Kinds.map encInt)))]])), (22, (.row 70 [[(iC b.Framework.Graph.Points), (.pv (.xs false (b.Framework.Graph.Bars.map encTBar))), (.pv (.xs false (b.Framework.Places.map encTPlace))), (.pv (.xs false (b.Kinds.map encInt)))]]))]) ⟨rfl, rfl, trivial⟩ ⟨rfl, rfl, trivial⟩) ?_
    refine AWR.region ?_
    refine AOR.pure (LT.fieldPl rfl fo70_1) ⟨rfl, trivial⟩ trivial rfl rfl ?_
    refine AOR.pure (LT.bload1 (c := (.pv (.xs false (a.Kinds.map encInt)))) rfl ag40 (by exact rfl)) ⟨rfl, trivial⟩ ⟨rfl, trivial⟩ rfl rfl ?_
    refine AOR.pure (LT.fieldPl rfl fo70_1) ⟨rfl, trivial⟩ trivial rfl rfl ?_
    refine AOR.pure (LT.bload1 (c := (.pv (.xs false (b.Kinds.map encInt)))) rfl ag40 (by exact rfl)) ⟨rfl, trivial⟩ ⟨rfl, trivial⟩ rfl rfl ?_
    refine AOR.bind fun r3 hr3 => ?_
    refine AOR.pure (@LT.callF Try.prog _ _ 32 _ _ [(.c (.pv (.xs false (a.Kinds.map encInt)))), (.c (.pv (.xs false (b.Kinds.map encInt))))] _ _ [] _ _ _ _ (w_laws_eqIntS a.Kinds b.Kinds r3 hr3) rfl cb32 (.cons (.c (.same rfl)) (.cons (.c (.same rfl)) .nil)) rfl rfl trivial) ⟨rfl, rfl, rfl, trivial⟩ trivial rfl rfl ?_
    refine AOR.pure (LT.not rfl) ⟨rfl, trivial⟩ trivial rfl rfl ?_
    refine AOR.nil ?_
    refine AWR.cond rfl (fun hc4 => ?_) (fun hc4 => ?_)
    · refine AWR.seq ?_
      refine AWR.region ?_
      refine AOR.pure (LT.assign (v := (.s (.c (bC false)))) rfl) ⟨⟨rfl, rfl⟩, trivial⟩ trivial rfl rfl ?_
      refine AOR.nil ?_
      refine AWR.ret (FPost.mk (.inr rfl) ⟨rfl, trivial⟩ trivial rfl ⟨PermP.sc, trivial⟩ trivial)
    · refine AWR.skip ?_
      refine AWR.seq ?_
      refine AWR.region ?_
      refine AOR.pure (LT.assign (v := (.s (.c (bC true)))) rfl) ⟨⟨rfl, rfl⟩, trivial⟩ trivial rfl rfl ?_
      refine AOR.nil ?_
      refine AWR.ret (FPost.mk (.inr rfl) ⟨rfl, trivial⟩ trivial rfl ⟨PermP.sc, trivial⟩ trivial)
set_option maxRecDepth 100000 in
set_option maxHeartbeats 8000000 in
theorem w_laws_FnExactIsTensegrity (aT : TTensegrity) : ∀ t, m_laws_FnExactIsTensegrity aT = some t → Fw.Fn Try.prog 9 [(.agg [(iC aT.Framework.Graph.Points), (.pv (.xs false (aT.Framework.Graph.Bars.map encTBar))), (.pv (.xs false (aT.Framework.Places.map encTPlace))), (.pv (.xs false (aT.Kinds.map encInt)))])] [] (.s (.c (bC t))) [] [] [] := by
  refine Fw.Fn.of (P := Try.prog) (X := []) (pn := []) (rs := (fun (t : Bool) => [(.c (bC t))])) (dfs := (fun (t : Bool) => [])) Try.func9 rfl Try.ntmps9 (Nat.le_of_ble_eq_true rfl) rfl ?_
  intro w0 U0 R0 g0
  unfold m_laws_FnExactIsTensegrity
  refine AWR.seq ?_
  refine AWR.region ?_
  refine AOR.step (LT.box (n := 21) (v := (.agg [(iC aT.Framework.Graph.Points), (.pv (.xs false (aT.Framework.Graph.Bars.map encTBar))), (.pv (.xs false (aT.Framework.Places.map encTPlace))), (.pv (.xs false (aT.Kinds.map encInt)))])) rfl sz66 (by exact rfl)) ⟨rfl, trivial⟩ trivial rfl rfl ?_
  refine AOR.pure (LT.assign (v := (.s (.c (bC false)))) rfl) ⟨⟨rfl, rfl⟩, trivial⟩ trivial rfl rfl ?_
  refine AOR.nil ?_
  refine AWR.seq ?_
  refine AWR.region ?_
  refine AOR.pure (LT.assign (v := (.s (.c (iC 1048576)))) rfl) ⟨⟨rfl, rfl⟩, trivial⟩ trivial rfl rfl ?_
  refine AOR.nil ?_
  refine AWR.seq ?_
  refine AWR.region ?_
  refine AOR.pure (LT.bloadN (out := [(iC aT.Framework.Graph.Points), (.pv (.xs false (aT.Framework.Graph.Bars.map encTBar))), (.pv (.xs false (aT.Framework.Places.map encTPlace))), (.pv (.xs false (aT.Kinds.map encInt)))]) rfl ag66 (infS inf66) sz66 (by exact rfl) (by exact rfl)) ⟨rfl, trivial⟩ ⟨rfl, trivial⟩ rfl rfl ?_
  refine AOR.pure (LT.move (v := (.s (.c (iC 1048576)))) rfl) ⟨rfl, trivial⟩ trivial rfl rfl ?_
  refine AOR.bind fun r1 hr1 => ?_
  refine AOR.pure (@LT.callF Try.prog _ _ 44 _ _ [(.agg [(iC aT.Framework.Graph.Points), (.pv (.xs false (aT.Framework.Graph.Bars.map encTBar))), (.pv (.xs false (aT.Framework.Places.map encTPlace))), (.pv (.xs false (aT.Kinds.map encInt)))]), (.c (iC 1048576))] _ _ [] _ _ _ _ (w_laws_szTensegrity aT 1048576 r1 hr1) rfl cb44 (.cons (.agg (.cons (.same rfl) (.cons (.same rfl) (.cons (.same rfl) (.cons (.same rfl) .nil))))) (.cons (.c (.same rfl)) .nil)) rfl rfl trivial) ⟨rfl, rfl, rfl, trivial⟩ trivial rfl rfl ?_
  refine AOR.pure (LT.assign (v := (.s (.c (iC r1)))) rfl) ⟨rfl, trivial⟩ trivial rfl rfl ?_
  refine AOR.nil ?_
  refine AWR.seq ?_
  refine AWR.seq ?_
  refine AWR.region ?_
  refine AOR.pure (LT.move (v := (.s (.c (iC r1)))) rfl) ⟨rfl, trivial⟩ trivial rfl rfl ?_
  refine AOR.pure (LT.lss rfl) ⟨rfl, ⟨rfl, rfl⟩, trivial⟩ trivial rfl rfl ?_
  refine AOR.nil ?_
  refine AWR.cond rfl (fun hc2 => ?_) (fun hc2 => ?_)
  · refine AWR.seq ?_
    refine AWR.ent (Ent.of (σ' := []) (m' := []) trivial trivial) ?_
    refine AWR.region ?_
    refine AOR.pure (LT.assign (v := (.s (.c (bC true)))) rfl) ⟨⟨rfl, rfl⟩, trivial⟩ trivial rfl rfl ?_
    refine AOR.nil ?_
    refine AWR.ret (FPost.mk (.inr rfl) ⟨rfl, trivial⟩ trivial rfl ⟨PermP.sc, trivial⟩ trivial)
  · refine AWR.skip ?_
    refine AWR.seq ?_
    refine AWR.ent (Ent.of (σ' := [(1, (.s (.c (.pl 21 0))))]) (m' := [(21, (.row 66 [[(iC aT.Framework.Graph.Points), (.pv (.xs false (aT.Framework.Graph.Bars.map encTBar))), (.pv (.xs false (aT.Framework.Places.map encTPlace))), (.pv (.xs false (aT.Kinds.map encInt)))]]))]) ⟨rfl, trivial⟩ ⟨rfl, trivial⟩) ?_
    refine AWR.region ?_
    refine AOR.pure (LT.bloadN (out := [(iC aT.Framework.Graph.Points), (.pv (.xs false (aT.Framework.Graph.Bars.map encTBar))), (.pv (.xs false (aT.Framework.Places.map encTPlace))), (.pv (.xs false (aT.Kinds.map encInt)))]) rfl ag66 (infS inf66) sz66 (by exact rfl) (by exact rfl)) ⟨rfl, trivial⟩ ⟨rfl, trivial⟩ rfl rfl ?_
    refine AOR.bind fun r3 hr3 => ?_
    refine AOR.step (@LT.callF Try.prog _ _ 46 _ _ [(.agg [(iC aT.Framework.Graph.Points), (.pv (.xs false (aT.Framework.Graph.Bars.map encTBar))), (.pv (.xs false (aT.Framework.Places.map encTPlace))), (.pv (.xs false (aT.Kinds.map encInt)))])] _ _ [] _ _ _ _ ((show Fw.Fn Try.prog 46 [(.agg [(iC aT.Framework.Graph.Points), (.pv (.xs false (aT.Framework.Graph.Bars.map encTBar))), (.pv (.xs false (aT.Framework.Places.map encTPlace))), (.pv (.xs false (aT.Kinds.map encInt)))])] [] (.s (.agg [(iC r3.Framework.Graph.Points), (.loc 24 0 r3.Framework.Graph.Bars.length), (.loc 25 0 r3.Framework.Places.length), (.loc 26 0 r3.Kinds.length)])) [(24, (.prow 88 (r3.Framework.Graph.Bars.map encTBar))), (25, (.prow 100 (r3.Framework.Places.map encTPlace))), (26, (.prow 3 (r3.Kinds.map encInt)))] [] [24, 25, 26] from Fw.Fn.ren [(0, 24), (1, 25), (2, 26)] (w_laws_toTensegrity aT r3 hr3) rfl)) rfl cb46 (.cons (.agg (.cons (.same rfl) (.cons (.same rfl) (.cons (.same rfl) (.cons (.same rfl) .nil))))) .nil) rfl rfl trivial) ⟨rfl, rfl, trivial⟩ trivial rfl rfl ?_
    refine AOR.bind fun r4 hr4 => ?_
    refine AOR.pure (@LT.callF Try.prog _ _ 45 _ _ [(.agg [(iC r3.Framework.Graph.Points), (.loc 24 0 r3.Framework.Graph.Bars.length), (.loc 25 0 r3.Framework.Places.length), (.loc 26 0 r3.Kinds.length)])] _ _ [(24, (.prow 88 (r3.Framework.Graph.Bars.map encTBar))), (25, (.prow 100 (r3.Framework.Places.map encTPlace))), (26, (.prow 3 (r3.Kinds.map encInt)))] _ _ _ _ (w_spec_IsTensegrity r3 r4 hr4) rfl cb45 (.cons (.agg (.cons (.same rfl) (.cons (.tloc rfl rfl) (.cons (.tloc rfl rfl) (.cons (.tloc rfl rfl) .nil))))) .nil) rfl rfl trivial) ⟨rfl, rfl, trivial⟩ ⟨rfl, rfl, rfl, trivial⟩ rfl rfl ?_
    refine AOR.pure (LT.assign (v := (.s (.c (bC r4)))) rfl) ⟨rfl, trivial⟩ trivial rfl rfl ?_
    refine AOR.nil ?_
    refine AWR.seq ?_
    refine AWR.region ?_
    refine AOR.pure (LT.bloadN (out := [(iC aT.Framework.Graph.Points), (.pv (.xs false (aT.Framework.Graph.Bars.map encTBar))), (.pv (.xs false (aT.Framework.Places.map encTPlace))), (.pv (.xs false (aT.Kinds.map encInt)))]) rfl ag66 (infS inf66) sz66 (by exact rfl) (by exact rfl)) ⟨rfl, trivial⟩ ⟨rfl, trivial⟩ rfl rfl ?_
    refine AOR.bind fun r5 hr5 => ?_
    refine AOR.step (@LT.callF Try.prog _ _ 46 _ _ [(.agg [(iC aT.Framework.Graph.Points), (.pv (.xs false (aT.Framework.Graph.Bars.map encTBar))), (.pv (.xs false (aT.Framework.Places.map encTPlace))), (.pv (.xs false (aT.Kinds.map encInt)))])] _ _ [] _ _ _ _ ((show Fw.Fn Try.prog 46 [(.agg [(iC aT.Framework.Graph.Points), (.pv (.xs false (aT.Framework.Graph.Bars.map encTBar))), (.pv (.xs false (aT.Framework.Places.map encTPlace))), (.pv (.xs false (aT.Kinds.map encInt)))])] [] (.s (.agg [(iC r5.Framework.Graph.Points), (.loc 29 0 r5.Framework.Graph.Bars.length), (.loc 30 0 r5.Framework.Places.length), (.loc 31 0 r5.Kinds.length)])) [(29, (.prow 88 (r5.Framework.Graph.Bars.map encTBar))), (30, (.prow 100 (r5.Framework.Places.map encTPlace))), (31, (.prow 3 (r5.Kinds.map encInt)))] [] [29, 30, 31] from Fw.Fn.ren [(0, 29), (1, 30), (2, 31)] (w_laws_toTensegrity aT r5 hr5) rfl)) rfl cb46 (.cons (.agg (.cons (.same rfl) (.cons (.same rfl) (.cons (.same rfl) (.cons (.same rfl) .nil))))) .nil) rfl rfl trivial) ⟨rfl, rfl, trivial⟩ trivial rfl rfl ?_
    refine AOR.step (LT.alloc (n := 32) (cells := [(iC 0), (sC nilV), (sC nilV), (sC nilV)]) rfl ti70 rfl rfl rfl) trivial trivial rfl rfl ?_
    refine AOR.step (LT.bstore (v := (.agg [(iC r5.Framework.Graph.Points), (.loc 29 0 r5.Framework.Graph.Bars.length), (.loc 30 0 r5.Framework.Places.length), (.loc 31 0 r5.Kinds.length)])) (out := [(iC r5.Framework.Graph.Points), (.loc 29 0 r5.Framework.Graph.Bars.length), (.loc 30 0 r5.Framework.Places.length), (.loc 31 0 r5.Kinds.length)]) rfl rfl (infS inf70) sz70 (by exact rfl) (by exact Nat.le_of_ble_eq_true rfl) (by exact rfl)) ⟨rfl, rfl, trivial⟩ ⟨rfl, trivial⟩ rfl rfl ?_
    refine AOR.nil ?_
    refine AWR.seq ?_
    refine AWR.ent (Ent.of (σ' := [(1, (.s (.c (.pl 21 0)))), (4, (.s (.c (bC r4)))), (5, (.s (.c (.pl 32 0))))]) (m' := [(21, (.row 66 [[(iC aT.Framework.Graph.Points), (.pv (.xs false (aT.Framework.Graph.Bars.map encTBar))), (.pv (.xs false (aT.Framework.Places.map encTPlace))), (.pv (.xs false (aT.Kinds.map encInt)))]])), (29, (.prow 88 (r5.Framework.Graph.Bars.map encTBar))), (30, (.prow 100 (r5.Framework.Places.map encTPlace))), (31, (.prow 3 (r5.Kinds.map encInt))), (32, (.row 70 [[(iC r5.Framework.Graph.Points), (.loc 29 0 r5.Framework.Graph.Bars.length), (.loc 30 0 r5.Framework.Places.length), (.loc 31 0 r5.Kinds.length)]]))]) ⟨rfl, rfl, rfl, trivial⟩ ⟨rfl, rfl, rfl, rfl, rfl, trivial⟩) ?_
    refine AWR.region ?_
    refine AOR.pure (LT.bloadN (out := [(iC r5.Framework.Graph.Points), (.loc 29 0 r5.Framework.Graph.Bars.length), (.loc 30 0 r5.Framework.Places.length), (.loc 31 0 r5.Kinds.length)]) rfl ag70 (infS inf70) sz70 (by exact rfl) (by exact rfl)) ⟨rfl, trivial⟩ ⟨rfl, trivial⟩ rfl rfl ?_
    refine AOR.bind fun r6 hr6 => ?_
    refine AOR.pure (@LT.callF Try.prog _ _ 47 _ _ [(.agg [(iC r5.Framework.Graph.Points), (.loc 29 0 r5.Framework.Graph.Bars.length), (.loc 30 0 r5.Framework.Places.length), (.loc 31 0 r5.Kinds.length)])] _ _ [(29, (.prow 88 (r5.Framework.Graph.Bars.map encTBar))), (30, (.prow 100 (r5.Framework.Places.map encTPlace))), (31, (.prow 3 (r5.Kinds.map encInt)))] _ _ _ _ (w_impl_IsTensegrity r5 r6 hr6) rfl cb47 (.cons (.agg (.cons (.same rfl) (.cons (.tloc rfl rfl) (.cons (.tloc rfl rfl) (.cons (.tloc rfl rfl) .nil))))) .nil) rfl rfl trivial) ⟨rfl, rfl, trivial⟩ ⟨rfl, rfl, rfl, trivial⟩ rfl rfl ?_
    refine AOR.pure (LT.assign (v := (.s (.c (bC r6)))) rfl) ⟨rfl, trivial⟩ trivial rfl rfl ?_
    refine AOR.nil ?_
    refine AWR.seq ?_
    refine AWR.seq ?_
    refine AWR.region ?_
    refine AOR.pure (LT.move (v := (.s (.c (bC r6)))) rfl) ⟨rfl, trivial⟩ trivial rfl rfl ?_
    refine AOR.pure (LT.move (v := (.s (.c (bC r4)))) rfl) ⟨rfl, trivial⟩ trivial rfl rfl ?_
    refine AOR.pure (LT.neqB rfl und4) ⟨rfl, rfl, trivial⟩ trivial rfl rfl ?_
    refine AOR.nil ?_
    refine AWR.cond rfl (fun hc7 => ?_) (fun hc7 => ?_)
    · refine AWR.seq ?_
      refine AWR.region ?_
      refine AOR.pure (LT.assign (v := (.s (.c (bC false)))) rfl) ⟨⟨rfl, rfl⟩, trivial⟩ trivial rfl rfl ?_
      refine AOR.nil ?_
      refine AWR.ret (FPost.mk (.inr rfl) ⟨rfl, trivial⟩ trivial rfl ⟨PermP.sc, trivial⟩ trivial)
    · refine AWR.skip ?_
      refine AWR.seq ?_
      refine AWR.seq ?_
      refine AWR.draw mixed ?_
      refine AOD.pure (LT.bloadN (out := [(iC r5.Framework.Graph.Points), (.loc 29 0 r5.Framework.Graph.Bars.length), (.loc 30 0 r5.Framework.Places.length), (.loc 31 0 r5.Kinds.length)]) rfl ag70 (infS inf70) sz70 (by exact rfl) (by exact rfl)) ⟨rfl, trivial⟩ ⟨rfl, trivial⟩ rfl rfl ?_
      refine AOD.pure (LT.bloadN (out := [(iC aT.Framework.Graph.Points), (.pv (.xs false (aT.Framework.Graph.Bars.map encTBar))), (.pv (.xs false (aT.Framework.Places.map encTPlace))), (.pv (.xs false (aT.Kinds.map encInt)))]) rfl ag66 (infS inf66) sz66 (by exact rfl) (by exact rfl)) ⟨rfl, trivial⟩ ⟨rfl, trivial⟩ rfl rfl ?_
      refine AOD.bind fun r8 hr8 => ?_
      refine AOD.step (@LT.callF Try.prog _ _ 46 _ _ [(.agg [(iC aT.Framework.Graph.Points), (.pv (.xs false (aT.Framework.Graph.Bars.map encTBar))), (.pv (.xs false (aT.Framework.Places.map encTPlace))), (.pv (.xs false (aT.Kinds.map encInt)))])] _ _ [] _ _ _ _ ((show Fw.Fn Try.prog 46 [(.agg [(iC aT.Framework.Graph.Points), (.pv (.xs false (aT.Framework.Graph.Bars.map encTBar))), (.pv (.xs false (aT.Framework.Places.map encTPlace))), (.pv (.xs false (aT.Kinds.map encInt)))])] [] (.s (.agg [(iC r8.Framework.Graph.Points), (.loc 35 0 r8.Framework.Graph.Bars.length), (.loc 36 0 r8.Framework.Places.length), (.loc 37 0 r8.Kinds.length)])) [(35, (.prow 88 (r8.Framework.Graph.Bars.map encTBar))), (36, (.prow 100 (r8.Framework.Places.map encTPlace))), (37, (.prow 3 (r8.Kinds.map encInt)))] [] [35, 36, 37] from Fw.Fn.ren [(0, 35), (1, 36), (2, 37)] (w_laws_toTensegrity aT r8 hr8) rfl)) rfl cb46 (.cons (.agg (.cons (.same rfl) (.cons (.same rfl) (.cons (.same rfl) (.cons (.same rfl) .nil))))) .nil) rfl rfl trivial) ⟨rfl, rfl, trivial⟩ trivial rfl rfl ?_
      refine AOD.bind fun r9 hr9 => ?_
      refine AOD.pure (@LT.callF Try.prog _ _ 48 _ _ [(.agg [(iC r5.Framework.Graph.Points), (.loc 29 0 r5.Framework.Graph.Bars.length), (.loc 30 0 r5.Framework.Places.length), (.loc 31 0 r5.Kinds.length)]), (.agg [(iC r8.Framework.Graph.Points), (.loc 35 0 r8.Framework.Graph.Bars.length), (.loc 36 0 r8.Framework.Places.length), (.loc 37 0 r8.Kinds.length)])] _ _ [(29, (.prow 88 (r5.Framework.Graph.Bars.map encTBar))), (30, (.prow 100 (r5.Framework.Places.map encTPlace))), (31, (.prow 3 (r5.Kinds.map encInt))), (35, (.prow 88 (r8.Framework.Graph.Bars.map encTBar))), (36, (.prow 100 (r8.Framework.Places.map encTPlace))), (37, (.prow 3 (r8.Kinds.map encInt)))] _ _ _ _ (w_laws_eqTensegrity r5 r8 r9 hr9) rfl cb48 (.cons (.agg (.cons (.same rfl) (.cons (.tloc rfl rfl) (.cons (.tloc rfl rfl) (.cons (.tloc rfl rfl) .nil))))) (.cons (.agg (.cons (.same rfl) (.cons (.tloc rfl rfl) (.cons (.tloc rfl rfl) (.cons (.tloc rfl rfl) .nil))))) .nil)) rfl rfl trivial) ⟨rfl, rfl, rfl, trivial⟩ ⟨rfl, rfl, rfl, rfl, rfl, rfl, trivial⟩ rfl rfl ?_
      refine AOD.pure (LT.not rfl) ⟨rfl, trivial⟩ trivial rfl rfl ?_
      refine AOD.nil (by kernel_rfl) ?_
      refine AWR.cond rfl (fun hc10 => ?_) (fun hc10 => ?_)
      · refine AWR.seq ?_
        refine AWR.ent (Ent.of (σ' := []) (m' := []) trivial trivial) ?_
        refine AWR.region ?_
        refine AOR.pure (LT.assign (v := (.s (.c (bC false)))) rfl) ⟨⟨rfl, rfl⟩, trivial⟩ trivial rfl rfl ?_
        refine AOR.nil ?_
        refine AWR.ret (FPost.mk (.inr rfl) ⟨rfl, trivial⟩ trivial rfl ⟨PermP.sc, trivial⟩ trivial)
      · refine AWR.skip ?_
        refine AWR.seq ?_
        refine AWR.ent (Ent.of (σ' := []) (m' := []) trivial trivial) ?_
        refine AWR.region ?_
        refine AOR.pure (LT.assign (v := (.s (.c (bC true)))) rfl) ⟨⟨rfl, rfl⟩, trivial⟩ trivial rfl rfl ?_
        refine AOR.nil ?_
        refine AWR.ret (FPost.mk (.inr rfl) ⟨rfl, trivial⟩ trivial rfl ⟨PermP.sc, trivial⟩ trivial)
set_option maxRecDepth 100000 in
set_option maxHeartbeats 8000000 in
theorem w_spec_InnerPoints (p : TPinned) : ∀ t, m_spec_InnerPoints p = some t → Fw.Fn Try.prog 49 [(.agg [(iC p.Graph.Points), (.pv (.xs false (p.Graph.Bars.map encTBar))), (.pv (.xs false (p.Ground.map encInt)))])] [] (.s (.c (.loc 0 0 t.length))) [(0, (.prow 3 (t.map encInt)))] [] [0] := by
  refine Fw.Fn.of (P := Try.prog) (X := [0]) (pn := []) (rs := (fun (t : (List Int)) => [(.c (.loc 0 0 t.length))])) (dfs := (fun (t : (List Int)) => [(0, (.prow 3 (t.map encInt)))])) Try.func49 rfl Try.ntmps49 (Nat.le_of_ble_eq_true rfl) rfl ?_
  intro w0 U0 R0 g0
  unfold m_spec_InnerPoints
  refine AWR.seq ?_
  refine AWR.region ?_
  refine AOR.step (LT.box (n := 21) (v := (.agg [(iC p.Graph.Points), (.pv (.xs false (p.Graph.Bars.map encTBar))), (.pv (.xs false (p.Ground.map encInt)))])) rfl sz51 (by exact rfl)) ⟨rfl, trivial⟩ trivial rfl rfl ?_
  refine AOR.pure (LT.assign (v := (.s (.c (sC nilV)))) rfl) ⟨⟨rfl, rfl⟩, trivial⟩ trivial rfl rfl ?_
  refine AOR.nil ?_
  refine AWR.seq ?_
  refine AWR.region ?_
  refine AOR.step (LT.tbuildSlice (n := 22) (enc := encInt) [] ([] : List Int) rfl rfl und40 ti3 rfl rfl rfl rfl (by decide) (fun _ => rfl) rfl) trivial trivial rfl rfl ?_
  refine AOR.pure (LT.assign (v := (.s (.c (.loc 22 0 ([] : List Int).length)))) rfl) ⟨rfl, trivial⟩ trivial rfl rfl ?_
  refine AOR.nil ?_
  refine AWR.seq ?_
  refine AWR.seq ?_
  refine AWR.region ?_
  refine AOR.pure (LT.assign (v := (.s (.c (iC 0)))) rfl) ⟨⟨rfl, rfl⟩, trivial⟩ trivial rfl rfl ?_
  refine AOR.nil ?_
  refine AWR.block ?_
  refine AWR.loop1 (id := 0) (m_spec_InnerPoints_L1 p) (fun s1 => ([(1, (.s (.c (.pl 21 0)))), (3, (.s (.c (.loc 22 0 s1.2.length)))), (4, (.s (.c (iC s1.1))))], [(21, (.row 51 [[(iC p.Graph.Points), (.pv (.xs false (p.Graph.Bars.map encTBar))), (.pv (.xs false (p.Ground.map encInt)))]])), (22, (.prow 3 (s1.2.map encInt)))])) (fun b26 => ([(3, (.s (.c (.loc 22 0 b26.length))))], [(22, (.prow 3 (b26.map encInt)))])) ?_ (Ent.of ⟨rfl, rfl, rfl, trivial⟩ ⟨rfl, rfl, trivial⟩) rfl (fun b26 _ => ?_)
  · intro s1
    unfold m_spec_InnerPoints_L1
    refine AWR.seq ?_
    refine AWR.seq ?_
    refine AWR.joinK (fun j29 => ([(1, (.s (.c (.pl 21 0)))), (3, (.s (.c (.loc 22 0 s1.2.length)))), (4, (.s (.c (iC s1.1)))), (14, (.s (.c (bC j29))))], [(21, (.row 51 [[(iC p.Graph.Points), (.pv (.xs false (p.Graph.Bars.map encTBar))), (.pv (.xs false (p.Ground.map encInt)))]])), (22, (.prow 3 (s1.2.map encInt)))])) ?_ (fun j29 _ => ?_)
    · refine AWR.region ?_
      refine AOR.pure (LT.move (v := (.s (.c (iC s1.1)))) rfl) ⟨rfl, trivial⟩ trivial rfl rfl ?_
      refine AOR.pure (LT.fieldPl rfl fo51_0) ⟨rfl, trivial⟩ trivial rfl rfl ?_
      refine AOR.pure (LT.fieldPl rfl fo30_0) ⟨rfl, trivial⟩ trivial rfl rfl ?_
      refine AOR.pure (LT.bload1 (c := (iC p.Graph.Points)) rfl ag3 (by exact rfl)) ⟨rfl, trivial⟩ ⟨rfl, trivial⟩ rfl rfl ?_
      refine AOR.pure (LT.lss rfl) ⟨rfl, rfl, trivial⟩ trivial rfl rfl ?_
      refine AOR.pure (LT.move (v := (.s (.c (bC (decide (s1.1 < p.Graph.Points)))))) rfl) ⟨rfl, trivial⟩ trivial rfl rfl ?_
      refine AOR.split (fun hb30 => ?_) (fun hb30 => ?_)
      · refine AOR.pure (LT.bloadN (out := [(iC p.Graph.Points), (.pv (.xs false (p.Graph.Bars.map encTBar))), (.pv (.xs false (p.Ground.map encInt)))]) rfl ag51 (infS inf51) sz51 (by exact rfl) (by exact rfl)) ⟨rfl, trivial⟩ ⟨rfl, trivial⟩ ⟨_, rfl, .inl ⟨_, rfl, (by rw [hb30]; rfl)⟩⟩ rfl ?_
        refine AOR.bind fun r31 hr31 => ?_
        refine AOR.pure (@LT.callF Try.prog _ _ 35 _ _ [(.agg [(iC p.Graph.Points), (.pv (.xs false (p.Graph.Bars.map encTBar))), (.pv (.xs false (p.Ground.map encInt)))])] _ _ [] _ _ _ _ (w_spec_IsPinned p r31 hr31) rfl cb35 (.cons (.agg (.cons (.same rfl) (.cons (.same rfl) (.cons (.same rfl) .nil)))) .nil) rfl rfl trivial) ⟨rfl, rfl, trivial⟩ trivial ⟨_, rfl, .inl ⟨_, rfl, (by rw [hb30]; rfl)⟩⟩ rfl ?_
        refine AOR.pure (LT.pickT (v := (.s (.c (bC r31)))) rfl hb30) ⟨rfl, rfl, trivial⟩ trivial rfl rfl ?_
        refine AOR.nil ?_
        refine AWR.nil ⟨rfl, Ent.of ⟨rfl, rfl, rfl, rfl, trivial⟩ ⟨rfl, rfl, trivial⟩⟩
      · refine AOR.skip ⟨_, rfl, .inl ⟨_, rfl, (by rw [hb30]; rfl)⟩⟩ rfl ?_
        refine AOR.skip ⟨_, rfl, .inl ⟨_, rfl, (by rw [hb30]; rfl)⟩⟩ rfl ?_
        refine AOR.pure (LT.pickF (v := (.s (.c (bC false)))) rfl hb30) ⟨rfl, ⟨rfl, rfl⟩, trivial⟩ trivial rfl rfl ?_
        refine AOR.nil ?_
        refine AWR.nil ⟨rfl, Ent.of ⟨rfl, rfl, rfl, rfl, trivial⟩ ⟨rfl, rfl, trivial⟩⟩
    · refine AWR.cond rfl (fun hc32 => ?_) (fun hc32 => ?_)
      · refine AWR.skip ?_
        refine AWR.seq ?_
        refine AWR.block ?_
        refine AWR.seq ?_
        refine AWR.region ?_
        refine AOR.pure (LT.fieldPl rfl fo51_1) ⟨rfl, trivial⟩ trivial rfl rfl ?_
        refine AOR.pure (LT.bload1 (c := (.pv (.xs false (p.Ground.map encInt)))) rfl ag40 (by exact rfl)) ⟨rfl, trivial⟩ ⟨rfl, trivial⟩ rfl rfl ?_
        refine AOR.pure (LT.move (v := (.s (.c (iC s1.1)))) rfl) ⟨rfl, trivial⟩ trivial rfl rfl ?_
        refine AOR.bind fun r33 hr33 => ?_
        refine AOR.pure (@LT.callF Try.prog _ _ 72 _ _ [(.c (.pv (.xs false (p.Ground.map encInt)))), (.c (iC s1.1))] _ _ [] _ _ _ _ (w_spec_l2Has p.Ground s1.1 r33 hr33) rfl cb72 (.cons (.c (.same rfl)) (.cons (.c (.same rfl)) .nil)) rfl rfl trivial) ⟨rfl, rfl, rfl, trivial⟩ trivial rfl rfl ?_
        refine AOR.pure (LT.not rfl) ⟨rfl, trivial⟩ trivial rfl rfl ?_
        refine AOR.nil ?_
        refine AWR.joinK (fun j36 => ([(1, (.s (.c (.pl 21 0)))), (3, (.s (.c (.loc 22 0 j36.length)))), (4, (.s (.c (iC s1.1))))], [(21, (.row 51 [[(iC p.Graph.Points), (.pv (.xs false (p.Graph.Bars.map encTBar))), (.pv (.xs false (p.Ground.map encInt)))]])), (22, (.prow 3 (j36.map encInt)))])) ?_ (fun j36 _ => ?_)
        · refine AWR.cond rfl (fun hc37 => ?_) (fun hc37 => ?_)
          · refine AWR.region ?_
            refine AOR.pure (LT.move (v := (.s (.c (.loc 22 0 s1.2.length)))) rfl) ⟨rfl, trivial⟩ trivial rfl rfl ?_
            refine AOR.pure (LT.move (v := (.s (.c (iC s1.1)))) rfl) ⟨rfl, trivial⟩ trivial rfl rfl ?_
            refine AOR.step (LT.tbuildSlice (n := 25) (enc := encInt) [(0, .tmp 23, (.c (iC s1.1)))] ([s1.1] : List Int) rfl rfl und40 ti3 rfl rfl rfl rfl (by decide) (fun _ => rfl) rfl) ⟨rfl, trivial⟩ trivial rfl rfl ?_
            refine AOR.bind fun u38 hu38 => ?_
            refine AOR.step (LT.tappP (enc := encInt) rfl rfl rfl und40 ti3 rfl (by decide) (by decide) (fun _ => rfl) (lim_le hu38)) ⟨rfl, rfl, trivial⟩ ⟨rfl, rfl, trivial⟩ rfl rfl ?_
            refine AOR.pure (LT.assign (v := (.s (.c (.loc 22 0 (s1.2 ++ ([s1.1] : List Int)).length)))) rfl) ⟨rfl, trivial⟩ trivial rfl rfl ?_
            refine AOR.nil ?_
            refine AWR.nil ⟨rfl, Ent.of ⟨rfl, rfl, rfl, trivial⟩ ⟨rfl, rfl, trivial⟩⟩
          · refine AWR.skip ?_
            refine AWR.nil ⟨rfl, Ent.of ⟨rfl, rfl, rfl, trivial⟩ ⟨rfl, rfl, trivial⟩⟩
        · refine AWR.blk ?_
          refine AWR.region ?_
          refine AOR.pure (LT.move (v := (.s (.c (iC s1.1)))) rfl) ⟨rfl, trivial⟩ trivial rfl rfl ?_
          refine AOR.pure (LT.add rfl) ⟨rfl, ⟨rfl, rfl⟩, trivial⟩ trivial rfl rfl ?_
          refine AOR.pure (LT.assign (v := (.s (.c (iC (w64 (s1.1 + 1)))))) rfl) ⟨rfl, trivial⟩ trivial rfl rfl ?_
          refine AOR.nil ?_
          refine AWR.nil ⟨rfl, Ent.of ⟨rfl, rfl, rfl, trivial⟩ ⟨rfl, rfl, trivial⟩⟩
      · refine AWR.exit_end rfl ⟨rfl, Ent.of ⟨rfl, trivial⟩ ⟨rfl, trivial⟩⟩
  · refine AWR.seq ?_
    refine AWR.region ?_
    refine AOR.pure (LT.move (v := (.s (.c (.loc 22 0 b26.length)))) rfl) ⟨rfl, trivial⟩ trivial rfl rfl ?_
    refine AOR.pure (LT.assign (v := (.s (.c (.loc 22 0 b26.length)))) rfl) ⟨rfl, trivial⟩ trivial rfl rfl ?_
    refine AOR.nil ?_
    refine AWR.ent (Ent.of (σ' := [(2, (.s (.c (.loc 22 0 b26.length))))]) (m' := [(22, (.prow 3 (b26.map encInt)))]) ⟨rfl, trivial⟩ ⟨rfl, trivial⟩) ?_
    refine AWR.ent (Ent.mv 22 0 rfl rfl) ?_
    refine AWR.ent (Ent.of (σ' := [(2, (.s (.c (.loc 0 0 b26.length))))]) (m' := [(0, (.prow 3 (b26.map encInt)))]) ⟨rfl, trivial⟩ ⟨rfl, trivial⟩) ?_
    refine AWR.ret (FPost.mk (.inr rfl) ⟨rfl, trivial⟩ ⟨rfl, trivial⟩ rfl ⟨trivial, trivial⟩ ⟨PermO.prow' perm_encInt, trivial⟩)
set_option maxRecDepth 100000 in
set_option maxHeartbeats 8000000 in
theorem w_impl_InnerPoints (p : TPinned) : ∀ t, m_impl_InnerPoints p = some t → Fw.Fn Try.prog 50 [(.agg [(iC p.Graph.Points), (.pv (.xs false (p.Graph.Bars.map encTBar))), (.pv (.xs false (p.Ground.map encInt)))])] [] (.s (.c (.loc 0 0 t.length))) [(0, (.prow 3 (t.map encInt)))] [] [0] := by
  refine Fw.Fn.of (P := Try.prog) (X := [0]) (pn := []) (rs := (fun (t : (List Int)) => [(.c (.loc 0 0 t.length))])) (dfs := (fun (t : (List Int)) => [(0, (.prow 3 (t.map encInt)))])) Try.func50 rfl Try.ntmps50 (Nat.le_of_ble_eq_true rfl) rfl ?_
  intro w0 U0 R0 g0
  unfold m_impl_InnerPoints
  refine AWR.seq ?_
  refine AWR.region ?_
  refine AOR.step (LT.box (n := 21) (v := (.agg [(iC p.Graph.Points), (.pv (.xs false (p.Graph.Bars.map encTBar))), (.pv (.xs false (p.Ground.map encInt)))])) rfl sz51 (by exact rfl)) ⟨rfl, trivial⟩ trivial rfl rfl ?_
  refine AOR.pure (LT.assign (v := (.s (.c (sC nilV)))) rfl) ⟨⟨rfl, rfl⟩, trivial⟩ trivial rfl rfl ?_
  refine AOR.nil ?_
  refine AWR.seq ?_
  refine AWR.region ?_
  refine AOR.step (LT.tbuildSlice (n := 22) (enc := encInt) [] ([] : List Int) rfl rfl und40 ti3 rfl rfl rfl rfl (by decide) (fun _ => rfl) rfl) trivial trivial rfl rfl ?_
  refine AOR.pure (LT.assign (v := (.s (.c (.loc 22 0 ([] : List Int).length)))) rfl) ⟨rfl, trivial⟩ trivial rfl rfl ?_
  refine AOR.nil ?_
  refine AWR.seq ?_
  refine AWR.seq ?_
  refine AWR.region ?_
  refine AOR.pure (LT.bloadN (out := [(iC p.Graph.Points), (.pv (.xs false (p.Graph.Bars.map encTBar))), (.pv (.xs false (p.Ground.map encInt)))]) rfl ag51 (infS inf51) sz51 (by exact rfl) (by exact rfl)) ⟨rfl, trivial⟩ ⟨rfl, trivial⟩ rfl rfl ?_
  refine AOR.bind fun r1 hr1 => ?_
  refine AOR.pure (@LT.callF Try.prog _ _ 37 _ _ [(.agg [(iC p.Graph.Points), (.pv (.xs false (p.Graph.Bars.map encTBar))), (.pv (.xs false (p.Ground.map encInt)))])] _ _ [] _ _ _ _ (w_impl_IsPinned p r1 hr1) rfl cb37 (.cons (.agg (.cons (.same rfl) (.cons (.same rfl) (.cons (.same rfl) .nil)))) .nil) rfl rfl trivial) ⟨rfl, rfl, trivial⟩ trivial rfl rfl ?_
  refine AOR.pure (LT.not rfl) ⟨rfl, trivial⟩ trivial rfl rfl ?_
  refine AOR.nil ?_
  refine AWR.cond rfl (fun hc2 => ?_) (fun hc2 => ?_)
  · refine AWR.seq ?_
    refine AWR.ent (Ent.of (σ' := [(3, (.s (.c (.loc 22 0 ([] : List Int).length))))]) (m' := [(22, (.prow 3 (([] : List Int).map encInt)))]) ⟨rfl, trivial⟩ ⟨rfl, trivial⟩) ?_
    refine AWR.region ?_
    refine AOR.pure (LT.move (v := (.s (.c (.loc 22 0 ([] : List Int).length)))) rfl) ⟨rfl, trivial⟩ trivial rfl rfl ?_
    refine AOR.pure (LT.assign (v := (.s (.c (.loc 22 0 ([] : List Int).length)))) rfl) ⟨rfl, trivial⟩ trivial rfl rfl ?_
    refine AOR.nil ?_
    refine AWR.ent (Ent.of (σ' := [(2, (.s (.c (.loc 22 0 ([] : List Int).length))))]) (m' := [(22, (.prow 3 (([] : List Int).map encInt)))]) ⟨rfl, trivial⟩ ⟨rfl, trivial⟩) ?_
    refine AWR.ent (Ent.mv 22 0 rfl rfl) ?_
    refine AWR.ent (Ent.of (σ' := [(2, (.s (.c (.loc 0 0 ([] : List Int).length))))]) (m' := [(0, (.prow 3 (([] : List Int).map encInt)))]) ⟨rfl, trivial⟩ ⟨rfl, trivial⟩) ?_
    refine AWR.ret (FPost.mk (.inr rfl) ⟨rfl, trivial⟩ ⟨rfl, trivial⟩ rfl ⟨trivial, trivial⟩ ⟨PermO.prow' perm_encInt, trivial⟩)
  · refine AWR.skip ?_
    refine AWR.seq ?_
    refine AWR.seq ?_
    refine AWR.ent (Ent.of (σ' := [(1, (.s (.c (.pl 21 0)))), (3, (.s (.c (.loc 22 0 ([] : List Int).length))))]) (m' := [(21, (.row 51 [[(iC p.Graph.Points), (.pv (.xs false (p.Graph.Bars.map encTBar))), (.pv (.xs false (p.Ground.map encInt)))]])), (22, (.prow 3 (([] : List Int).map encInt)))]) ⟨rfl, rfl, trivial⟩ ⟨rfl, rfl, trivial⟩) ?_
    refine AWR.region ?_
    refine AOR.pure (LT.fieldPl rfl fo51_0) ⟨rfl, trivial⟩ trivial rfl rfl ?_
    refine AOR.pure (LT.fieldPl rfl fo30_0) ⟨rfl, trivial⟩ trivial rfl rfl ?_
    refine AOR.pure (LT.bload1 (c := (iC p.Graph.Points)) rfl ag3 (by exact rfl)) ⟨rfl, trivial⟩ ⟨rfl, trivial⟩ rfl rfl ?_
    refine AOR.pure (LT.move (v := (.s (.c (iC 0)))) rfl) ⟨⟨rfl, rfl⟩, trivial⟩ trivial rfl rfl ?_
    refine AOR.nil ?_
    refine AWR.block ?_
    refine AWR.loop1 (id := 0) (m_impl_InnerPoints_L1 p) (fun s3 => ([(1, (.s (.c (.pl 21 0)))), (3, (.s (.c (.loc 22 0 s3.2.length)))), (12, (.s (.c (iC p.Graph.Points)))), (13, (.s (.c (iC s3.1))))], [(21, (.row 51 [[(iC p.Graph.Points), (.pv (.xs false (p.Graph.Bars.map encTBar))), (.pv (.xs false (p.Ground.map encInt)))]])), (22, (.prow 3 (s3.2.map encInt)))])) (fun b18 => ([(3, (.s (.c (.loc 22 0 b18.length))))], [(22, (.prow 3 (b18.map encInt)))])) ?_ (Ent.of ⟨rfl, rfl, rfl, rfl, trivial⟩ ⟨rfl, rfl, trivial⟩) rfl (fun b18 _ => ?_)
    · intro s3
      unfold m_impl_InnerPoints_L1
      refine AWR.seq ?_
      refine AWR.region ?_
      refine AOR.pure (LT.lss rfl) ⟨rfl, rfl, trivial⟩ trivial rfl rfl ?_
      refine AOR.nil ?_
      refine AWR.seq ?_
      refine AWR.cond rfl (fun hc19 => ?_) (fun hc19 => ?_)
      · refine AWR.skip ?_
        refine AWR.seq ?_
        refine AWR.block ?_
        refine AWR.seq ?_
        refine AWR.region ?_
        refine AOR.pure (LT.move (v := (.s (.c (iC s3.1)))) rfl) ⟨rfl, trivial⟩ trivial rfl rfl ?_
        refine AOR.pure (LT.assign (v := (.s (.c (iC s3.1)))) rfl) ⟨rfl, trivial⟩ trivial rfl rfl ?_
        refine AOR.nil ?_
        refine AWR.seq ?_
        refine AWR.region ?_
        refine AOR.pure (LT.fieldPl rfl fo51_1) ⟨rfl, trivial⟩ trivial rfl rfl ?_
        refine AOR.pure (LT.bload1 (c := (.pv (.xs false (p.Ground.map encInt)))) rfl ag40 (by exact rfl)) ⟨rfl, trivial⟩ ⟨rfl, trivial⟩ rfl rfl ?_
        refine AOR.pure (LT.move (v := (.s (.c (iC s3.1)))) rfl) ⟨rfl, trivial⟩ trivial rfl rfl ?_
        refine AOR.bind fun r20 hr20 => ?_
        refine AOR.pure (@LT.callF Try.prog _ _ 73 _ _ [(.c (.pv (.xs false (p.Ground.map encInt)))), (.c (iC s3.1))] _ _ [] _ _ _ _ (w_slices_Contains p.Ground s3.1 r20 hr20) rfl cb73 (.cons (.c (.same rfl)) (.cons (.c (.same rfl)) .nil)) rfl rfl trivial) ⟨rfl, rfl, rfl, trivial⟩ trivial rfl rfl ?_
        refine AOR.pure (LT.not rfl) ⟨rfl, trivial⟩ trivial rfl rfl ?_
        refine AOR.nil ?_
        refine AWR.joinK (fun j23 => ([(1, (.s (.c (.pl 21 0)))), (3, (.s (.c (.loc 22 0 j23.length)))), (12, (.s (.c (iC p.Graph.Points)))), (13, (.s (.c (iC s3.1))))], [(21, (.row 51 [[(iC p.Graph.Points), (.pv (.xs false (p.Graph.Bars.map encTBar))), (.pv (.xs false (p.Ground.map encInt)))]])), (22, (.prow 3 (j23.map encInt)))])) ?_ (fun j23 _ => ?_)
        · refine AWR.cond rfl (fun hc24 => ?_) (fun hc24 => ?_)
          · refine AWR.region ?_
            refine AOR.pure (LT.move (v := (.s (.c (.loc 22 0 s3.2.length)))) rfl) ⟨rfl, trivial⟩ trivial rfl rfl ?_
            refine AOR.pure (LT.move (v := (.s (.c (iC s3.1)))) rfl) ⟨rfl, trivial⟩ trivial rfl rfl ?_
            refine AOR.step (LT.tbuildSlice (n := 25) (enc := encInt) [(0, .tmp 22, (.c (iC s3.1)))] ([s3.1] : List Int) rfl rfl und40 ti3 rfl rfl rfl rfl (by decide) (fun _ => rfl) rfl) ⟨rfl, trivial⟩ trivial rfl rfl ?_
            refine AOR.bind fun u25 hu25 => ?_
            refine AOR.step (LT.tappP (enc := encInt) rfl rfl rfl und40 ti3 rfl (by decide) (by decide) (fun _ => rfl) (lim_le hu25)) ⟨rfl, rfl, trivial⟩ ⟨rfl, rfl, trivial⟩ rfl rfl ?_
            refine AOR.pure (LT.assign (v := (.s (.c (.loc 22 0 (s3.2 ++ ([s3.1] : List Int)).length)))) rfl) ⟨rfl, trivial⟩ trivial rfl rfl ?_
            refine AOR.nil ?_
            refine AWR.nil ⟨rfl, Ent.of ⟨rfl, rfl, rfl, rfl, trivial⟩ ⟨rfl, rfl, trivial⟩⟩
          · refine AWR.skip ?_
            refine AWR.nil ⟨rfl, Ent.of ⟨rfl, rfl, rfl, rfl, trivial⟩ ⟨rfl, rfl, trivial⟩⟩
        · refine AWR.blk ?_
          refine AWR.region ?_
          refine AOR.pure (LT.add rfl) ⟨rfl, ⟨rfl, rfl⟩, trivial⟩ trivial rfl rfl ?_
          refine AOR.pure (LT.move (v := (.s (.c (iC (w64 (s3.1 + 1)))))) rfl) ⟨rfl, trivial⟩ trivial rfl rfl ?_
          refine AOR.nil ?_
          refine AWR.nil ⟨rfl, Ent.of ⟨rfl, rfl, rfl, rfl, trivial⟩ ⟨rfl, rfl, trivial⟩⟩
      · refine AWR.exit_end rfl ⟨rfl, Ent.of ⟨rfl, trivial⟩ ⟨rfl, trivial⟩⟩
    · refine AWR.seq ?_
      refine AWR.region ?_
      refine AOR.pure (LT.move (v := (.s (.c (.loc 22 0 b18.length)))) rfl) ⟨rfl, trivial⟩ trivial rfl rfl ?_
      refine AOR.pure (LT.assign (v := (.s (.c (.loc 22 0 b18.length)))) rfl) ⟨rfl, trivial⟩ trivial rfl rfl ?_
      refine AOR.nil ?_
      refine AWR.ent (Ent.of (σ' := [(2, (.s (.c (.loc 22 0 b18.length))))]) (m' := [(22, (.prow 3 (b18.map encInt)))]) ⟨rfl, trivial⟩ ⟨rfl, trivial⟩) ?_
      refine AWR.ent (Ent.mv 22 0 rfl rfl) ?_
      refine AWR.ent (Ent.of (σ' := [(2, (.s (.c (.loc 0 0 b18.length))))]) (m' := [(0, (.prow 3 (b18.map encInt)))]) ⟨rfl, trivial⟩ ⟨rfl, trivial⟩) ?_
      refine AWR.ret (FPost.mk (.inr rfl) ⟨rfl, trivial⟩ ⟨rfl, trivial⟩ rfl ⟨trivial, trivial⟩ ⟨PermO.prow' perm_encInt, trivial⟩)
set_option maxRecDepth 100000 in
set_option maxHeartbeats 8000000 in
theorem w_laws_markPinned (a : TPinned) (k : Int) : ∀ t, m_laws_markPinned a k = some t → Fw.Fn Try.prog 51 [(.agg [(iC a.Graph.Points), (.loc 0 0 a.Graph.Bars.length), (.loc 1 0 a.Ground.length)]), (.c (iC k))] [(0, (.prow 88 (a.Graph.Bars.map encTBar))), (1, (.prow 3 (a.Ground.map encInt)))] (.s (.c (iC t.1))) [(0, (.prow 88 (t.2.1.map encTBar))), (1, (.prow 3 (t.2.2.map encInt)))] [0, 1] [] := by
  refine Fw.Fn.of (P := Try.prog) (X := []) (pn := [0, 1]) (rs := (fun (t : (Int × (List TBar) × (List Int))) => [(.c (iC t.1))])) (dfs := (fun (t : (Int × (List TBar) × (List Int))) => [(0, (.prow 88 (t.2.1.map encTBar))), (1, (.prow 3 (t.2.2.map encInt)))])) Try.func51 rfl Try.ntmps51 (Nat.le_of_ble_eq_true rfl) rfl ?_
  intro w0 U0 R0 g0
  unfold m_laws_markPinned
  refine AWR.seq ?_
  refine AWR.region ?_
  refine AOR.step (LT.box (n := 21) (v := (.agg [(iC a.Graph.Points), (.loc 0 0 a.Graph.Bars.length), (.loc 1 0 a.Ground.length)])) rfl sz51 (by exact rfl)) ⟨rfl, trivial⟩ trivial rfl rfl ?_
  refine AOR.pure (LT.assign (v := (.s (.c (iC 0)))) rfl) ⟨⟨rfl, rfl⟩, trivial⟩ trivial rfl rfl ?_
  refine AOR.nil ?_
  refine AWR.seq ?_
  refine AWR.region ?_
  refine AOR.pure (LT.fieldPl rfl fo51_0) ⟨rfl, trivial⟩ trivial rfl rfl ?_
  refine AOR.pure (LT.bloadN (out := [(iC a.Graph.Points), (.loc 0 0 a.Graph.Bars.length)]) rfl ag30 (infS inf30) sz30 (by exact rfl) (by exact rfl)) ⟨rfl, trivial⟩ ⟨rfl, trivial⟩ rfl rfl ?_
  refine AOR.pure (LT.move (v := (.s (.c (iC k)))) rfl) ⟨rfl, trivial⟩ trivial rfl rfl ?_
  refine AOR.bind fun r1 hr1 => ?_
  refine AOR.step (@LT.callF Try.prog _ _ 22 _ _ [(.agg [(iC a.Graph.Points), (.loc 0 0 a.Graph.Bars.length)]), (.c (iC k))] _ _ [] _ _ _ _ ((show Fw.Fn Try.prog 22 [(.agg [(iC a.Graph.Points), (.loc 0 0 a.Graph.Bars.length)]), (.c (iC k))] [(0, (.prow 88 (a.Graph.Bars.map encTBar)))] (.s (.c (iC r1.1))) [(0, (.prow 88 (r1.2.map encTBar)))] [0] [] from Fw.Fn.ren [(0, 0)] (w_laws_markGraph a.Graph k r1 hr1) rfl)) rfl cb22 (.cons (.agg (.cons (.same rfl) (.cons (.same rfl) .nil))) (.cons (.c (.same rfl)) .nil)) rfl rfl ⟨rfl, trivial⟩) ⟨rfl, rfl, rfl, trivial⟩ ⟨rfl, trivial⟩ rfl rfl ?_
  refine AOR.pure (LT.assign (v := (.s (.c (iC r1.1)))) rfl) ⟨rfl, trivial⟩ trivial rfl rfl ?_
  refine AOR.nil ?_
  refine AWR.seq ?_
  refine AWR.ent (Ent.of (σ' := [(1, (.s (.c (iC r1.1)))), (2, (.s (.c (.pl 21 0))))]) (m' := [(0, (.prow 88 (r1.2.map encTBar))), (1, (.prow 3 (a.Ground.map encInt))), (21, (.row 51 [[(iC a.Graph.Points), (.loc 0 0 a.Graph.Bars.length), (.loc 1 0 a.Ground.length)]]))]) ⟨rfl, rfl, trivial⟩ ⟨rfl, rfl, rfl, trivial⟩) ?_
  refine AWR.region ?_
  refine AOR.pure (LT.fieldPl rfl fo51_1) ⟨rfl, trivial⟩ trivial rfl rfl ?_
  refine AOR.pure (LT.bload1 (c := (.loc 1 0 a.Ground.length)) rfl ag40 (by exact rfl)) ⟨rfl, trivial⟩ ⟨rfl, trivial⟩ rfl rfl ?_
  refine AOR.pure (LT.move (v := (.s (.c (iC r1.1)))) rfl) ⟨rfl, trivial⟩ trivial rfl rfl ?_
  refine AOR.bind fun r2 hr2 => ?_
  refine AOR.step (@LT.callF Try.prog _ _ 33 _ _ [(.c (.loc 1 0 a.Ground.length)), (.c (iC r1.1))] _ _ [] _ _ _ _ ((show Fw.Fn Try.prog 33 [(.c (.loc 1 0 a.Ground.length)), (.c (iC r1.1))] [(1, (.prow 3 (a.Ground.map encInt)))] (.s (.c (iC r2.1))) [(1, (.prow 3 (r2.2.map encInt)))] [1] [] from Fw.Fn.ren [(0, 1)] (w_laws_markIntS a.Ground r1.1 r2 hr2) rfl)) rfl cb33 (.cons (.c (.same rfl)) (.cons (.c (.same rfl)) .nil)) rfl rfl ⟨rfl, trivial⟩) ⟨rfl, rfl, rfl, trivial⟩ ⟨rfl, trivial⟩ rfl rfl ?_
  refine AOR.pure (LT.assign (v := (.s (.c (iC r2.1)))) rfl) ⟨rfl, trivial⟩ trivial rfl rfl ?_
  refine AOR.nil ?_
  refine AWR.seq ?_
  refine AWR.region ?_
  refine AOR.pure (LT.move (v := (.s (.c (iC r2.1)))) rfl) ⟨rfl, trivial⟩ trivial rfl rfl ?_
  refine AOR.pure (LT.assign (v := (.s (.c (iC r2.1)))) rfl) ⟨rfl, trivial⟩ trivial rfl rfl ?_
  refine AOR.nil ?_
  refine AWR.ret (FPost.mk (.inr rfl) ⟨rfl, trivial⟩ ⟨rfl, rfl, trivial⟩ rfl ⟨PermP.sc, trivial⟩ ⟨PermO.prow' perm_encTBar, PermO.prow' perm_encInt, trivial⟩)
set_option maxRecDepth 100000 in
set_option maxHeartbeats 8000000 in
theorem w_laws_heldIntS (a : (List Int)) (k : Int) : ∀ t, m_laws_heldIntS a k = some t → Fw.Fn Try.prog 52 [(.c (.pv (.xs false (a.map encInt)))), (.c (iC k))] [] (.s (.c (iC t))) [] [] [] := by
  refine Fw.Fn.of (P := Try.prog) (X := []) (pn := []) (rs := (fun (t : Int) => [(.c (iC t))])) (dfs := (fun (t : Int) => [])) Try.func52 rfl Try.ntmps52 (Nat.le_of_ble_eq_true rfl) rfl ?_
  intro w0 U0 R0 g0
  unfold m_laws_heldIntS
  refine AWR.seq ?_
  refine AWR.region ?_
  refine AOR.pure (LT.assign (v := (.s (.c (iC 0)))) rfl) ⟨⟨rfl, rfl⟩, trivial⟩ trivial rfl rfl ?_
  refine AOR.nil ?_
  refine AWR.seq ?_
  refine AWR.seq ?_
  refine AWR.region ?_
  refine AOR.pure (LT.assign (v := (.s (.c (iC 0)))) rfl) ⟨⟨rfl, rfl⟩, trivial⟩ trivial rfl rfl ?_
  refine AOR.nil ?_
  refine AWR.block ?_
  refine AWR.loopR (id := 0) (m_laws_heldIntS_L1 a) (fun s1 => ([(0, (.s (.c (.pv (.xs false (a.map encInt)))))), (1, (.s (.c (iC s1.1)))), (5, (.s (.c (iC s1.2))))], [])) (fun b8 => ([(1, (.s (.c (iC b8))))], [])) (FPost Try.prog Try.f52.results.toList [] [] (fun (t : Int) => [(.c (iC t))]) (fun (t : Int) => [])) ?_ (Ent.of ⟨rfl, rfl, rfl, trivial⟩ trivial) rfl (fun b8 _ => ?_) (by intro r t σ m ht hk; injection ht with ht; subst ht; exact hk)
  · intro s1
    unfold m_laws_heldIntS_L1
    refine AWR.seq ?_
    refine AWR.seq ?_
    refine AWR.region ?_
    refine AOR.pure (LT.move (v := (.s (.c (iC s1.2)))) rfl) ⟨rfl, trivial⟩ trivial rfl rfl ?_
    refine AOR.pure (LT.move (v := (.s (.c (.pv (.xs false (a.map encInt)))))) rfl) ⟨rfl, trivial⟩ trivial rfl rfl ?_
    refine AOR.pure (LT.tlenRO rfl und40) ⟨rfl, trivial⟩ trivial rfl rfl ?_
    refine AOR.pure (LT.lss rfl) ⟨rfl, rfl, trivial⟩ trivial rfl rfl ?_
    refine AOR.nil ?_
    refine AWR.cond rfl (fun hc9 => ?_) (fun hc9 => ?_)
    · refine AWR.skip ?_
      refine AWR.seq ?_
      refine AWR.block ?_
      refine AWR.seq ?_
      refine AWR.seq ?_
      refine AWR.region ?_
      refine AOR.pure (LT.move (v := (.s (.c (.pv (.xs false (a.map encInt)))))) rfl) ⟨rfl, trivial⟩ trivial rfl rfl ?_
      refine AOR.pure (LT.move (v := (.s (.c (iC s1.2)))) rfl) ⟨rfl, trivial⟩ trivial rfl rfl ?_
      refine AOR.bind fun x10 hx10 => ?_
      refine AOR.pure (LT.tindexRO (enc := encInt) rfl el40 hx10 sz3) ⟨rfl, rfl, trivial⟩ trivial rfl rfl ?_
      refine AOR.pure (LT.loadPx1 rfl ag3) ⟨rfl, trivial⟩ trivial rfl rfl ?_
      refine AOR.pure (LT.move (v := (.s (.c (iC s1.1)))) rfl) ⟨rfl, trivial⟩ trivial rfl rfl ?_
      refine AOR.pure (LT.neq rfl) ⟨rfl, rfl, trivial⟩ trivial rfl rfl ?_
      refine AOR.nil ?_
      refine AWR.cond rfl (fun hc11 => ?_) (fun hc11 => ?_)
      · refine AWR.seq ?_
        refine AWR.region ?_
        refine AOR.pure (LT.assign (v := (.s (.c (iC (-1))))) rfl) ⟨⟨rfl, rfl⟩, trivial⟩ trivial rfl rfl ?_
        refine AOR.nil ?_
        refine AWR.ret ⟨rfl, FPost.mk (.inr rfl) ⟨rfl, trivial⟩ trivial rfl ⟨PermP.sc, trivial⟩ trivial⟩
      · refine AWR.skip ?_
        refine AWR.region ?_
        refine AOR.pure (LT.move (v := (.s (.c (iC s1.1)))) rfl) ⟨rfl, trivial⟩ trivial rfl rfl ?_
        refine AOR.pure (LT.add rfl) ⟨rfl, ⟨rfl, rfl⟩, trivial⟩ trivial rfl rfl ?_
        refine AOR.pure (LT.assign (v := (.s (.c (iC (w64 (s1.1 + 1)))))) rfl) ⟨rfl, trivial⟩ trivial rfl rfl ?_
        refine AOR.nil ?_
        refine AWR.blk ?_
        refine AWR.ent (Ent.of (σ' := [(0, (.s (.c (.pv (.xs false (a.map encInt)))))), (1, (.s (.c (iC (w64 (s1.1 + 1)))))), (5, (.s (.c (iC s1.2))))]) (m' := []) ⟨rfl, rfl, rfl, trivial⟩ trivial) ?_
        refine AWR.region ?_
        refine AOR.pure (LT.move (v := (.s (.c (iC s1.2)))) rfl) ⟨rfl, trivial⟩ trivial rfl rfl ?_
        refine AOR.pure (LT.add rfl) ⟨rfl, ⟨rfl, rfl⟩, trivial⟩ trivial rfl rfl ?_
        refine AOR.pure (LT.assign (v := (.s (.c (iC (w64 (s1.2 + 1)))))) rfl) ⟨rfl, trivial⟩ trivial rfl rfl ?_
        refine AOR.nil ?_
        refine AWR.nil ⟨rfl, Ent.of ⟨rfl, rfl, rfl, trivial⟩ trivial⟩
    · refine AWR.exit_end rfl ⟨rfl, Ent.of ⟨rfl, trivial⟩ trivial⟩
  · refine AWR.seq ?_
    refine AWR.region ?_
    refine AOR.pure (LT.move (v := (.s (.c (iC b8)))) rfl) ⟨rfl, trivial⟩ trivial rfl rfl ?_
    refine AOR.pure (LT.assign (v := (.s (.c (iC b8)))) rfl) ⟨rfl, trivial⟩ trivial rfl rfl ?_
    refine AOR.nil ?_
    refine AWR.ret (FPost.mk (.inr rfl) ⟨rfl, trivial⟩ trivial rfl ⟨PermP.sc, trivial⟩ trivial)
set_option maxRecDepth 100000 in
set_option maxHeartbeats 8000000 in
theorem w_laws_FnExactInnerPoints (aP : TPinned) : ∀ t, m_laws_FnExactInnerPoints aP = some t → Fw.Fn Try.prog 10 [(.agg [(iC aP.Graph.Points), (.pv (.xs false (aP.Graph.Bars.map encTBar))), (.pv (.xs false (aP.Ground.map encInt)))])] [] (.s (.c (bC t))) [] [] [] := by
  refine Fw.Fn.of (P := Try.prog) (X := []) (pn := []) (rs := (fun (t : Bool) => [(.c (bC t))])) (dfs := (fun (t : Bool) => [])) Try.func10 rfl Try.ntmps10 (Nat.le_of_ble_eq_true rfl) rfl ?_
  intro w0 U0 R0 g0
  unfold m_laws_FnExactInnerPoints
  refine AWR.seq ?_
  refine AWR.region ?_
  refine AOR.step (LT.box (n := 21) (v := (.agg [(iC aP.Graph.Points), (.pv (.xs false (aP.Graph.Bars.map encTBar))), (.pv (.xs false (aP.Ground.map encInt)))])) rfl sz47 (by exact rfl)) ⟨rfl, trivial⟩ trivial rfl rfl ?_
  refine AOR.pure (LT.assign (v := (.s (.c (bC false)))) rfl) ⟨⟨rfl, rfl⟩, trivial⟩ trivial rfl rfl ?_
  refine AOR.nil ?_
  refine AWR.seq ?_
  refine AWR.region ?_
  refine AOR.pure (LT.assign (v := (.s (.c (iC 1048576)))) rfl) ⟨⟨rfl, rfl⟩, trivial⟩ trivial rfl rfl ?_
  refine AOR.nil ?_
  refine AWR.seq ?_
  refine AWR.region ?_
  refine AOR.pure (LT.bloadN (out := [(iC aP.Graph.Points), (.pv (.xs false (aP.Graph.Bars.map encTBar))), (.pv (.xs false (aP.Ground.map encInt)))]) rfl ag47 (infS inf47) sz47 (by exact rfl) (by exact rfl)) ⟨rfl, trivial⟩ ⟨rfl, trivial⟩ rfl rfl ?_
  refine AOR.pure (LT.move (v := (.s (.c (iC 1048576)))) rfl) ⟨rfl, trivial⟩ trivial rfl rfl ?_
  refine AOR.bind fun r1 hr1 => ?_
  refine AOR.pure (@LT.callF Try.prog _ _ 34 _ _ [(.agg [(iC aP.Graph.Points), (.pv (.xs false (aP.Graph.Bars.map encTBar))), (.pv (.xs false (aP.Ground.map encInt)))]), (.c (iC 1048576))] _ _ [] _ _ _ _ (w_laws_szPinned aP 1048576 r1 hr1) rfl cb34 (.cons (.agg (.cons (.same rfl) (.cons (.same rfl) (.cons (.same rfl) .nil)))) (.cons (.c (.same rfl)) .nil)) rfl rfl trivial) ⟨rfl, rfl, rfl, trivial⟩ trivial rfl rfl ?_
  refine AOR.pure (LT.assign (v := (.s (.c (iC r1)))) rfl) ⟨rfl, trivial⟩ trivial rfl rfl ?_
  refine AOR.nil ?_
  refine AWR.seq ?_
  refine AWR.seq ?_
  refine AWR.region ?_
  refine AOR.pure (LT.move (v := (.s (.c (iC r1)))) rfl) ⟨rfl, trivial⟩ trivial rfl rfl ?_
  refine AOR.pure (LT.lss rfl) ⟨rfl, ⟨rfl, rfl⟩, trivial⟩ trivial rfl rfl ?_
  refine AOR.nil ?_
  refine AWR.cond rfl (fun hc2 => ?_) (fun hc2 => ?_)
  · refine AWR.seq ?_
    refine AWR.ent (Ent.of (σ' := []) (m' := []) trivial trivial) ?_
    refine AWR.region ?_
    refine AOR.pure (LT.assign (v := (.s (.c (bC true)))) rfl) ⟨⟨rfl, rfl⟩, trivial⟩ trivial rfl rfl ?_
    refine AOR.nil ?_
    refine AWR.ret (FPost.mk (.inr rfl) ⟨rfl, trivial⟩ trivial rfl ⟨PermP.sc, trivial⟩ trivial)
  · refine AWR.skip ?_
    refine AWR.seq ?_
    refine AWR.ent (Ent.of (σ' := [(1, (.s (.c (.pl 21 0))))]) (m' := [(21, (.row 47 [[(iC aP.Graph.Points), (.pv (.xs false (aP.Graph.Bars.map encTBar))), (.pv (.xs false (aP.Ground.map encInt)))]]))]) ⟨rfl, trivial⟩ ⟨rfl, trivial⟩) ?_
    refine AWR.region ?_
    refine AOR.pure (LT.bloadN (out := [(iC aP.Graph.Points), (.pv (.xs false (aP.Graph.Bars.map encTBar))), (.pv (.xs false (aP.Ground.map encInt)))]) rfl ag47 (infS inf47) sz47 (by exact rfl) (by exact rfl)) ⟨rfl, trivial⟩ ⟨rfl, trivial⟩ rfl rfl ?_
    refine AOR.bind fun r3 hr3 => ?_
    refine AOR.step (@LT.callF Try.prog _ _ 36 _ _ [(.agg [(iC aP.Graph.Points), (.pv (.xs false (aP.Graph.Bars.map encTBar))), (.pv (.xs false (aP.Ground.map encInt)))])] _ _ [] _ _ _ _ ((show Fw.Fn Try.prog 36 [(.agg [(iC aP.Graph.Points), (.pv (.xs false (aP.Graph.Bars.map encTBar))), (.pv (.xs false (aP.Ground.map encInt)))])] [] (.s (.agg [(iC r3.Graph.Points), (.loc 24 0 r3.Graph.Bars.length), (.loc 25 0 r3.Ground.length)])) [(24, (.prow 88 (r3.Graph.Bars.map encTBar))), (25, (.prow 3 (r3.Ground.map encInt)))] [] [24, 25] from Fw.Fn.ren [(0, 24), (1, 25)] (w_laws_toPinned aP r3 hr3) rfl)) rfl cb36 (.cons (.agg (.cons (.same rfl) (.cons (.same rfl) (.cons (.same rfl) .nil)))) .nil) rfl rfl trivial) ⟨rfl, rfl, trivial⟩ trivial rfl rfl ?_
    refine AOR.bind fun r4 hr4 => ?_
    refine AOR.step (@LT.callF Try.prog _ _ 49 _ _ [(.agg [(iC r3.Graph.Points), (.loc 24 0 r3.Graph.Bars.length), (.loc 25 0 r3.Ground.length)])] _ _ [(24, (.prow 88 (r3.Graph.Bars.map encTBar))), (25, (.prow 3 (r3.Ground.map encInt)))] _ _ _ _ ((show Fw.Fn Try.prog 49 [(.agg [(iC r3.Graph.Points), (.pv (.xs false (r3.Graph.Bars.map encTBar))), (.pv (.xs false (r3.Ground.map encInt)))])] [] (.s (.c (.loc 27 0 r4.length))) [(27, (.prow 3 (r4.map encInt)))] [] [27] from Fw.Fn.ren [(0, 27)] (w_spec_InnerPoints r3 r4 hr4) rfl)) rfl cb49 (.cons (.agg (.cons (.same rfl) (.cons (.tloc rfl rfl) (.cons (.tloc rfl rfl) .nil)))) .nil) rfl rfl trivial) ⟨rfl, rfl, trivial⟩ ⟨rfl, rfl, trivial⟩ rfl rfl ?_
    refine AOR.pure (LT.assign (v := (.s (.c (.loc 27 0 r4.length)))) rfl) ⟨rfl, trivial⟩ trivial rfl rfl ?_
    refine AOR.nil ?_
    refine AWR.seq ?_
    refine AWR.region ?_
    refine AOR.pure (LT.bloadN (out := [(iC aP.Graph.Points), (.pv (.xs false (aP.Graph.Bars.map encTBar))), (.pv (.xs false (aP.Ground.map encInt)))]) rfl ag47 (infS inf47) sz47 (by exact rfl) (by exact rfl)) ⟨rfl, trivial⟩ ⟨rfl, trivial⟩ rfl rfl ?_
    refine AOR.bind fun r5 hr5 => ?_
    refine AOR.step (@LT.callF Try.prog _ _ 36 _ _ [(.agg [(iC aP.Graph.Points), (.pv (.xs false (aP.Graph.Bars.map encTBar))), (.pv (.xs false (aP.Ground.map encInt)))])] _ _ [] _ _ _ _ ((show Fw.Fn Try.prog 36 [(.agg [(iC aP.Graph.Points), (.pv (.xs false (aP.Graph.Bars.map encTBar))), (.pv (.xs false (aP.Ground.map encInt)))])] [] (.s (.agg [(iC r5.Graph.Points), (.loc 29 0 r5.Graph.Bars.length), (.loc 30 0 r5.Ground.length)])) [(29, (.prow 88 (r5.Graph.Bars.map encTBar))), (30, (.prow 3 (r5.Ground.map encInt)))] [] [29, 30] from Fw.Fn.ren [(0, 29), (1, 30)] (w_laws_toPinned aP r5 hr5) rfl)) rfl cb36 (.cons (.agg (.cons (.same rfl) (.cons (.same rfl) (.cons (.same rfl) .nil)))) .nil) rfl rfl trivial) ⟨rfl, rfl, trivial⟩ trivial rfl rfl ?_
    refine AOR.step (LT.alloc (n := 31) (cells := [(iC 0), (sC nilV), (sC nilV)]) rfl ti51 rfl rfl rfl) trivial trivial rfl rfl ?_
    refine AOR.step (LT.bstore (v := (.agg [(iC r5.Graph.Points), (.loc 29 0 r5.Graph.Bars.length), (.loc 30 0 r5.Ground.length)])) (out := [(iC r5.Graph.Points), (.loc 29 0 r5.Graph.Bars.length), (.loc 30 0 r5.Ground.length)]) rfl rfl (infS inf51) sz51 (by exact rfl) (by exact Nat.le_of_ble_eq_true rfl) (by exact rfl)) ⟨rfl, rfl, trivial⟩ ⟨rfl, trivial⟩ rfl rfl ?_
    refine AOR.nil ?_
    refine AWR.seq ?_
    refine AWR.ent (Ent.of (σ' := [(1, (.s (.c (.pl 21 0)))), (4, (.s (.c (.loc 27 0 r4.length)))), (5, (.s (.c (.pl 31 0))))]) (m' := [(21, (.row 47 [[(iC aP.Graph.Points), (.pv (.xs false (aP.Graph.Bars.map encTBar))), (.pv (.xs false (aP.Ground.map encInt)))]])), (27, (.prow 3 (r4.map encInt))), (29, (.prow 88 (r5.Graph.Bars.map encTBar))), (30, (.prow 3 (r5.Ground.map encInt))), (31, (.row 51 [[(iC r5.Graph.Points), (.loc 29 0 r5.Graph.Bars.length), (.loc 30 0 r5.Ground.length)]]))]) ⟨rfl, rfl, rfl, trivial⟩ ⟨rfl, rfl, rfl, rfl, rfl, trivial⟩) ?_
    refine AWR.region ?_
    refine AOR.pure (LT.bloadN (out := [(iC r5.Graph.Points), (.loc 29 0 r5.Graph.Bars.length), (.loc 30 0 r5.Ground.length)]) rfl ag51 (infS inf51) sz51 (by exact rfl) (by exact rfl)) ⟨rfl, trivial⟩ ⟨rfl, trivial⟩ rfl rfl ?_
    refine AOR.bind fun r6 hr6 => ?_
    refine AOR.step (@LT.callF Try.prog _ _ 50 _ _ [(.agg [(iC r5.Graph.Points), (.loc 29 0 r5.Graph.Bars.length), (.loc 30 0 r5.Ground.length)])] _ _ [(29, (.prow 88 (r5.Graph.Bars.map encTBar))), (30, (.prow 3 (r5.Ground.map encInt)))] _ _ _ _ ((show Fw.Fn Try.prog 50 [(.agg [(iC r5.Graph.Points), (.pv (.xs false (r5.Graph.Bars.map encTBar))), (.pv (.xs false (r5.Ground.map encInt)))])] [] (.s (.c (.loc 33 0 r6.length))) [(33, (.prow 3 (r6.map encInt)))] [] [33] from Fw.Fn.ren [(0, 33)] (w_impl_InnerPoints r5 r6 hr6) rfl)) rfl cb50 (.cons (.agg (.cons (.same rfl) (.cons (.tloc rfl rfl) (.cons (.tloc rfl rfl) .nil)))) .nil) rfl rfl trivial) ⟨rfl, rfl, trivial⟩ ⟨rfl, rfl, trivial⟩ rfl rfl ?_
    refine AOR.pure (LT.assign (v := (.s (.c (.loc 33 0 r6.length)))) rfl) ⟨rfl, trivial⟩ trivial rfl rfl ?_
    refine AOR.nil ?_
    refine AWR.seq ?_
    refine AWR.seq ?_
    refine AWR.region ?_
    refine AOR.pure (LT.move (v := (.s (.c (.loc 33 0 r6.length)))) rfl) ⟨rfl, trivial⟩ trivial rfl rfl ?_
    refine AOR.pure (LT.move (v := (.s (.c (.loc 27 0 r4.length)))) rfl) ⟨rfl, trivial⟩ trivial rfl rfl ?_
    refine AOR.bind fun r7 hr7 => ?_
    refine AOR.pure (@LT.callF Try.prog _ _ 32 _ _ [(.c (.loc 33 0 r6.length)), (.c (.loc 27 0 r4.length))] _ _ [(33, (.prow 3 (r6.map encInt))), (27, (.prow 3 (r4.map encInt)))] _ _ _ _ (w_laws_eqIntS r6 r4 r7 hr7) rfl cb32 (.cons (.c (.tloc rfl rfl)) (.cons (.c (.tloc rfl rfl)) .nil)) rfl rfl trivial) ⟨rfl, rfl, rfl, trivial⟩ ⟨rfl, rfl, trivial⟩ rfl rfl ?_
    refine AOR.pure (LT.not rfl) ⟨rfl, trivial⟩ trivial rfl rfl ?_
    refine AOR.nil ?_
    refine AWR.cond rfl (fun hc8 => ?_) (fun hc8 => ?_)
    · refine AWR.seq ?_
      refine AWR.region ?_
      refine AOR.pure (LT.assign (v := (.s (.c (bC false)))) rfl) ⟨⟨rfl, rfl⟩, trivial⟩ trivial rfl rfl ?_
      refine AOR.nil ?_
      refine AWR.ret (FPost.mk (.inr rfl) ⟨rfl, trivial⟩ trivial rfl ⟨PermP.sc, trivial⟩ trivial)
    · refine AWR.skip ?_
      refine AWR.seq ?_
      refine AWR.seq ?_
      refine AWR.draw mixed ?_
      refine AOD.pure (LT.bloadN (out := [(iC r5.Graph.Points), (.loc 29 0 r5.Graph.Bars.length), (.loc 30 0 r5.Ground.length)]) rfl ag51 (infS inf51) sz51 (by exact rfl) (by exact rfl)) ⟨rfl, trivial⟩ ⟨rfl, trivial⟩ rfl rfl ?_
      refine AOD.pure (LT.bloadN (out := [(iC aP.Graph.Points), (.pv (.xs false (aP.Graph.Bars.map encTBar))), (.pv (.xs false (aP.Ground.map encInt)))]) rfl ag47 (infS inf47) sz47 (by exact rfl) (by exact rfl)) ⟨rfl, trivial⟩ ⟨rfl, trivial⟩ rfl rfl ?_
      refine AOD.bind fun r9 hr9 => ?_
      refine AOD.step (@LT.callF Try.prog _ _ 36 _ _ [(.agg [(iC aP.Graph.Points), (.pv (.xs false (aP.Graph.Bars.map encTBar))), (.pv (.xs false (aP.Ground.map encInt)))])] _ _ [] _ _ _ _ ((show Fw.Fn Try.prog 36 [(.agg [(iC aP.Graph.Points), (.pv (.xs false (aP.Graph.Bars.map encTBar))), (.pv (.xs false (aP.Ground.map encInt)))])] [] (.s (.agg [(iC r9.Graph.Points), (.loc 36 0 r9.Graph.Bars.length), (.loc 37 0 r9.Ground.length)])) [(36, (.prow 88 (r9.Graph.Bars.map encTBar))), (37, (.prow 3 (r9.Ground.map encInt)))] [] [36, 37] from Fw.Fn.ren [(0, 36), (1, 37)] (w_laws_toPinned aP r9 hr9) rfl)) rfl cb36 (.cons (.agg (.cons (.same rfl) (.cons (.same rfl) (.cons (.same rfl) .nil)))) .nil) rfl rfl trivial) ⟨rfl, rfl, trivial⟩ trivial rfl rfl ?_
      refine AOD.bind fun r10 hr10 => ?_
      refine AOD.pure (@LT.callF Try.prog _ _ 38 _ _ [(.agg [(iC r5.Graph.Points), (.loc 29 0 r5.Graph.Bars.length), (.loc 30 0 r5.Ground.length)]), (.agg [(iC r9.Graph.Points), (.loc 36 0 r9.Graph.Bars.length), (.loc 37 0 r9.Ground.length)])] _ _ [(29, (.prow 88 (r5.Graph.Bars.map encTBar))), (30, (.prow 3 (r5.Ground.map encInt))), (36, (.prow 88 (r9.Graph.Bars.map encTBar))), (37, (.prow 3 (r9.Ground.map encInt)))] _ _ _ _ (w_laws_eqPinned r5 r9 r10 hr10) rfl cb38 (.cons (.agg (.cons (.same rfl) (.cons (.tloc rfl rfl) (.cons (.tloc rfl rfl) .nil)))) (.cons (.agg (.cons (.same rfl) (.cons (.tloc rfl rfl) (.cons (.tloc rfl rfl) .nil)))) .nil)) rfl rfl trivial) ⟨rfl, rfl, rfl, trivial⟩ ⟨rfl, rfl, rfl, rfl, trivial⟩ rfl rfl ?_
      refine AOD.pure (LT.not rfl) ⟨rfl, trivial⟩ trivial rfl rfl ?_
      refine AOD.nil (by kernel_rfl) ?_
      refine AWR.cond rfl (fun hc11 => ?_) (fun hc11 => ?_)
      · refine AWR.seq ?_
        refine AWR.ent (Ent.of (σ' := []) (m' := []) trivial trivial) ?_
        refine AWR.region ?_
        refine AOR.pure (LT.assign (v := (.s (.c (bC false)))) rfl) ⟨⟨rfl, rfl⟩, trivial⟩ trivial rfl rfl ?_
        refine AOR.nil ?_
        refine AWR.ret (FPost.mk (.inr rfl) ⟨rfl, trivial⟩ trivial rfl ⟨PermP.sc, trivial⟩ trivial)
      · refine AWR.skip ?_
        refine AWR.seq ?_
        refine AWR.ent (Ent.of (σ' := [(1, (.s (.c (.pl 21 0)))), (4, (.s (.c (.loc 27 0 r4.length)))), (5, (.s (.c (.pl 31 0)))), (6, (.s (.c (.loc 33 0 r6.length))))]) (m' := [(21, (.row 47 [[(iC aP.Graph.Points), (.pv (.xs false (aP.Graph.Bars.map encTBar))), (.pv (.xs false (aP.Ground.map encInt)))]])), (27, (.prow 3 (r4.map encInt))), (29, (.prow 88 (r5.Graph.Bars.map encTBar))), (30, (.prow 3 (r5.Ground.map encInt))), (31, (.row 51 [[(iC r5.Graph.Points), (.loc 29 0 r5.Graph.Bars.length), (.loc 30 0 r5.Ground.length)]])), (33, (.prow 3 (r6.map encInt)))]) ⟨rfl, rfl, rfl, rfl, trivial⟩ ⟨rfl, rfl, rfl, rfl, rfl, rfl, trivial⟩) ?_
        refine AWR.region ?_
        refine AOR.pure (LT.assign (v := (.s (.c (iC 1)))) rfl) ⟨⟨rfl, rfl⟩, trivial⟩ trivial rfl rfl ?_
        refine AOR.nil ?_
        refine AWR.seq ?_
        refine AWR.region ?_
        refine AOR.pure (LT.bloadN (out := [(iC r5.Graph.Points), (.loc 29 0 r5.Graph.Bars.length), (.loc 30 0 r5.Ground.length)]) rfl ag51 (infS inf51) sz51 (by exact rfl) (by exact rfl)) ⟨rfl, trivial⟩ ⟨rfl, trivial⟩ rfl rfl ?_
        refine AOR.pure (LT.move (v := (.s (.c (iC 1)))) rfl) ⟨rfl, trivial⟩ trivial rfl rfl ?_
        refine AOR.bind fun r12 hr12 => ?_
        refine AOR.step (@LT.callF Try.prog _ _ 51 _ _ [(.agg [(iC r5.Graph.Points), (.loc 29 0 r5.Graph.Bars.length), (.loc 30 0 r5.Ground.length)]), (.c (iC 1))] _ _ [] _ _ _ _ ((show Fw.Fn Try.prog 51 [(.agg [(iC r5.Graph.Points), (.loc 29 0 r5.Graph.Bars.length), (.loc 30 0 r5.Ground.length)]), (.c (iC 1))] [(29, (.prow 88 (r5.Graph.Bars.map encTBar))), (30, (.prow 3 (r5.Ground.map encInt)))] (.s (.c (iC r12.1))) [(29, (.prow 88 (r12.2.1.map encTBar))), (30, (.prow 3 (r12.2.2.map encInt)))] [29, 30] [] from Fw.Fn.ren [(0, 29), (1, 30)] (w_laws_markPinned r5 1 r12 hr12) rfl)) rfl cb51 (.cons (.agg (.cons (.same rfl) (.cons (.same rfl) (.cons (.same rfl) .nil)))) (.cons (.c (.same rfl)) .nil)) rfl rfl ⟨rfl, rfl, trivial⟩) ⟨rfl, rfl, rfl, trivial⟩ ⟨rfl, rfl, trivial⟩ rfl rfl ?_
        refine AOR.pure (LT.assign (v := (.s (.c (iC r12.1)))) rfl) ⟨rfl, trivial⟩ trivial rfl rfl ?_
        refine AOR.nil ?_
        refine AWR.seq ?_
        refine AWR.seq ?_
        refine AWR.joinK (fun j15 => ([(1, (.s (.c (.pl 21 0)))), (4, (.s (.c (.loc 27 0 r4.length)))), (6, (.s (.c (.loc 33 0 r6.length)))), (42, (.s (.c (bC j15))))], [(21, (.row 47 [[(iC aP.Graph.Points), (.pv (.xs false (aP.Graph.Bars.map encTBar))), (.pv (.xs false (aP.Ground.map encInt)))]])), (27, (.prow 3 (r4.map encInt))), (33, (.prow 3 (r6.map encInt)))])) ?_ (fun j15 _ => ?_)
        · refine AWR.region ?_
          refine AOR.pure (LT.move (v := (.s (.c (iC r12.1)))) rfl) ⟨rfl, trivial⟩ trivial rfl rfl ?_
          refine AOR.pure (LT.lss rfl) ⟨rfl, ⟨rfl, rfl⟩, trivial⟩ trivial rfl rfl ?_
          refine AOR.pure (LT.move (v := (.s (.c (bC (decide (r12.1 < 0)))))) rfl) ⟨rfl, trivial⟩ trivial rfl rfl ?_
          refine AOR.split (fun hb16 => ?_) (fun hb16 => ?_)
          · refine AOR.skip ⟨_, rfl, .inl ⟨_, rfl, (by rw [hb16]; rfl)⟩⟩ rfl ?_
            refine AOR.skip ⟨_, rfl, .inl ⟨_, rfl, (by rw [hb16]; rfl)⟩⟩ rfl ?_
            refine AOR.skip ⟨_, rfl, .inl ⟨_, rfl, (by rw [hb16]; rfl)⟩⟩ rfl ?_
            refine AOR.skip ⟨_, rfl, .inl ⟨_, rfl, (by rw [hb16]; rfl)⟩⟩ rfl ?_
            refine AOR.pure (LT.pickT (v := (.s (.c (bC true)))) rfl hb16) ⟨rfl, ⟨rfl, rfl⟩, trivial⟩ trivial rfl rfl ?_
            refine AOR.nil ?_
            refine AWR.nil ⟨rfl, Ent.of ⟨rfl, rfl, rfl, rfl, trivial⟩ ⟨rfl, rfl, rfl, trivial⟩⟩
          · refine AOR.pure (LT.move (v := (.s (.c (.loc 33 0 r6.length)))) rfl) ⟨rfl, trivial⟩ trivial ⟨_, rfl, .inl ⟨_, rfl, (by rw [hb16]; rfl)⟩⟩ rfl ?_
            refine AOR.pure (LT.move (v := (.s (.c (.loc 27 0 r4.length)))) rfl) ⟨rfl, trivial⟩ trivial ⟨_, rfl, .inl ⟨_, rfl, (by rw [hb16]; rfl)⟩⟩ rfl ?_
            refine AOR.bind fun r17 hr17 => ?_
            refine AOR.pure (@LT.callF Try.prog _ _ 32 _ _ [(.c (.loc 33 0 r6.length)), (.c (.loc 27 0 r4.length))] _ _ [(33, (.prow 3 (r6.map encInt))), (27, (.prow 3 (r4.map encInt)))] _ _ _ _ (w_laws_eqIntS r6 r4 r17 hr17) rfl cb32 (.cons (.c (.tloc rfl rfl)) (.cons (.c (.tloc rfl rfl)) .nil)) rfl rfl trivial) ⟨rfl, rfl, rfl, trivial⟩ ⟨rfl, rfl, trivial⟩ ⟨_, rfl, .inl ⟨_, rfl, (by rw [hb16]; rfl)⟩⟩ rfl ?_
            refine AOR.pure (LT.not rfl) ⟨rfl, trivial⟩ trivial ⟨_, rfl, .inl ⟨_, rfl, (by rw [hb16]; rfl)⟩⟩ rfl ?_
            refine AOR.pure (LT.pickF (v := (.s (.c (bC (!r17))))) rfl hb16) ⟨rfl, rfl, trivial⟩ trivial rfl rfl ?_
            refine AOR.nil ?_
            refine AWR.nil ⟨rfl, Ent.of ⟨rfl, rfl, rfl, rfl, trivial⟩ ⟨rfl, rfl, rfl, trivial⟩⟩
        · refine AWR.cond rfl (fun hc18 => ?_) (fun hc18 => ?_)
          · refine AWR.seq ?_
            refine AWR.region ?_
            refine AOR.pure (LT.assign (v := (.s (.c (bC false)))) rfl) ⟨⟨rfl, rfl⟩, trivial⟩ trivial rfl rfl ?_
            refine AOR.nil ?_
            refine AWR.ret (FPost.mk (.inr rfl) ⟨rfl, trivial⟩ trivial rfl ⟨PermP.sc, trivial⟩ trivial)
          · refine AWR.skip ?_
            refine AWR.seq ?_
            refine AWR.region ?_
            refine AOR.pure (LT.assign (v := (.s (.c (iC 1)))) rfl) ⟨⟨rfl, rfl⟩, trivial⟩ trivial rfl rfl ?_
            refine AOR.nil ?_
            refine AWR.seq ?_
            refine AWR.region ?_
            refine AOR.pure (LT.move (v := (.s (.c (.loc 33 0 r6.length)))) rfl) ⟨rfl, trivial⟩ trivial rfl rfl ?_
            refine AOR.pure (LT.move (v := (.s (.c (iC 1)))) rfl) ⟨rfl, trivial⟩ trivial rfl rfl ?_
            refine AOR.bind fun r19 hr19 => ?_
            refine AOR.step (@LT.callF Try.prog _ _ 33 _ _ [(.c (.loc 33 0 r6.length)), (.c (iC 1))] _ _ [] _ _ _ _ ((show Fw.Fn Try.prog 33 [(.c (.loc 33 0 r6.length)), (.c (iC 1))] [(33, (.prow 3 (r6.map encInt)))] (.s (.c (iC r19.1))) [(33, (.prow 3 (r19.2.map encInt)))] [33] [] from Fw.Fn.ren [(0, 33)] (w_laws_markIntS r6 1 r19 hr19) rfl)) rfl cb33 (.cons (.c (.same rfl)) (.cons (.c (.same rfl)) .nil)) rfl rfl ⟨rfl, trivial⟩) ⟨rfl, rfl, rfl, trivial⟩ ⟨rfl, trivial⟩ rfl rfl ?_
            refine AOR.pure (LT.assign (v := (.s (.c (iC r19.1)))) rfl) ⟨rfl, trivial⟩ trivial rfl rfl ?_
            refine AOR.nil ?_
            refine AWR.seq ?_
            refine AWR.region ?_
            refine AOR.pure (LT.assign (v := (.s (.c (iC 1)))) rfl) ⟨⟨rfl, rfl⟩, trivial⟩ trivial rfl rfl ?_
            refine AOR.nil ?_
            refine AWR.seq ?_
            refine AWR.region ?_
            refine AOR.pure (LT.move (v := (.s (.c (.loc 33 0 r6.length)))) rfl) ⟨rfl, trivial⟩ trivial rfl rfl ?_
            refine AOR.pure (LT.move (v := (.s (.c (iC 1)))) rfl) ⟨rfl, trivial⟩ trivial rfl rfl ?_
            refine AOR.bind fun u20 hu20 => ?_
            refine AOR.bind fun r21 hr21 => ?_
            refine AOR.pure (@LT.callF Try.prog _ _ 52 _ _ [(.c (.loc 33 0 r6.length)), (.c (iC 1))] _ _ [(33, (.prow 3 (r19.2.map encInt)))] _ _ _ _ (w_laws_heldIntS r19.2 1 r21 hr21) rfl cb52 (.cons (.c (.tloc (same_eq hu20) rfl)) (.cons (.c (.same rfl)) .nil)) rfl rfl trivial) ⟨rfl, rfl, rfl, trivial⟩ ⟨rfl, trivial⟩ rfl rfl ?_
            refine AOR.pure (LT.assign (v := (.s (.c (iC r21)))) rfl) ⟨rfl, trivial⟩ trivial rfl rfl ?_
            refine AOR.nil ?_
            refine AWR.seq ?_
            refine AWR.seq ?_
            refine AWR.ent (Ent.of (σ' := [(1, (.s (.c (.pl 21 0)))), (4, (.s (.c (.loc 27 0 r4.length)))), (6, (.s (.c (.loc 33 0 r6.length)))), (8, (.s (.c (iC r19.1)))), (9, (.s (.c (iC r21))))]) (m' := [(21, (.row 47 [[(iC aP.Graph.Points), (.pv (.xs false (aP.Graph.Bars.map encTBar))), (.pv (.xs false (aP.Ground.map encInt)))]])), (27, (.prow 3 (r4.map encInt))), (33, (.prow 3 (r19.2.map encInt)))]) ⟨rfl, rfl, rfl, rfl, rfl, trivial⟩ ⟨rfl, rfl, rfl, trivial⟩) ?_
            refine AWR.region ?_
            refine AOR.pure (LT.move (v := (.s (.c (iC r21)))) rfl) ⟨rfl, trivial⟩ trivial rfl rfl ?_
            refine AOR.pure (LT.lss rfl) ⟨rfl, ⟨rfl, rfl⟩, trivial⟩ trivial rfl rfl ?_
            refine AOR.nil ?_
            refine AWR.cond rfl (fun hc22 => ?_) (fun hc22 => ?_)
            · refine AWR.seq ?_
              refine AWR.region ?_
              refine AOR.pure (LT.assign (v := (.s (.c (bC false)))) rfl) ⟨⟨rfl, rfl⟩, trivial⟩ trivial rfl rfl ?_
              refine AOR.nil ?_
              refine AWR.ret (FPost.mk (.inr rfl) ⟨rfl, trivial⟩ trivial rfl ⟨PermP.sc, trivial⟩ trivial)
            · refine AWR.skip ?_
              refine AWR.seq ?_
              refine AWR.seq ?_
              refine AWR.region ?_
              refine AOR.pure (LT.move (v := (.s (.c (iC r21)))) rfl) ⟨rfl, trivial⟩ trivial rfl rfl ?_
              refine AOR.pure (LT.move (v := (.s (.c (iC r19.1)))) rfl) ⟨rfl, trivial⟩ trivial rfl rfl ?_
              refine AOR.pure (LT.neq rfl) ⟨rfl, rfl, trivial⟩ trivial rfl rfl ?_
              refine AOR.nil ?_
              refine AWR.cond rfl (fun hc23 => ?_) (fun hc23 => ?_)
              · refine AWR.seq ?_
                refine AWR.region ?_
                refine AOR.pure (LT.assign (v := (.s (.c (bC false)))) rfl) ⟨⟨rfl, rfl⟩, trivial⟩ trivial rfl rfl ?_
                refine AOR.nil ?_
                refine AWR.ret (FPost.mk (.inr rfl) ⟨rfl, trivial⟩ trivial rfl ⟨PermP.sc, trivial⟩ trivial)
              · refine AWR.skip ?_
                refine AWR.seq ?_
                refine AWR.region ?_
                refine AOR.pure (LT.bloadN (out := [(iC aP.Graph.Points), (.pv (.xs false (aP.Graph.Bars.map encTBar))), (.pv (.xs false (aP.Ground.map encInt)))]) rfl ag47 (infS inf47) sz47 (by exact rfl) (by exact rfl)) ⟨rfl, trivial⟩ ⟨rfl, trivial⟩ rfl rfl ?_
                refine AOR.bind fun r24 hr24 => ?_
                refine AOR.step (@LT.callF Try.prog _ _ 36 _ _ [(.agg [(iC aP.Graph.Points), (.pv (.xs false (aP.Graph.Bars.map encTBar))), (.pv (.xs false (aP.Ground.map encInt)))])] _ _ [] _ _ _ _ ((show Fw.Fn Try.prog 36 [(.agg [(iC aP.Graph.Points), (.pv (.xs false (aP.Graph.Bars.map encTBar))), (.pv (.xs false (aP.Ground.map encInt)))])] [] (.s (.agg [(iC r24.Graph.Points), (.loc 44 0 r24.Graph.Bars.length), (.loc 45 0 r24.Ground.length)])) [(44, (.prow 88 (r24.Graph.Bars.map encTBar))), (45, (.prow 3 (r24.Ground.map encInt)))] [] [44, 45] from Fw.Fn.ren [(0, 44), (1, 45)] (w_laws_toPinned aP r24 hr24) rfl)) rfl cb36 (.cons (.agg (.cons (.same rfl) (.cons (.same rfl) (.cons (.same rfl) .nil)))) .nil) rfl rfl trivial) ⟨rfl, rfl, trivial⟩ trivial rfl rfl ?_
                refine AOR.bind fun r25 hr25 => ?_
                refine AOR.step (@LT.callF Try.prog _ _ 50 _ _ [(.agg [(iC r24.Graph.Points), (.loc 44 0 r24.Graph.Bars.length), (.loc 45 0 r24.Ground.length)])] _ _ [(44, (.prow 88 (r24.Graph.Bars.map encTBar))), (45, (.prow 3 (r24.Ground.map encInt)))] _ _ _ _ ((show Fw.Fn Try.prog 50 [(.agg [(iC r24.Graph.Points), (.pv (.xs false (r24.Graph.Bars.map encTBar))), (.pv (.xs false (r24.Ground.map encInt)))])] [] (.s (.c (.loc 47 0 r25.length))) [(47, (.prow 3 (r25.map encInt)))] [] [47] from Fw.Fn.ren [(0, 47)] (w_impl_InnerPoints r24 r25 hr25) rfl)) rfl cb50 (.cons (.agg (.cons (.same rfl) (.cons (.tloc rfl rfl) (.cons (.tloc rfl rfl) .nil)))) .nil) rfl rfl trivial) ⟨rfl, rfl, trivial⟩ ⟨rfl, rfl, trivial⟩ rfl rfl ?_
                refine AOR.pure (LT.assign (v := (.s (.c (.loc 47 0 r25.length)))) rfl) ⟨rfl, trivial⟩ trivial rfl rfl ?_
                refine AOR.nil ?_
                refine AWR.seq ?_
                refine AWR.seq ?_
                refine AWR.ent (Ent.of (σ' := [(4, (.s (.c (.loc 27 0 r4.length)))), (6, (.s (.c (.loc 33 0 r6.length)))), (8, (.s (.c (iC r19.1)))), (10, (.s (.c (.loc 47 0 r25.length))))]) (m' := [(27, (.prow 3 (r4.map encInt))), (33, (.prow 3 (r19.2.map encInt))), (47, (.prow 3 (r25.map encInt)))]) ⟨rfl, rfl, rfl, rfl, trivial⟩ ⟨rfl, rfl, rfl, trivial⟩) ?_
                refine AWR.region ?_
                refine AOR.pure (LT.move (v := (.s (.c (.loc 47 0 r25.length)))) rfl) ⟨rfl, trivial⟩ trivial rfl rfl ?_
                refine AOR.pure (LT.move (v := (.s (.c (.loc 27 0 r4.length)))) rfl) ⟨rfl, trivial⟩ trivial rfl rfl ?_
                refine AOR.bind fun r26 hr26 => ?_
                refine AOR.pure (@LT.callF Try.prog _ _ 32 _ _ [(.c (.loc 47 0 r25.length)), (.c (.loc 27 0 r4.length))] _ _ [(47, (.prow 3 (r25.map encInt))), (27, (.prow 3 (r4.map encInt)))] _ _ _ _ (w_laws_eqIntS r25 r4 r26 hr26) rfl cb32 (.cons (.c (.tloc rfl rfl)) (.cons (.c (.tloc rfl rfl)) .nil)) rfl rfl trivial) ⟨rfl, rfl, rfl, trivial⟩ ⟨rfl, rfl, trivial⟩ rfl rfl ?_
                refine AOR.pure (LT.not rfl) ⟨rfl, trivial⟩ trivial rfl rfl ?_
                refine AOR.nil ?_
                refine AWR.cond rfl (fun hc27 => ?_) (fun hc27 => ?_)
                · refine AWR.seq ?_
                  refine AWR.region ?_
                  refine AOR.pure (LT.assign (v := (.s (.c (bC false)))) rfl) ⟨⟨rfl, rfl⟩, trivial⟩ trivial rfl rfl ?_
                  refine AOR.nil ?_
                  refine AWR.ret (FPost.mk (.inr rfl) ⟨rfl, trivial⟩ trivial rfl ⟨PermP.sc, trivial⟩ trivial)
                · refine AWR.skip ?_
                  refine AWR.seq ?_
                  refine AWR.region ?_
                  refine AOR.pure (LT.assign (v := (.s (.c (iC 1)))) rfl) ⟨⟨rfl, rfl⟩, trivial⟩ trivial rfl rfl ?_
                  refine AOR.nil ?_
                  refine AWR.seq ?_
                  refine AWR.region ?_
                  refine AOR.pure (LT.move (v := (.s (.c (.loc 33 0 r6.length)))) rfl) ⟨rfl, trivial⟩ trivial rfl rfl ?_
                  refine AOR.pure (LT.move (v := (.s (.c (iC 1)))) rfl) ⟨rfl, trivial⟩ trivial rfl rfl ?_
                  refine AOR.bind fun u28 hu28 => ?_
                  refine AOR.bind fun r29 hr29 => ?_
                  refine AOR.pure (@LT.callF Try.prog _ _ 52 _ _ [(.c (.loc 33 0 r6.length)), (.c (iC 1))] _ _ [(33, (.prow 3 (r19.2.map encInt)))] _ _ _ _ (w_laws_heldIntS r19.2 1 r29 hr29) rfl cb52 (.cons (.c (.tloc (same_eq hu28) rfl)) (.cons (.c (.same rfl)) .nil)) rfl rfl trivial) ⟨rfl, rfl, rfl, trivial⟩ ⟨rfl, trivial⟩ rfl rfl ?_
                  refine AOR.pure (LT.assign (v := (.s (.c (iC r29)))) rfl) ⟨rfl, trivial⟩ trivial rfl rfl ?_
                  refine AOR.nil ?_
                  refine AWR.seq ?_
                  refine AWR.seq ?_
                  refine AWR.region ?_
                  refine AOR.pure (LT.move (v := (.s (.c (iC r29)))) rfl) ⟨rfl, trivial⟩ trivial rfl rfl ?_
                  refine AOR.pure (LT.lss rfl) ⟨rfl, ⟨rfl, rfl⟩, trivial⟩ trivial rfl rfl ?_
                  refine AOR.nil ?_
                  refine AWR.cond rfl (fun hc30 => ?_) (fun hc30 => ?_)
                  · refine AWR.seq ?_
                    refine AWR.ent (Ent.of (σ' := []) (m' := []) trivial trivial) ?_
                    refine AWR.region ?_
                    refine AOR.pure (LT.assign (v := (.s (.c (bC false)))) rfl) ⟨⟨rfl, rfl⟩, trivial⟩ trivial rfl rfl ?_
                    refine AOR.nil ?_
                    refine AWR.ret (FPost.mk (.inr rfl) ⟨rfl, trivial⟩ trivial rfl ⟨PermP.sc, trivial⟩ trivial)
                  · refine AWR.skip ?_
                    refine AWR.seq ?_
                    refine AWR.seq ?_
                    refine AWR.ent (Ent.of (σ' := [(8, (.s (.c (iC r19.1)))), (9, (.s (.c (iC r29))))]) (m' := []) ⟨rfl, rfl, trivial⟩ trivial) ?_
                    refine AWR.region ?_
                    refine AOR.pure (LT.move (v := (.s (.c (iC r29)))) rfl) ⟨rfl, trivial⟩ trivial rfl rfl ?_
                    refine AOR.pure (LT.move (v := (.s (.c (iC r19.1)))) rfl) ⟨rfl, trivial⟩ trivial rfl rfl ?_
                    refine AOR.pure (LT.neq rfl) ⟨rfl, rfl, trivial⟩ trivial rfl rfl ?_
                    refine AOR.nil ?_
                    refine AWR.cond rfl (fun hc31 => ?_) (fun hc31 => ?_)
                    · refine AWR.seq ?_
                      refine AWR.region ?_
                      refine AOR.pure (LT.assign (v := (.s (.c (bC false)))) rfl) ⟨⟨rfl, rfl⟩, trivial⟩ trivial rfl rfl ?_
                      refine AOR.nil ?_
                      refine AWR.ret (FPost.mk (.inr rfl) ⟨rfl, trivial⟩ trivial rfl ⟨PermP.sc, trivial⟩ trivial)
                    · refine AWR.skip ?_
                      refine AWR.seq ?_
                      refine AWR.region ?_
                      refine AOR.pure (LT.assign (v := (.s (.c (bC true)))) rfl) ⟨⟨rfl, rfl⟩, trivial⟩ trivial rfl rfl ?_
                      refine AOR.nil ?_
                      refine AWR.ret (FPost.mk (.inr rfl) ⟨rfl, trivial⟩ trivial rfl ⟨PermP.sc, trivial⟩ trivial)
set_option maxRecDepth 100000 in
set_option maxHeartbeats 8000000 in
theorem w_spec_l3Set (n : Int) (mask : Int) : ∀ t, m_spec_l3Set n mask = some t → Fw.Fn Try.prog 99 [(.c (iC n)), (.c (iC mask))] [] (.s (.c (.loc 0 0 t.length))) [(0, (.prow 3 (t.map encInt)))] [] [0] := by
  refine Fw.Fn.of (P := Try.prog) (X := [0]) (pn := []) (rs := (fun (t : (List Int)) => [(.c (.loc 0 0 t.length))])) (dfs := (fun (t : (List Int)) => [(0, (.prow 3 (t.map encInt)))])) Try.func99 rfl Try.ntmps99 (Nat.le_of_ble_eq_true rfl) rfl ?_
  intro w0 U0 R0 g0
  unfold m_spec_l3Set
  refine AWR.seq ?_
  refine AWR.region ?_
  refine AOR.pure (LT.assign (v := (.s (.c (sC nilV)))) rfl) ⟨⟨rfl, rfl⟩, trivial⟩ trivial rfl rfl ?_
  refine AOR.nil ?_
  refine AWR.seq ?_
  refine AWR.region ?_
  refine AOR.step (LT.tbuildSlice (n := 21) (enc := encInt) [] ([] : List Int) rfl rfl und40 ti3 rfl rfl rfl rfl (by decide) (fun _ => rfl) rfl) trivial trivial rfl rfl ?_
  refine AOR.pure (LT.assign (v := (.s (.c (.loc 21 0 ([] : List Int).length)))) rfl) ⟨rfl, trivial⟩ trivial rfl rfl ?_
  refine AOR.nil ?_
  refine AWR.seq ?_
  refine AWR.seq ?_
  refine AWR.region ?_
  refine AOR.pure (LT.assign (v := (.s (.c (iC 0)))) rfl) ⟨⟨rfl, rfl⟩, trivial⟩ trivial rfl rfl ?_
  refine AOR.nil ?_
  refine AWR.block ?_
  refine AWR.loop1 (id := 0) (m_spec_l3Set_L1 n mask) (fun s1 => ([(0, (.s (.c (iC n)))), (1, (.s (.c (iC mask)))), (5, (.s (.c (.loc 21 0 s1.2.length)))), (6, (.s (.c (iC s1.1))))], [(21, (.prow 3 (s1.2.map encInt)))])) (fun b15 => ([(5, (.s (.c (.loc 21 0 b15.length))))], [(21, (.prow 3 (b15.map encInt)))])) ?_ (Ent.of ⟨rfl, rfl, rfl, rfl, trivial⟩ ⟨rfl, trivial⟩) rfl (fun b15 _ => ?_)
  · intro s1
    unfold m_spec_l3Set_L1
    refine AWR.seq ?_
    refine AWR.seq ?_
    refine AWR.region ?_
    refine AOR.pure (LT.move (v := (.s (.c (iC s1.1)))) rfl) ⟨rfl, trivial⟩ trivial rfl rfl ?_
    refine AOR.pure (LT.move (v := (.s (.c (iC n)))) rfl) ⟨rfl, trivial⟩ trivial rfl rfl ?_
    refine AOR.pure (LT.lss rfl) ⟨rfl, rfl, trivial⟩ trivial rfl rfl ?_
    refine AOR.nil ?_
    refine AWR.cond rfl (fun hc16 => ?_) (fun hc16 => ?_)
    · refine AWR.skip ?_
      refine AWR.seq ?_
      refine AWR.block ?_
      refine AWR.seq ?_
      refine AWR.region ?_
      refine AOR.pure (LT.move (v := (.s (.c (iC mask)))) rfl) ⟨rfl, trivial⟩ trivial rfl rfl ?_
      refine AOR.pure (LT.move (v := (.s (.c (iC s1.1)))) rfl) ⟨rfl, trivial⟩ trivial rfl rfl ?_
      refine AOR.bind fun u17 hu17 => ?_
      refine AOR.pure (LT.shr rfl (nn_le hu17)) ⟨rfl, rfl, trivial⟩ trivial rfl rfl ?_
      refine AOR.pure (LT.and rfl) ⟨rfl, ⟨rfl, rfl⟩, trivial⟩ trivial rfl rfl ?_
      refine AOR.pure (LT.eql rfl) ⟨rfl, ⟨rfl, rfl⟩, trivial⟩ trivial rfl rfl ?_
      refine AOR.nil ?_
      refine AWR.joinK (fun j20 => ([(0, (.s (.c (iC n)))), (1, (.s (.c (iC mask)))), (5, (.s (.c (.loc 21 0 j20.length)))), (6, (.s (.c (iC s1.1))))], [(21, (.prow 3 (j20.map encInt)))])) ?_ (fun j20 _ => ?_)
      · refine AWR.cond rfl (fun hc21 => ?_) (fun hc21 => ?_)
        · refine AWR.region ?_
          refine AOR.pure (LT.move (v := (.s (.c (.loc 21 0 s1.2.length)))) rfl) ⟨rfl, trivial⟩ trivial rfl rfl ?_
          refine AOR.pure (LT.move (v := (.s (.c (iC s1.1)))) rfl) ⟨rfl, trivial⟩ trivial rfl rfl ?_
          refine AOR.step (LT.tbuildSlice (n := 22) (enc := encInt) [(0, .tmp 19, (.c (iC s1.1)))] ([s1.1] : List Int) rfl rfl und40 ti3 rfl rfl rfl rfl (by decide) (fun _ => rfl) rfl) ⟨rfl, trivial⟩ trivial rfl rfl ?_
          refine AOR.bind fun u22 hu22 => ?_
          refine AOR.step (LT.tappP (enc := encInt) rfl rfl rfl und40 ti3 rfl (by decide) (by decide) (fun _ => rfl) (lim_le hu22)) ⟨rfl, rfl, trivial⟩ ⟨rfl, rfl, trivial⟩ rfl rfl ?_
          refine AOR.pure (LT.assign (v := (.s (.c (.loc 21 0 (s1.2 ++ ([s1.1] : List Int)).length)))) rfl) ⟨rfl, trivial⟩ trivial rfl rfl ?_
          refine AOR.nil ?_
          refine AWR.nil ⟨rfl, Ent.of ⟨rfl, rfl, rfl, rfl, trivial⟩ ⟨rfl, trivial⟩⟩
        · refine AWR.skip ?_
          refine AWR.nil ⟨rfl, Ent.of ⟨rfl, rfl, rfl, rfl, trivial⟩ ⟨rfl, trivial⟩⟩
      · refine AWR.blk ?_
        refine AWR.region ?_
        refine AOR.pure (LT.move (v := (.s (.c (iC s1.1)))) rfl) ⟨rfl, trivial⟩ trivial rfl rfl ?_
        refine AOR.pure (LT.add rfl) ⟨rfl, ⟨rfl, rfl⟩, trivial⟩ trivial rfl rfl ?_
        refine AOR.pure (LT.assign (v := (.s (.c (iC (w64 (s1.1 + 1)))))) rfl) ⟨rfl, trivial⟩ trivial rfl rfl ?_
        refine AOR.nil ?_
        refine AWR.nil ⟨rfl, Ent.of ⟨rfl, rfl, rfl, rfl, trivial⟩ ⟨rfl, trivial⟩⟩
    · refine AWR.exit_end rfl ⟨rfl, Ent.of ⟨rfl, trivial⟩ ⟨rfl, trivial⟩⟩
  · refine AWR.seq ?_
    refine AWR.region ?_
    refine AOR.pure (LT.move (v := (.s (.c (.loc 21 0 b15.length)))) rfl) ⟨rfl, trivial⟩ trivial rfl rfl ?_
    refine AOR.pure (LT.assign (v := (.s (.c (.loc 21 0 b15.length)))) rfl) ⟨rfl, trivial⟩ trivial rfl rfl ?_
    refine AOR.nil ?_
    refine AWR.ent (Ent.of (σ' := [(4, (.s (.c (.loc 21 0 b15.length))))]) (m' := [(21, (.prow 3 (b15.map encInt)))]) ⟨rfl, trivial⟩ ⟨rfl, trivial⟩) ?_
    refine AWR.ent (Ent.mv 21 0 rfl rfl) ?_
    refine AWR.ent (Ent.of (σ' := [(4, (.s (.c (.loc 0 0 b15.length))))]) (m' := [(0, (.prow 3 (b15.map encInt)))]) ⟨rfl, trivial⟩ ⟨rfl, trivial⟩) ?_
    refine AWR.ret (FPost.mk (.inr rfl) ⟨rfl, trivial⟩ ⟨rfl, trivial⟩ rfl ⟨trivial, trivial⟩ ⟨PermO.prow' perm_encInt, trivial⟩)
end Go.Proofs.Ytihibpkbhjpajaa
