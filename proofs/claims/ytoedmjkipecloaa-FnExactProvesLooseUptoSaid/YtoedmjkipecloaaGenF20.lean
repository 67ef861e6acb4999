/- The code computes the models. Written by a program of mine. -/
import Derived.Test.YtoedmjkipecloaaGenF2
import Derived.Test.YtoedmjkipecloaaGenF4
import Derived.Test.YtoedmjkipecloaaGenF1
import Derived.Test.YtoedmjkipecloaaGenF3
import Derived.Test.YtoedmjkipecloaaGenF19
set_option linter.unusedVariables false
set_option linter.unusedSimpArgs false
set_option linter.unnecessarySimpa false
open Go Go.Fw
namespace Go.Proofs.Ytoedmjkipecloaa
set_option maxRecDepth 100000 in
set_option maxHeartbeats 8000000 in
theorem w_laws_FnExactProvesLoose (aT : TTensegrity) (aV : (List Int)) : ∀ t, m_laws_FnExactProvesLoose aT aV = some t → Fw.Fn Try.prog 7 [(.agg [(iC aT.Framework.Graph.Points), (.pv (.xs false (aT.Framework.Graph.Bars.map encTBar))), (.pv (.xs false (aT.Framework.Places.map encTPlace))), (.pv (.xs false (aT.Kinds.map encInt)))]), (.c (.pv (.xs false (aV.map encInt))))] [] (.s (.c (bC t))) [] [] [] := by
  refine Fw.Fn.of (P := Try.prog) (X := []) (pn := []) (rs := (fun (t : Bool) => [(.c (bC t))])) (dfs := (fun (t : Bool) => [])) Try.func7 rfl Try.ntmps7 (Nat.le_of_ble_eq_true rfl) rfl ?_
  intro w0 U0 R0 g0
  unfold m_laws_FnExactProvesLoose
  refine AWR.seq ?_
  refine AWR.region ?_
  refine AOR.step (LT.box (n := 21) (v := (.agg [(iC aT.Framework.Graph.Points), (.pv (.xs false (aT.Framework.Graph.Bars.map encTBar))), (.pv (.xs false (aT.Framework.Places.map encTPlace))), (.pv (.xs false (aT.Kinds.map encInt)))])) rfl sz30 (by exact rfl)) ⟨rfl, trivial⟩ trivial rfl rfl ?_
  refine AOR.pure (LT.assign (v := (.s (.c (bC false)))) rfl) ⟨⟨rfl, rfl⟩, trivial⟩ trivial rfl rfl ?_
  refine AOR.nil ?_
  refine AWR.seq ?_
  refine AWR.seq ?_
  refine AWR.region ?_
  refine AOR.pure (LT.move (v := (.s (.c (.pv (.xs false (aV.map encInt)))))) rfl) ⟨rfl, trivial⟩ trivial rfl rfl ?_
  refine AOR.pure (LT.tlenRO rfl und28) ⟨rfl, trivial⟩ trivial rfl rfl ?_
  refine AOR.pure (LT.gtr rfl) ⟨rfl, ⟨rfl, rfl⟩, trivial⟩ trivial rfl rfl ?_
  refine AOR.nil ?_
  refine AWR.cond rfl (fun hc1 => ?_) (fun hc1 => ?_)
  · refine AWR.seq ?_
    refine AWR.region ?_
    refine AOR.pure (LT.assign (v := (.s (.c (bC true)))) rfl) ⟨⟨rfl, rfl⟩, trivial⟩ trivial rfl rfl ?_
    refine AOR.nil ?_
    refine AWR.ret (FPost.mk (.inr rfl) ⟨rfl, trivial⟩ trivial rfl ⟨PermP.sc, trivial⟩ trivial)
  · refine AWR.skip ?_
    refine AWR.seq ?_
    refine AWR.region ?_
    refine AOR.pure (LT.assign (v := (.s (.c (iC 1048576)))) rfl) ⟨⟨rfl, rfl⟩, trivial⟩ trivial rfl rfl ?_
    refine AOR.nil ?_
    refine AWR.seq ?_
    refine AWR.region ?_
    refine AOR.pure (LT.bloadN (out := [(iC aT.Framework.Graph.Points), (.pv (.xs false (aT.Framework.Graph.Bars.map encTBar))), (.pv (.xs false (aT.Framework.Places.map encTPlace))), (.pv (.xs false (aT.Kinds.map encInt)))]) rfl ag30 (infS inf30) sz30 (by exact rfl) (by exact rfl)) ⟨rfl, trivial⟩ ⟨rfl, trivial⟩ rfl rfl ?_
    refine AOR.pure (LT.move (v := (.s (.c (iC 1048576)))) rfl) ⟨rfl, trivial⟩ trivial rfl rfl ?_
    refine AOR.bind fun r2 hr2 => ?_
    refine AOR.pure (@LT.callF Try.prog _ _ 15 _ _ [(.agg [(iC aT.Framework.Graph.Points), (.pv (.xs false (aT.Framework.Graph.Bars.map encTBar))), (.pv (.xs false (aT.Framework.Places.map encTPlace))), (.pv (.xs false (aT.Kinds.map encInt)))]), (.c (iC 1048576))] _ _ [] _ _ _ _ (w_laws_szTensegrity aT 1048576 r2 hr2) rfl cb15 (.cons (.agg (.cons (.same rfl) (.cons (.same rfl) (.cons (.same rfl) (.cons (.same rfl) .nil))))) (.cons (.c (.same rfl)) .nil)) rfl rfl trivial) ⟨rfl, rfl, rfl, trivial⟩ trivial rfl rfl ?_
    refine AOR.pure (LT.assign (v := (.s (.c (iC r2)))) rfl) ⟨rfl, trivial⟩ trivial rfl rfl ?_
    refine AOR.nil ?_
    refine AWR.seq ?_
    refine AWR.seq ?_
    refine AWR.ent (Ent.of (σ' := [(1, (.s (.c (.pv (.xs false (aV.map encInt)))))), (2, (.s (.c (.pl 21 0)))), (5, (.s (.c (iC r2))))]) (m' := [(21, (.row 30 [[(iC aT.Framework.Graph.Points), (.pv (.xs false (aT.Framework.Graph.Bars.map encTBar))), (.pv (.xs false (aT.Framework.Places.map encTPlace))), (.pv (.xs false (aT.Kinds.map encInt)))]]))]) ⟨rfl, rfl, rfl, trivial⟩ ⟨rfl, trivial⟩) ?_
    refine AWR.region ?_
    refine AOR.pure (LT.move (v := (.s (.c (iC r2)))) rfl) ⟨rfl, trivial⟩ trivial rfl rfl ?_
    refine AOR.pure (LT.lss rfl) ⟨rfl, ⟨rfl, rfl⟩, trivial⟩ trivial rfl rfl ?_
    refine AOR.nil ?_
    refine AWR.cond rfl (fun hc3 => ?_) (fun hc3 => ?_)
    · refine AWR.seq ?_
      refine AWR.region ?_
      refine AOR.pure (LT.assign (v := (.s (.c (bC true)))) rfl) ⟨⟨rfl, rfl⟩, trivial⟩ trivial rfl rfl ?_
      refine AOR.nil ?_
      refine AWR.ret (FPost.mk (.inr rfl) ⟨rfl, trivial⟩ trivial rfl ⟨PermP.sc, trivial⟩ trivial)
    · refine AWR.skip ?_
      refine AWR.seq ?_
      refine AWR.region ?_
      refine AOR.pure (LT.bloadN (out := [(iC aT.Framework.Graph.Points), (.pv (.xs false (aT.Framework.Graph.Bars.map encTBar))), (.pv (.xs false (aT.Framework.Places.map encTPlace))), (.pv (.xs false (aT.Kinds.map encInt)))]) rfl ag30 (infS inf30) sz30 (by exact rfl) (by exact rfl)) ⟨rfl, trivial⟩ ⟨rfl, trivial⟩ rfl rfl ?_
      refine AOR.bind fun r4 hr4 => ?_
      refine AOR.step (@LT.callF Try.prog _ _ 17 _ _ [(.agg [(iC aT.Framework.Graph.Points), (.pv (.xs false (aT.Framework.Graph.Bars.map encTBar))), (.pv (.xs false (aT.Framework.Places.map encTPlace))), (.pv (.xs false (aT.Kinds.map encInt)))])] _ _ [] _ _ _ _ ((show Fw.Fn Try.prog 17 [(.agg [(iC aT.Framework.Graph.Points), (.pv (.xs false (aT.Framework.Graph.Bars.map encTBar))), (.pv (.xs false (aT.Framework.Places.map encTPlace))), (.pv (.xs false (aT.Kinds.map encInt)))])] [] (.s (.agg [(iC r4.Framework.Graph.Points), (.loc 24 0 r4.Framework.Graph.Bars.length), (.loc 25 0 r4.Framework.Places.length), (.loc 26 0 r4.Kinds.length)])) [(24, (.prow 69 (r4.Framework.Graph.Bars.map encTBar))), (25, (.prow 88 (r4.Framework.Places.map encTPlace))), (26, (.prow 3 (r4.Kinds.map encInt)))] [] [24, 25, 26] from Fw.Fn.ren [(0, 24), (1, 25), (2, 26)] (w_laws_toTensegrity aT r4 hr4) rfl)) rfl cb17 (.cons (.agg (.cons (.same rfl) (.cons (.same rfl) (.cons (.same rfl) (.cons (.same rfl) .nil))))) .nil) rfl rfl trivial) ⟨rfl, rfl, trivial⟩ trivial rfl rfl ?_
      refine AOR.pure (LT.move (v := (.s (.c (.pv (.xs false (aV.map encInt)))))) rfl) ⟨rfl, trivial⟩ trivial rfl rfl ?_
      refine AOR.bind fun r5 hr5 => ?_
      refine AOR.step (@LT.callF Try.prog _ _ 23 _ _ [(.c (.pv (.xs false (aV.map encInt))))] _ _ [] _ _ _ _ ((show Fw.Fn Try.prog 23 [(.c (.pv (.xs false (aV.map encInt))))] [] (.s (.c (.loc 28 0 r5.length))) [(28, (.prow 3 (r5.map encInt)))] [] [28] from Fw.Fn.ren [(0, 28)] (w_laws_toIntS aV r5 hr5) rfl)) rfl cb23 (.cons (.c (.same rfl)) .nil) rfl rfl trivial) ⟨rfl, rfl, trivial⟩ trivial rfl rfl ?_
      refine AOR.bind fun r6 hr6 => ?_
      refine AOR.pure (@LT.callF Try.prog _ _ 30 _ _ [(.agg [(iC r4.Framework.Graph.Points), (.loc 24 0 r4.Framework.Graph.Bars.length), (.loc 25 0 r4.Framework.Places.length), (.loc 26 0 r4.Kinds.length)]), (.c (.loc 28 0 r5.length))] _ _ [(24, (.prow 69 (r4.Framework.Graph.Bars.map encTBar))), (25, (.prow 88 (r4.Framework.Places.map encTPlace))), (26, (.prow 3 (r4.Kinds.map encInt))), (28, (.prow 3 (r5.map encInt)))] _ _ _ _ (w_spec_ProvesLoose r4 r5 r6 hr6) rfl cb30 (.cons (.agg (.cons (.same rfl) (.cons (.tloc rfl rfl) (.cons (.tloc rfl rfl) (.cons (.tloc rfl rfl) .nil))))) (.cons (.c (.tloc rfl rfl)) .nil)) rfl rfl trivial) ⟨rfl, rfl, rfl, trivial⟩ ⟨rfl, rfl, rfl, rfl, trivial⟩ rfl rfl ?_
      refine AOR.pure (LT.assign (v := (.s (.c (bC r6)))) rfl) ⟨rfl, trivial⟩ trivial rfl rfl ?_
      refine AOR.nil ?_
      refine AWR.seq ?_
      refine AWR.ent (Ent.of (σ' := [(1, (.s (.c (.pv (.xs false (aV.map encInt)))))), (2, (.s (.c (.pl 21 0)))), (6, (.s (.c (bC r6))))]) (m' := [(21, (.row 30 [[(iC aT.Framework.Graph.Points), (.pv (.xs false (aT.Framework.Graph.Bars.map encTBar))), (.pv (.xs false (aT.Framework.Places.map encTPlace))), (.pv (.xs false (aT.Kinds.map encInt)))]]))]) ⟨rfl, rfl, rfl, trivial⟩ ⟨rfl, trivial⟩) ?_
      refine AWR.region ?_
      refine AOR.pure (LT.bloadN (out := [(iC aT.Framework.Graph.Points), (.pv (.xs false (aT.Framework.Graph.Bars.map encTBar))), (.pv (.xs false (aT.Framework.Places.map encTPlace))), (.pv (.xs false (aT.Kinds.map encInt)))]) rfl ag30 (infS inf30) sz30 (by exact rfl) (by exact rfl)) ⟨rfl, trivial⟩ ⟨rfl, trivial⟩ rfl rfl ?_
      refine AOR.bind fun r7 hr7 => ?_
      refine AOR.step (@LT.callF Try.prog _ _ 17 _ _ [(.agg [(iC aT.Framework.Graph.Points), (.pv (.xs false (aT.Framework.Graph.Bars.map encTBar))), (.pv (.xs false (aT.Framework.Places.map encTPlace))), (.pv (.xs false (aT.Kinds.map encInt)))])] _ _ [] _ _ _ _ ((show Fw.Fn Try.prog 17 [(.agg [(iC aT.Framework.Graph.Points), (.pv (.xs false (aT.Framework.Graph.Bars.map encTBar))), (.pv (.xs false (aT.Framework.Places.map encTPlace))), (.pv (.xs false (aT.Kinds.map encInt)))])] [] (.s (.agg [(iC r7.Framework.Graph.Points), (.loc 31 0 r7.Framework.Graph.Bars.length), (.loc 32 0 r7.Framework.Places.length), (.loc 33 0 r7.Kinds.length)])) [(31, (.prow 69 (r7.Framework.Graph.Bars.map encTBar))), (32, (.prow 88 (r7.Framework.Places.map encTPlace))), (33, (.prow 3 (r7.Kinds.map encInt)))] [] [31, 32, 33] from Fw.Fn.ren [(0, 31), (1, 32), (2, 33)] (w_laws_toTensegrity aT r7 hr7) rfl)) rfl cb17 (.cons (.agg (.cons (.same rfl) (.cons (.same rfl) (.cons (.same rfl) (.cons (.same rfl) .nil))))) .nil) rfl rfl trivial) ⟨rfl, rfl, trivial⟩ trivial rfl rfl ?_
      refine AOR.step (LT.alloc (n := 34) (cells := [(iC 0), (sC nilV), (sC nilV), (sC nilV)]) rfl ti39 rfl rfl rfl) trivial trivial rfl rfl ?_
      refine AOR.step (LT.bstore (v := (.agg [(iC r7.Framework.Graph.Points), (.loc 31 0 r7.Framework.Graph.Bars.length), (.loc 32 0 r7.Framework.Places.length), (.loc 33 0 r7.Kinds.length)])) (out := [(iC r7.Framework.Graph.Points), (.loc 31 0 r7.Framework.Graph.Bars.length), (.loc 32 0 r7.Framework.Places.length), (.loc 33 0 r7.Kinds.length)]) rfl rfl (infS inf39) sz39 (by exact rfl) (by exact Nat.le_of_ble_eq_true rfl) (by exact rfl)) ⟨rfl, rfl, trivial⟩ ⟨rfl, trivial⟩ rfl rfl ?_
      refine AOR.nil ?_
      refine AWR.seq ?_
      refine AWR.region ?_
      refine AOR.pure (LT.move (v := (.s (.c (.pv (.xs false (aV.map encInt)))))) rfl) ⟨rfl, trivial⟩ trivial rfl rfl ?_
      refine AOR.bind fun r8 hr8 => ?_
      refine AOR.step (@LT.callF Try.prog _ _ 23 _ _ [(.c (.pv (.xs false (aV.map encInt))))] _ _ [] _ _ _ _ ((show Fw.Fn Try.prog 23 [(.c (.pv (.xs false (aV.map encInt))))] [] (.s (.c (.loc 36 0 r8.length))) [(36, (.prow 3 (r8.map encInt)))] [] [36] from Fw.Fn.ren [(0, 36)] (w_laws_toIntS aV r8 hr8) rfl)) rfl cb23 (.cons (.c (.same rfl)) .nil) rfl rfl trivial) ⟨rfl, rfl, trivial⟩ trivial rfl rfl ?_
      refine AOR.pure (LT.assign (v := (.s (.c (.loc 36 0 r8.length)))) rfl) ⟨rfl, trivial⟩ trivial rfl rfl ?_
      refine AOR.nil ?_
      refine AWR.seq ?_
      refine AWR.ent (Ent.of (σ' := [(1, (.s (.c (.pv (.xs false (aV.map encInt)))))), (2, (.s (.c (.pl 21 0)))), (6, (.s (.c (bC r6)))), (7, (.s (.c (.pl 34 0)))), (8, (.s (.c (.loc 36 0 r8.length))))]) (m' := [(21, (.row 30 [[(iC aT.Framework.Graph.Points), (.pv (.xs false (aT.Framework.Graph.Bars.map encTBar))), (.pv (.xs false (aT.Framework.Places.map encTPlace))), (.pv (.xs false (aT.Kinds.map encInt)))]])), (31, (.prow 69 (r7.Framework.Graph.Bars.map encTBar))), (32, (.prow 88 (r7.Framework.Places.map encTPlace))), (33, (.prow 3 (r7.Kinds.map encInt))), (34, (.row 39 [[(iC r7.Framework.Graph.Points), (.loc 31 0 r7.Framework.Graph.Bars.length), (.loc 32 0 r7.Framework.Places.length), (.loc 33 0 r7.Kinds.length)]])), (36, (.prow 3 (r8.map encInt)))]) ⟨rfl, rfl, rfl, rfl, rfl, trivial⟩ ⟨rfl, rfl, rfl, rfl, rfl, rfl, trivial⟩) ?_
      refine AWR.region ?_
      refine AOR.pure (LT.bloadN (out := [(iC r7.Framework.Graph.Points), (.loc 31 0 r7.Framework.Graph.Bars.length), (.loc 32 0 r7.Framework.Places.length), (.loc 33 0 r7.Kinds.length)]) rfl ag39 (infS inf39) sz39 (by exact rfl) (by exact rfl)) ⟨rfl, trivial⟩ ⟨rfl, trivial⟩ rfl rfl ?_
      refine AOR.pure (LT.move (v := (.s (.c (.loc 36 0 r8.length)))) rfl) ⟨rfl, trivial⟩ trivial rfl rfl ?_
      refine AOR.bind fun r9 hr9 => ?_
      refine AOR.pure (@LT.callF Try.prog _ _ 31 _ _ [(.agg [(iC r7.Framework.Graph.Points), (.loc 31 0 r7.Framework.Graph.Bars.length), (.loc 32 0 r7.Framework.Places.length), (.loc 33 0 r7.Kinds.length)]), (.c (.loc 36 0 r8.length))] _ _ [(31, (.prow 69 (r7.Framework.Graph.Bars.map encTBar))), (32, (.prow 88 (r7.Framework.Places.map encTPlace))), (33, (.prow 3 (r7.Kinds.map encInt))), (36, (.prow 3 (r8.map encInt)))] _ _ _ _ (w_impl_ProvesLoose r7 r8 r9 hr9) rfl cb31 (.cons (.agg (.cons (.same rfl) (.cons (.tloc rfl rfl) (.cons (.tloc rfl rfl) (.cons (.tloc rfl rfl) .nil))))) (.cons (.c (.tloc rfl rfl)) .nil)) rfl rfl trivial) ⟨rfl, rfl, rfl, trivial⟩ ⟨rfl, rfl, rfl, rfl, trivial⟩ rfl rfl ?_
      refine AOR.pure (LT.assign (v := (.s (.c (bC r9)))) rfl) ⟨rfl, trivial⟩ trivial rfl rfl ?_
      refine AOR.nil ?_
      refine AWR.seq ?_
      refine AWR.seq ?_
      refine AWR.region ?_
      refine AOR.pure (LT.move (v := (.s (.c (bC r9)))) rfl) ⟨rfl, trivial⟩ trivial rfl rfl ?_
      refine AOR.pure (LT.move (v := (.s (.c (bC r6)))) rfl) ⟨rfl, trivial⟩ trivial rfl rfl ?_
      refine AOR.pure (LT.neqB rfl und4) ⟨rfl, rfl, trivial⟩ trivial rfl rfl ?_
      refine AOR.nil ?_
      refine AWR.cond rfl (fun hc10 => ?_) (fun hc10 => ?_)
      · refine AWR.seq ?_
        refine AWR.region ?_
        refine AOR.pure (LT.assign (v := (.s (.c (bC false)))) rfl) ⟨⟨rfl, rfl⟩, trivial⟩ trivial rfl rfl ?_
        refine AOR.nil ?_
        refine AWR.ret (FPost.mk (.inr rfl) ⟨rfl, trivial⟩ trivial rfl ⟨PermP.sc, trivial⟩ trivial)
      · refine AWR.skip ?_
        refine AWR.seq ?_
        refine AWR.seq ?_
        refine AWR.draw mixed ?_
        refine AOD.pure (LT.bloadN (out := [(iC r7.Framework.Graph.Points), (.loc 31 0 r7.Framework.Graph.Bars.length), (.loc 32 0 r7.Framework.Places.length), (.loc 33 0 r7.Kinds.length)]) rfl ag39 (infS inf39) sz39 (by exact rfl) (by exact rfl)) ⟨rfl, trivial⟩ ⟨rfl, trivial⟩ rfl rfl ?_
        refine AOD.pure (LT.bloadN (out := [(iC aT.Framework.Graph.Points), (.pv (.xs false (aT.Framework.Graph.Bars.map encTBar))), (.pv (.xs false (aT.Framework.Places.map encTPlace))), (.pv (.xs false (aT.Kinds.map encInt)))]) rfl ag30 (infS inf30) sz30 (by exact rfl) (by exact rfl)) ⟨rfl, trivial⟩ ⟨rfl, trivial⟩ rfl rfl ?_
        refine AOD.bind fun r11 hr11 => ?_
        refine AOD.step (@LT.callF Try.prog _ _ 17 _ _ [(.agg [(iC aT.Framework.Graph.Points), (.pv (.xs false (aT.Framework.Graph.Bars.map encTBar))), (.pv (.xs false (aT.Framework.Places.map encTPlace))), (.pv (.xs false (aT.Kinds.map encInt)))])] _ _ [] _ _ _ _ ((show Fw.Fn Try.prog 17 [(.agg [(iC aT.Framework.Graph.Points), (.pv (.xs false (aT.Framework.Graph.Bars.map encTBar))), (.pv (.xs false (aT.Framework.Places.map encTPlace))), (.pv (.xs false (aT.Kinds.map encInt)))])] [] (.s (.agg [(iC r11.Framework.Graph.Points), (.loc 39 0 r11.Framework.Graph.Bars.length), (.loc 40 0 r11.Framework.Places.length), (.loc 41 0 r11.Kinds.length)])) [(39, (.prow 69 (r11.Framework.Graph.Bars.map encTBar))), (40, (.prow 88 (r11.Framework.Places.map encTPlace))), (41, (.prow 3 (r11.Kinds.map encInt)))] [] [39, 40, 41] from Fw.Fn.ren [(0, 39), (1, 40), (2, 41)] (w_laws_toTensegrity aT r11 hr11) rfl)) rfl cb17 (.cons (.agg (.cons (.same rfl) (.cons (.same rfl) (.cons (.same rfl) (.cons (.same rfl) .nil))))) .nil) rfl rfl trivial) ⟨rfl, rfl, trivial⟩ trivial rfl rfl ?_
        refine AOD.bind fun r12 hr12 => ?_
        refine AOD.pure (@LT.callF Try.prog _ _ 19 _ _ [(.agg [(iC r7.Framework.Graph.Points), (.loc 31 0 r7.Framework.Graph.Bars.length), (.loc 32 0 r7.Framework.Places.length), (.loc 33 0 r7.Kinds.length)]), (.agg [(iC r11.Framework.Graph.Points), (.loc 39 0 r11.Framework.Graph.Bars.length), (.loc 40 0 r11.Framework.Places.length), (.loc 41 0 r11.Kinds.length)])] _ _ [(31, (.prow 69 (r7.Framework.Graph.Bars.map encTBar))), (32, (.prow 88 (r7.Framework.Places.map encTPlace))), (33, (.prow 3 (r7.Kinds.map encInt))), (39, (.prow 69 (r11.Framework.Graph.Bars.map encTBar))), (40, (.prow 88 (r11.Framework.Places.map encTPlace))), (41, (.prow 3 (r11.Kinds.map encInt)))] _ _ _ _ (w_laws_eqTensegrity r7 r11 r12 hr12) rfl cb19 (.cons (.agg (.cons (.same rfl) (.cons (.tloc rfl rfl) (.cons (.tloc rfl rfl) (.cons (.tloc rfl rfl) .nil))))) (.cons (.agg (.cons (.same rfl) (.cons (.tloc rfl rfl) (.cons (.tloc rfl rfl) (.cons (.tloc rfl rfl) .nil))))) .nil)) rfl rfl trivial) ⟨rfl, rfl, rfl, trivial⟩ ⟨rfl, rfl, rfl, rfl, rfl, rfl, trivial⟩ rfl rfl ?_
        refine AOD.pure (LT.not rfl) ⟨rfl, trivial⟩ trivial rfl rfl ?_
        refine AOD.nil (by kernel_rfl) ?_
        refine AWR.cond rfl (fun hc13 => ?_) (fun hc13 => ?_)
        · refine AWR.seq ?_
          refine AWR.ent (Ent.of (σ' := []) (m' := []) trivial trivial) ?_
          refine AWR.region ?_
          refine AOR.pure (LT.assign (v := (.s (.c (bC false)))) rfl) ⟨⟨rfl, rfl⟩, trivial⟩ trivial rfl rfl ?_
          refine AOR.nil ?_
          refine AWR.ret (FPost.mk (.inr rfl) ⟨rfl, trivial⟩ trivial rfl ⟨PermP.sc, trivial⟩ trivial)
        · refine AWR.skip ?_
          refine AWR.seq ?_
          refine AWR.seq ?_
          refine AWR.ent (Ent.of (σ' := [(1, (.s (.c (.pv (.xs false (aV.map encInt)))))), (8, (.s (.c (.loc 36 0 r8.length))))]) (m' := [(36, (.prow 3 (r8.map encInt)))]) ⟨rfl, rfl, trivial⟩ ⟨rfl, trivial⟩) ?_
          refine AWR.region ?_
          refine AOR.pure (LT.move (v := (.s (.c (.loc 36 0 r8.length)))) rfl) ⟨rfl, trivial⟩ trivial rfl rfl ?_
          refine AOR.pure (LT.move (v := (.s (.c (.pv (.xs false (aV.map encInt)))))) rfl) ⟨rfl, trivial⟩ trivial rfl rfl ?_
          refine AOR.bind fun r14 hr14 => ?_
          refine AOR.step (@LT.callF Try.prog _ _ 23 _ _ [(.c (.pv (.xs false (aV.map encInt))))] _ _ [] _ _ _ _ ((show Fw.Fn Try.prog 23 [(.c (.pv (.xs false (aV.map encInt))))] [] (.s (.c (.loc 44 0 r14.length))) [(44, (.prow 3 (r14.map encInt)))] [] [44] from Fw.Fn.ren [(0, 44)] (w_laws_toIntS aV r14 hr14) rfl)) rfl cb23 (.cons (.c (.same rfl)) .nil) rfl rfl trivial) ⟨rfl, rfl, trivial⟩ trivial rfl rfl ?_
          refine AOR.bind fun r15 hr15 => ?_
          refine AOR.pure (@LT.callF Try.prog _ _ 25 _ _ [(.c (.loc 36 0 r8.length)), (.c (.loc 44 0 r14.length))] _ _ [(36, (.prow 3 (r8.map encInt))), (44, (.prow 3 (r14.map encInt)))] _ _ _ _ (w_laws_eqIntS r8 r14 r15 hr15) rfl cb25 (.cons (.c (.tloc rfl rfl)) (.cons (.c (.tloc rfl rfl)) .nil)) rfl rfl trivial) ⟨rfl, rfl, rfl, trivial⟩ ⟨rfl, rfl, trivial⟩ rfl rfl ?_
          refine AOR.pure (LT.not rfl) ⟨rfl, trivial⟩ trivial rfl rfl ?_
          refine AOR.nil ?_
          refine AWR.cond rfl (fun hc16 => ?_) (fun hc16 => ?_)
          · refine AWR.seq ?_
            refine AWR.region ?_
            refine AOR.pure (LT.assign (v := (.s (.c (bC false)))) rfl) ⟨⟨rfl, rfl⟩, trivial⟩ trivial rfl rfl ?_
            refine AOR.nil ?_
            refine AWR.ret (FPost.mk (.inr rfl) ⟨rfl, trivial⟩ trivial rfl ⟨PermP.sc, trivial⟩ trivial)
          · refine AWR.skip ?_
            refine AWR.seq ?_
            refine AWR.region ?_
            refine AOR.pure (LT.assign (v := (.s (.c (bC true)))) rfl) ⟨⟨rfl, rfl⟩, trivial⟩ trivial rfl rfl ?_
            refine AOR.nil ?_
            refine AWR.ret (FPost.mk (.inr rfl) ⟨rfl, trivial⟩ trivial rfl ⟨PermP.sc, trivial⟩ trivial)
end Go.Proofs.Ytoedmjkipecloaa
