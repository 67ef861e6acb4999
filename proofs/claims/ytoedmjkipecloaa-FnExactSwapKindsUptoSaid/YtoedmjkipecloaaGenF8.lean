/- The code computes the models. Written by a program of mine. -/
import Derived.Test.YtoedmjkipecloaaGenF5
import Derived.Test.YtoedmjkipecloaaGenF6
import Derived.Test.YtoedmjkipecloaaGenF7
set_option linter.unusedVariables false
set_option linter.unusedSimpArgs false
set_option linter.unnecessarySimpa false
open Go Go.Fw
namespace Go.Proofs.Ytoedmjkipecloaa
set_option maxRecDepth 100000 in
set_option maxHeartbeats 8000000 in
theorem w_spec_l10Copy (f : TFramework) : ∀ t, m_spec_l10Copy f = some t → Fw.Fn Try.prog 90 [(.agg [(iC f.Graph.Points), (.pv (.xs false (f.Graph.Bars.map encTBar))), (.pv (.xs false (f.Places.map encTPlace)))])] [] (.s (.agg [(iC t.Graph.Points), (.loc 0 0 t.Graph.Bars.length), (.loc 1 0 t.Places.length)])) [(0, (.prow 69 (t.Graph.Bars.map encTBar))), (1, (.prow 88 (t.Places.map encTPlace)))] [] [0, 1] := by
  refine Fw.Fn.of (P := Try.prog) (X := [0, 1]) (pn := []) (rs := (fun (t : TFramework) => [(.agg [(iC t.Graph.Points), (.loc 0 0 t.Graph.Bars.length), (.loc 1 0 t.Places.length)])])) (dfs := (fun (t : TFramework) => [(0, (.prow 69 (t.Graph.Bars.map encTBar))), (1, (.prow 88 (t.Places.map encTPlace)))])) Try.func90 rfl Try.ntmps90 (Nat.le_of_ble_eq_true rfl) rfl ?_
  intro w0 U0 R0 g0
  unfold m_spec_l10Copy
  refine AWR.seq ?_
  refine AWR.region ?_
  refine AOR.step (LT.box (n := 21) (v := (.agg [(iC f.Graph.Points), (.pv (.xs false (f.Graph.Bars.map encTBar))), (.pv (.xs false (f.Places.map encTPlace)))])) rfl sz37 (by exact rfl)) ⟨rfl, trivial⟩ trivial rfl rfl ?_
  refine AOR.step (LT.alloc (n := 22) (cells := [(iC 0), (sC nilV), (sC nilV)]) rfl ti37 rfl rfl rfl) trivial trivial rfl rfl ?_
  refine AOR.nil ?_
  refine AWR.seq ?_
  refine AWR.draw mixed ?_
  refine AOD.pure (LT.fieldPl rfl fo37_0) ⟨rfl, trivial⟩ trivial rfl rfl ?_
  refine AOD.pure (LT.bloadN (out := [(iC f.Graph.Points), (.pv (.xs false (f.Graph.Bars.map encTBar)))]) rfl ag34 (infS inf34) sz34 (by exact rfl) (by exact rfl)) ⟨rfl, trivial⟩ ⟨rfl, trivial⟩ rfl rfl ?_
  refine AOD.bind fun r1 hr1 => ?_
  refine AOD.step (@LT.callF Try.prog _ _ 119 _ _ [(.agg [(iC f.Graph.Points), (.pv (.xs false (f.Graph.Bars.map encTBar)))])] _ _ [] _ _ _ _ ((show Fw.Fn Try.prog 119 [(.agg [(iC f.Graph.Points), (.pv (.xs false (f.Graph.Bars.map encTBar)))])] [] (.s (.agg [(iC r1.Points), (.loc 24 0 r1.Bars.length)])) [(24, (.prow 69 (r1.Bars.map encTBar)))] [] [24] from Fw.Fn.ren [(0, 24)] (w_spec_l2Copy f.Graph r1 hr1) rfl)) rfl cb119 (.cons (.agg (.cons (.same rfl) (.cons (.same rfl) .nil))) .nil) rfl rfl trivial) ⟨rfl, rfl, trivial⟩ trivial rfl rfl ?_
  refine AOD.step (LT.tbuildSlice (n := 25) (enc := encTPlace) [] ([] : List TPlace) rfl rfl und35 ti88 rfl rfl rfl rfl (by decide) (fun _ => rfl) rfl) trivial trivial rfl rfl ?_
  refine AOD.pure (LT.fieldPl rfl fo37_1) ⟨rfl, trivial⟩ trivial rfl rfl ?_
  refine AOD.pure (LT.bload1 (c := (.pv (.xs false (f.Places.map encTPlace)))) rfl ag35 (by exact rfl)) ⟨rfl, trivial⟩ ⟨rfl, trivial⟩ rfl rfl ?_
  refine AOD.bind fun u2 hu2 => ?_
  refine AOD.step (LT.tappRO (enc := encTPlace) rfl  rfl und35 ti88 rfl (by decide) (by decide) (fun _ => rfl) (lim_le hu2)) ⟨rfl, rfl, trivial⟩ ⟨rfl, trivial⟩ rfl rfl ?_
  refine AOD.pure (LT.build [(0, .tmp 5, (.agg [(iC r1.Points), (.loc 24 0 r1.Bars.length)])), (1, .tmp 9, (.c (.loc 25 0 (([] : List TPlace) ++ f.Places).length)))] rfl rfl pl37 ti37 rfl rfl rfl) ⟨rfl, rfl, trivial⟩ trivial rfl rfl ?_
  refine AOD.step (LT.bstore (v := (.agg [(iC r1.Points), (.loc 24 0 r1.Bars.length), (.loc 25 0 (([] : List TPlace) ++ f.Places).length)])) (out := [(iC r1.Points), (.loc 24 0 r1.Bars.length), (.loc 25 0 (([] : List TPlace) ++ f.Places).length)]) rfl rfl (infS inf37) sz37 (by exact rfl) (by exact Nat.le_of_ble_eq_true rfl) (by exact rfl)) ⟨rfl, rfl, trivial⟩ ⟨rfl, trivial⟩ rfl rfl ?_
  refine AOD.nil (by kernel_rfl) ?_
  refine AWR.ent (Ent.of (σ' := [(2, (.s (.c (.pl 22 0))))]) (m' := [(22, (.row 37 [[(iC r1.Points), (.loc 24 0 r1.Bars.length), (.loc 25 0 (([] : List TPlace) ++ f.Places).length)]])), (24, (.prow 69 (r1.Bars.map encTBar))), (25, (.prow 88 ((([] : List TPlace) ++ f.Places).map encTPlace)))]) ⟨rfl, trivial⟩ ⟨rfl, rfl, rfl, trivial⟩) ?_
  refine AWR.ent (Ent.mv 24 0 rfl rfl) ?_
  refine AWR.ent (Ent.mv 25 1 rfl rfl) ?_
  refine AWR.ent (Ent.of (σ' := [(2, (.s (.c (.pl 22 0))))]) (m' := [(0, (.prow 69 (r1.Bars.map encTBar))), (1, (.prow 88 ((([] : List TPlace) ++ f.Places).map encTPlace))), (22, (.row 37 [[(iC r1.Points), (.loc 0 0 r1.Bars.length), (.loc 1 0 (([] : List TPlace) ++ f.Places).length)]]))]) ⟨rfl, trivial⟩ ⟨rfl, rfl, rfl, trivial⟩) ?_
  refine AWR.ret (FPost.mk (.inr rfl) ⟨⟨_, _, _, rfl, rfl, rfl, ag37, sz37, _, (infS inf37)⟩, trivial⟩ ⟨rfl, rfl, trivial⟩ rfl ⟨⟨PermP.sc, trivial, trivial, trivial⟩, trivial⟩ ⟨PermO.prow' perm_encTBar, PermO.prow' perm_encTPlace, trivial⟩)
set_option maxRecDepth 100000 in
set_option maxHeartbeats 8000000 in
theorem w_spec_l19Copy (tV : TTensegrity) : ∀ t, m_spec_l19Copy tV = some t → Fw.Fn Try.prog 54 [(.agg [(iC tV.Framework.Graph.Points), (.pv (.xs false (tV.Framework.Graph.Bars.map encTBar))), (.pv (.xs false (tV.Framework.Places.map encTPlace))), (.pv (.xs false (tV.Kinds.map encInt)))])] [] (.s (.agg [(iC t.Framework.Graph.Points), (.loc 0 0 t.Framework.Graph.Bars.length), (.loc 1 0 t.Framework.Places.length), (.loc 2 0 t.Kinds.length)])) [(0, (.prow 69 (t.Framework.Graph.Bars.map encTBar))), (1, (.prow 88 (t.Framework.Places.map encTPlace))), (2, (.prow 3 (t.Kinds.map encInt)))] [] [0, 1, 2] := by
  refine Fw.Fn.of (P := Try.prog) (X := [0, 1, 2]) (pn := []) (rs := (fun (t : TTensegrity) => [(.agg [(iC t.Framework.Graph.Points), (.loc 0 0 t.Framework.Graph.Bars.length), (.loc 1 0 t.Framework.Places.length), (.loc 2 0 t.Kinds.length)])])) (dfs := (fun (t : TTensegrity) => [(0, (.prow 69 (t.Framework.Graph.Bars.map encTBar))), (1, (.prow 88 (t.Framework.Places.map encTPlace))), (2, (.prow 3 (t.Kinds.map encInt)))])) Try.func54 rfl Try.ntmps54 (Nat.le_of_ble_eq_true rfl) rfl ?_
  intro w0 U0 R0 g0
  unfold m_spec_l19Copy
  refine AWR.seq ?_
  refine AWR.region ?_
  refine AOR.step (LT.box (n := 21) (v := (.agg [(iC tV.Framework.Graph.Points), (.pv (.xs false (tV.Framework.Graph.Bars.map encTBar))), (.pv (.xs false (tV.Framework.Places.map encTPlace))), (.pv (.xs false (tV.Kinds.map encInt)))])) rfl sz39 (by exact rfl)) ⟨rfl, trivial⟩ trivial rfl rfl ?_
  refine AOR.step (LT.alloc (n := 22) (cells := [(iC 0), (sC nilV), (sC nilV), (sC nilV)]) rfl ti39 rfl rfl rfl) trivial trivial rfl rfl ?_
  refine AOR.nil ?_
  refine AWR.seq ?_
  refine AWR.draw mixed ?_
  refine AOD.pure (LT.fieldPl rfl fo39_0) ⟨rfl, trivial⟩ trivial rfl rfl ?_
  refine AOD.pure (LT.bloadN (out := [(iC tV.Framework.Graph.Points), (.pv (.xs false (tV.Framework.Graph.Bars.map encTBar))), (.pv (.xs false (tV.Framework.Places.map encTPlace)))]) rfl ag37 (infS inf37) sz37 (by exact rfl) (by exact rfl)) ⟨rfl, trivial⟩ ⟨rfl, trivial⟩ rfl rfl ?_
  refine AOD.bind fun r1 hr1 => ?_
  refine AOD.step (@LT.callF Try.prog _ _ 90 _ _ [(.agg [(iC tV.Framework.Graph.Points), (.pv (.xs false (tV.Framework.Graph.Bars.map encTBar))), (.pv (.xs false (tV.Framework.Places.map encTPlace)))])] _ _ [] _ _ _ _ ((show Fw.Fn Try.prog 90 [(.agg [(iC tV.Framework.Graph.Points), (.pv (.xs false (tV.Framework.Graph.Bars.map encTBar))), (.pv (.xs false (tV.Framework.Places.map encTPlace)))])] [] (.s (.agg [(iC r1.Graph.Points), (.loc 24 0 r1.Graph.Bars.length), (.loc 25 0 r1.Places.length)])) [(24, (.prow 69 (r1.Graph.Bars.map encTBar))), (25, (.prow 88 (r1.Places.map encTPlace)))] [] [24, 25] from Fw.Fn.ren [(0, 24), (1, 25)] (w_spec_l10Copy tV.Framework r1 hr1) rfl)) rfl cb90 (.cons (.agg (.cons (.same rfl) (.cons (.same rfl) (.cons (.same rfl) .nil)))) .nil) rfl rfl trivial) ⟨rfl, rfl, trivial⟩ trivial rfl rfl ?_
  refine AOD.step (LT.tbuildSlice (n := 26) (enc := encInt) [] ([] : List Int) rfl rfl und28 ti3 rfl rfl rfl rfl (by decide) (fun _ => rfl) rfl) trivial trivial rfl rfl ?_
  refine AOD.pure (LT.fieldPl rfl fo39_1) ⟨rfl, trivial⟩ trivial rfl rfl ?_
  refine AOD.pure (LT.bload1 (c := (.pv (.xs false (tV.Kinds.map encInt)))) rfl ag28 (by exact rfl)) ⟨rfl, trivial⟩ ⟨rfl, trivial⟩ rfl rfl ?_
  refine AOD.bind fun u2 hu2 => ?_
  refine AOD.step (LT.tappRO (enc := encInt) rfl  rfl und28 ti3 rfl (by decide) (by decide) (fun _ => rfl) (lim_le hu2)) ⟨rfl, rfl, trivial⟩ ⟨rfl, trivial⟩ rfl rfl ?_
  refine AOD.pure (LT.build [(0, .tmp 5, (.agg [(iC r1.Graph.Points), (.loc 24 0 r1.Graph.Bars.length), (.loc 25 0 r1.Places.length)])), (1, .tmp 9, (.c (.loc 26 0 (([] : List Int) ++ tV.Kinds).length)))] rfl rfl pl39 ti39 rfl rfl rfl) ⟨rfl, rfl, trivial⟩ trivial rfl rfl ?_
  refine AOD.step (LT.bstore (v := (.agg [(iC r1.Graph.Points), (.loc 24 0 r1.Graph.Bars.length), (.loc 25 0 r1.Places.length), (.loc 26 0 (([] : List Int) ++ tV.Kinds).length)])) (out := [(iC r1.Graph.Points), (.loc 24 0 r1.Graph.Bars.length), (.loc 25 0 r1.Places.length), (.loc 26 0 (([] : List Int) ++ tV.Kinds).length)]) rfl rfl (infS inf39) sz39 (by exact rfl) (by exact Nat.le_of_ble_eq_true rfl) (by exact rfl)) ⟨rfl, rfl, trivial⟩ ⟨rfl, trivial⟩ rfl rfl ?_
  refine AOD.nil (by kernel_rfl) ?_
  refine AWR.ent (Ent.of (σ' := [(2, (.s (.c (.pl 22 0))))]) (m' := [(22, (.row 39 [[(iC r1.Graph.Points), (.loc 24 0 r1.Graph.Bars.length), (.loc 25 0 r1.Places.length), (.loc 26 0 (([] : List Int) ++ tV.Kinds).length)]])), (24, (.prow 69 (r1.Graph.Bars.map encTBar))), (25, (.prow 88 (r1.Places.map encTPlace))), (26, (.prow 3 ((([] : List Int) ++ tV.Kinds).map encInt)))]) ⟨rfl, trivial⟩ ⟨rfl, rfl, rfl, rfl, trivial⟩) ?_
  refine AWR.ent (Ent.mv 24 0 rfl rfl) ?_
  refine AWR.ent (Ent.mv 25 1 rfl rfl) ?_
  refine AWR.ent (Ent.mv 26 2 rfl rfl) ?_
  refine AWR.ent (Ent.of (σ' := [(2, (.s (.c (.pl 22 0))))]) (m' := [(0, (.prow 69 (r1.Graph.Bars.map encTBar))), (1, (.prow 88 (r1.Places.map encTPlace))), (2, (.prow 3 ((([] : List Int) ++ tV.Kinds).map encInt))), (22, (.row 39 [[(iC r1.Graph.Points), (.loc 0 0 r1.Graph.Bars.length), (.loc 1 0 r1.Places.length), (.loc 2 0 (([] : List Int) ++ tV.Kinds).length)]]))]) ⟨rfl, trivial⟩ ⟨rfl, rfl, rfl, rfl, trivial⟩) ?_
  refine AWR.ret (FPost.mk (.inr rfl) ⟨⟨_, _, _, rfl, rfl, rfl, ag39, sz39, _, (infS inf39)⟩, trivial⟩ ⟨rfl, rfl, rfl, trivial⟩ rfl ⟨⟨PermP.sc, trivial, trivial, trivial, trivial⟩, trivial⟩ ⟨PermO.prow' perm_encTBar, PermO.prow' perm_encTPlace, PermO.prow' perm_encInt, trivial⟩)
set_option maxRecDepth 100000 in
set_option maxHeartbeats 8000000 in
theorem w_spec_SwapKinds (tV : TTensegrity) : ∀ t, m_spec_SwapKinds tV = some t → Fw.Fn Try.prog 16 [(.agg [(iC tV.Framework.Graph.Points), (.pv (.xs false (tV.Framework.Graph.Bars.map encTBar))), (.pv (.xs false (tV.Framework.Places.map encTPlace))), (.pv (.xs false (tV.Kinds.map encInt)))])] [] (.s (.agg [(iC t.Framework.Graph.Points), (.loc 0 0 t.Framework.Graph.Bars.length), (.loc 1 0 t.Framework.Places.length), (.loc 2 0 t.Kinds.length)])) [(0, (.prow 69 (t.Framework.Graph.Bars.map encTBar))), (1, (.prow 88 (t.Framework.Places.map encTPlace))), (2, (.prow 3 (t.Kinds.map encInt)))] [] [0, 1, 2] := by
  refine Fw.Fn.of (P := Try.prog) (X := [0, 1, 2]) (pn := []) (rs := (fun (t : TTensegrity) => [(.agg [(iC t.Framework.Graph.Points), (.loc 0 0 t.Framework.Graph.Bars.length), (.loc 1 0 t.Framework.Places.length), (.loc 2 0 t.Kinds.length)])])) (dfs := (fun (t : TTensegrity) => [(0, (.prow 69 (t.Framework.Graph.Bars.map encTBar))), (1, (.prow 88 (t.Framework.Places.map encTPlace))), (2, (.prow 3 (t.Kinds.map encInt)))])) Try.func16 rfl Try.ntmps16 (Nat.le_of_ble_eq_true rfl) rfl ?_
  intro w0 U0 R0 g0
  unfold m_spec_SwapKinds
  refine AWR.seq ?_
  refine AWR.region ?_
  refine AOR.step (LT.box (n := 21) (v := (.agg [(iC tV.Framework.Graph.Points), (.pv (.xs false (tV.Framework.Graph.Bars.map encTBar))), (.pv (.xs false (tV.Framework.Places.map encTPlace))), (.pv (.xs false (tV.Kinds.map encInt)))])) rfl sz39 (by exact rfl)) ⟨rfl, trivial⟩ trivial rfl rfl ?_
  refine AOR.step (LT.alloc (n := 22) (cells := [(iC 0), (sC nilV), (sC nilV), (sC nilV)]) rfl ti39 rfl rfl rfl) trivial trivial rfl rfl ?_
  refine AOR.nil ?_
  refine AWR.seq ?_
  refine AWR.region ?_
  refine AOR.pure (LT.bloadN (out := [(iC tV.Framework.Graph.Points), (.pv (.xs false (tV.Framework.Graph.Bars.map encTBar))), (.pv (.xs false (tV.Framework.Places.map encTPlace))), (.pv (.xs false (tV.Kinds.map encInt)))]) rfl ag39 (infS inf39) sz39 (by exact rfl) (by exact rfl)) ⟨rfl, trivial⟩ ⟨rfl, trivial⟩ rfl rfl ?_
  refine AOR.bind fun r1 hr1 => ?_
  refine AOR.step (@LT.callF Try.prog _ _ 54 _ _ [(.agg [(iC tV.Framework.Graph.Points), (.pv (.xs false (tV.Framework.Graph.Bars.map encTBar))), (.pv (.xs false (tV.Framework.Places.map encTPlace))), (.pv (.xs false (tV.Kinds.map encInt)))])] _ _ [] _ _ _ _ ((show Fw.Fn Try.prog 54 [(.agg [(iC tV.Framework.Graph.Points), (.pv (.xs false (tV.Framework.Graph.Bars.map encTBar))), (.pv (.xs false (tV.Framework.Places.map encTPlace))), (.pv (.xs false (tV.Kinds.map encInt)))])] [] (.s (.agg [(iC r1.Framework.Graph.Points), (.loc 24 0 r1.Framework.Graph.Bars.length), (.loc 25 0 r1.Framework.Places.length), (.loc 26 0 r1.Kinds.length)])) [(24, (.prow 69 (r1.Framework.Graph.Bars.map encTBar))), (25, (.prow 88 (r1.Framework.Places.map encTPlace))), (26, (.prow 3 (r1.Kinds.map encInt)))] [] [24, 25, 26] from Fw.Fn.ren [(0, 24), (1, 25), (2, 26)] (w_spec_l19Copy tV r1 hr1) rfl)) rfl cb54 (.cons (.agg (.cons (.same rfl) (.cons (.same rfl) (.cons (.same rfl) (.cons (.same rfl) .nil))))) .nil) rfl rfl trivial) ⟨rfl, rfl, trivial⟩ trivial rfl rfl ?_
  refine AOR.step (LT.alloc (n := 27) (cells := [(iC 0), (sC nilV), (sC nilV), (sC nilV)]) rfl ti39 rfl rfl rfl) trivial trivial rfl rfl ?_
  refine AOR.step (LT.bstore (v := (.agg [(iC r1.Framework.Graph.Points), (.loc 24 0 r1.Framework.Graph.Bars.length), (.loc 25 0 r1.Framework.Places.length), (.loc 26 0 r1.Kinds.length)])) (out := [(iC r1.Framework.Graph.Points), (.loc 24 0 r1.Framework.Graph.Bars.length), (.loc 25 0 r1.Framework.Places.length), (.loc 26 0 r1.Kinds.length)]) rfl rfl (infS inf39) sz39 (by exact rfl) (by exact Nat.le_of_ble_eq_true rfl) (by exact rfl)) ⟨rfl, rfl, trivial⟩ ⟨rfl, trivial⟩ rfl rfl ?_
  refine AOR.nil ?_
  refine AWR.seq ?_
  refine AWR.seq ?_
  refine AWR.ent (Ent.of (σ' := [(1, (.s (.c (.pl 21 0)))), (2, (.s (.c (.pl 22 0)))), (3, (.s (.c (.pl 27 0))))]) (m' := [(21, (.row 39 [[(iC tV.Framework.Graph.Points), (.pv (.xs false (tV.Framework.Graph.Bars.map encTBar))), (.pv (.xs false (tV.Framework.Places.map encTPlace))), (.pv (.xs false (tV.Kinds.map encInt)))]])), (22, (.row 39 [[(iC 0), (sC nilV), (sC nilV), (sC nilV)]])), (24, (.prow 69 (r1.Framework.Graph.Bars.map encTBar))), (25, (.prow 88 (r1.Framework.Places.map encTPlace))), (26, (.prow 3 (r1.Kinds.map encInt))), (27, (.row 39 [[(iC r1.Framework.Graph.Points), (.loc 24 0 r1.Framework.Graph.Bars.length), (.loc 25 0 r1.Framework.Places.length), (.loc 26 0 r1.Kinds.length)]]))]) ⟨rfl, rfl, rfl, trivial⟩ ⟨rfl, rfl, rfl, rfl, rfl, rfl, trivial⟩) ?_
  refine AWR.region ?_
  refine AOR.pure (LT.assign (v := (.s (.c (iC 0)))) rfl) ⟨⟨rfl, rfl⟩, trivial⟩ trivial rfl rfl ?_
  refine AOR.nil ?_
  refine AWR.block ?_
  refine AWR.loop1 (id := 0) (m_spec_SwapKinds_L1 tV r1) (fun s2 => ([(1, (.s (.c (.pl 21 0)))), (2, (.s (.c (.pl 22 0)))), (3, (.s (.c (.pl 27 0)))), (4, (.s (.c (iC s2.1))))], [(21, (.row 39 [[(iC tV.Framework.Graph.Points), (.pv (.xs false (tV.Framework.Graph.Bars.map encTBar))), (.pv (.xs false (tV.Framework.Places.map encTPlace))), (.pv (.xs false (tV.Kinds.map encInt)))]])), (22, (.row 39 [[(iC 0), (sC nilV), (sC nilV), (sC nilV)]])), (24, (.prow 69 (r1.Framework.Graph.Bars.map encTBar))), (25, (.prow 88 (r1.Framework.Places.map encTPlace))), (26, (.prow 3 (s2.2.map encInt))), (27, (.row 39 [[(iC r1.Framework.Graph.Points), (.loc 24 0 r1.Framework.Graph.Bars.length), (.loc 25 0 r1.Framework.Places.length), (.loc 26 0 s2.2.length)]]))])) (fun b25 => ([(2, (.s (.c (.pl 22 0)))), (3, (.s (.c (.pl 27 0))))], [(22, (.row 39 [[(iC 0), (sC nilV), (sC nilV), (sC nilV)]])), (24, (.prow 69 (b25.1.map encTBar))), (25, (.prow 88 (b25.2.1.map encTPlace))), (26, (.prow 3 (b25.2.2.1.map encInt))), (27, (.row 39 [[(iC b25.2.2.2), (.loc 24 0 b25.1.length), (.loc 25 0 b25.2.1.length), (.loc 26 0 b25.2.2.1.length)]]))])) ?_ (Ent.of ⟨rfl, rfl, rfl, rfl, trivial⟩ ⟨rfl, rfl, rfl, rfl, rfl, rfl, trivial⟩) rfl (fun b25 _ => ?_)
  · intro s2
    unfold m_spec_SwapKinds_L1
    refine AWR.seq ?_
    refine AWR.seq ?_
    refine AWR.region ?_
    refine AOR.pure (LT.move (v := (.s (.c (iC s2.1)))) rfl) ⟨rfl, trivial⟩ trivial rfl rfl ?_
    refine AOR.pure (LT.fieldPl rfl fo39_1) ⟨rfl, trivial⟩ trivial rfl rfl ?_
    refine AOR.pure (LT.bload1 (c := (.loc 26 0 s2.2.length)) rfl ag28 (by exact rfl)) ⟨rfl, trivial⟩ ⟨rfl, trivial⟩ rfl rfl ?_
    refine AOR.pure (LT.lenLoc rfl und28) ⟨rfl, trivial⟩ trivial rfl rfl ?_
    refine AOR.pure (LT.lss rfl) ⟨rfl, rfl, trivial⟩ trivial rfl rfl ?_
    refine AOR.nil ?_
    refine AWR.cond rfl (fun hc26 => ?_) (fun hc26 => ?_)
    · refine AWR.skip ?_
      refine AWR.seq ?_
      refine AWR.block ?_
      refine AWR.seq ?_
      refine AWR.region ?_
      refine AOR.pure (LT.fieldPl rfl fo39_1) ⟨rfl, trivial⟩ trivial rfl rfl ?_
      refine AOR.pure (LT.bload1 (c := (.pv (.xs false (tV.Kinds.map encInt)))) rfl ag28 (by exact rfl)) ⟨rfl, trivial⟩ ⟨rfl, trivial⟩ rfl rfl ?_
      refine AOR.pure (LT.move (v := (.s (.c (iC s2.1)))) rfl) ⟨rfl, trivial⟩ trivial rfl rfl ?_
      refine AOR.bind fun x27 hx27 => ?_
      refine AOR.pure (LT.tindexRO (enc := encInt) rfl el28 hx27 sz3) ⟨rfl, rfl, trivial⟩ trivial rfl rfl ?_
      refine AOR.pure (LT.loadPx1 rfl ag3) ⟨rfl, trivial⟩ trivial rfl rfl ?_
      refine AOR.nil ?_
      refine AWR.block ?_
      refine AWR.seq ?_
      refine AWR.region ?_
      refine AOR.pure (LT.eql rfl) ⟨rfl, ⟨rfl, rfl⟩, trivial⟩ trivial rfl rfl ?_
      refine AOR.pure (LT.assign (v := (.s (.c (bC (x27 == 1))))) rfl) ⟨rfl, trivial⟩ trivial rfl rfl ?_
      refine AOR.nil ?_
      refine AWR.joinK (fun j32 => ([(1, (.s (.c (.pl 21 0)))), (2, (.s (.c (.pl 22 0)))), (3, (.s (.c (.pl 27 0)))), (4, (.s (.c (iC s2.1))))], [(21, (.row 39 [[(iC tV.Framework.Graph.Points), (.pv (.xs false (tV.Framework.Graph.Bars.map encTBar))), (.pv (.xs false (tV.Framework.Places.map encTPlace))), (.pv (.xs false (tV.Kinds.map encInt)))]])), (22, (.row 39 [[(iC 0), (sC nilV), (sC nilV), (sC nilV)]])), (24, (.prow 69 (r1.Framework.Graph.Bars.map encTBar))), (25, (.prow 88 (r1.Framework.Places.map encTPlace))), (26, (.prow 3 (j32.map encInt))), (27, (.row 39 [[(iC r1.Framework.Graph.Points), (.loc 24 0 r1.Framework.Graph.Bars.length), (.loc 25 0 r1.Framework.Places.length), (.loc 26 0 j32.length)]]))])) ?_ (fun j32 _ => ?_)
      · refine AWR.cond rfl (fun hc33 => ?_) (fun hc33 => ?_)
        · refine AWR.ent (Ent.of (σ' := [(1, (.s (.c (.pl 21 0)))), (2, (.s (.c (.pl 22 0)))), (3, (.s (.c (.pl 27 0)))), (4, (.s (.c (iC s2.1))))]) (m' := [(21, (.row 39 [[(iC tV.Framework.Graph.Points), (.pv (.xs false (tV.Framework.Graph.Bars.map encTBar))), (.pv (.xs false (tV.Framework.Places.map encTPlace))), (.pv (.xs false (tV.Kinds.map encInt)))]])), (22, (.row 39 [[(iC 0), (sC nilV), (sC nilV), (sC nilV)]])), (24, (.prow 69 (r1.Framework.Graph.Bars.map encTBar))), (25, (.prow 88 (r1.Framework.Places.map encTPlace))), (26, (.prow 3 (s2.2.map encInt))), (27, (.row 39 [[(iC r1.Framework.Graph.Points), (.loc 24 0 r1.Framework.Graph.Bars.length), (.loc 25 0 r1.Framework.Places.length), (.loc 26 0 s2.2.length)]]))]) ⟨rfl, rfl, rfl, rfl, trivial⟩ ⟨rfl, rfl, rfl, rfl, rfl, rfl, trivial⟩) ?_
          refine AWR.region ?_
          refine AOR.pure (LT.fieldPl rfl fo39_1) ⟨rfl, trivial⟩ trivial rfl rfl ?_
          refine AOR.pure (LT.bload1 (c := (.loc 26 0 s2.2.length)) rfl ag28 (by exact rfl)) ⟨rfl, trivial⟩ ⟨rfl, trivial⟩ rfl rfl ?_
          refine AOR.pure (LT.move (v := (.s (.c (iC s2.1)))) rfl) ⟨rfl, trivial⟩ trivial rfl rfl ?_
          refine AOR.bind fun x34 hx34 => ?_
          refine AOR.pure (LT.tindexLoc rfl rfl el28 hx34) ⟨rfl, rfl, trivial⟩ ⟨rfl, trivial⟩ rfl rfl ?_
          refine AOR.step (LT.tstore (k := 0) (v := (.c (iC 2))) (b' := 2) rfl rfl (infS inf3) sz3 (by exact rfl) hx34 (by exact rfl) (by exact Nat.le_of_ble_eq_true rfl) (by exact rfl)) ⟨rfl, ⟨rfl, rfl⟩, trivial⟩ ⟨rfl, trivial⟩ rfl rfl ?_
          refine AOR.nil ?_
          refine AWR.nil ⟨rfl, Ent.of ⟨rfl, rfl, rfl, rfl, trivial⟩ ⟨rfl, rfl, rfl, rfl, rfl, (congrArg (fun l1 => (some (Ob.row 39 [[(iC r1.Framework.Graph.Points), (.loc 24 0 r1.Framework.Graph.Bars.length), (.loc 25 0 r1.Framework.Places.length), (.loc 26 0 l1)]]) : Option Ob)) (show s2.2.length = (s2.2.set s2.1.toNat 2).length by simp only [List.length_set])), trivial⟩⟩
        · refine AWR.seq ?_
          refine AWR.ent (Ent.of (σ' := [(1, (.s (.c (.pl 21 0)))), (2, (.s (.c (.pl 22 0)))), (3, (.s (.c (.pl 27 0)))), (4, (.s (.c (iC s2.1)))), (18, (.s (.c (iC x27))))]) (m' := [(21, (.row 39 [[(iC tV.Framework.Graph.Points), (.pv (.xs false (tV.Framework.Graph.Bars.map encTBar))), (.pv (.xs false (tV.Framework.Places.map encTPlace))), (.pv (.xs false (tV.Kinds.map encInt)))]])), (22, (.row 39 [[(iC 0), (sC nilV), (sC nilV), (sC nilV)]])), (24, (.prow 69 (r1.Framework.Graph.Bars.map encTBar))), (25, (.prow 88 (r1.Framework.Places.map encTPlace))), (26, (.prow 3 (s2.2.map encInt))), (27, (.row 39 [[(iC r1.Framework.Graph.Points), (.loc 24 0 r1.Framework.Graph.Bars.length), (.loc 25 0 r1.Framework.Places.length), (.loc 26 0 s2.2.length)]]))]) ⟨rfl, rfl, rfl, rfl, rfl, trivial⟩ ⟨rfl, rfl, rfl, rfl, rfl, rfl, trivial⟩) ?_
          refine AWR.region ?_
          refine AOR.pure (LT.eql rfl) ⟨rfl, ⟨rfl, rfl⟩, trivial⟩ trivial rfl rfl ?_
          refine AOR.pure (LT.assign (v := (.s (.c (bC (x27 == 2))))) rfl) ⟨rfl, trivial⟩ trivial rfl rfl ?_
          refine AOR.nil ?_
          refine AWR.cond rfl (fun hc35 => ?_) (fun hc35 => ?_)
          · refine AWR.region ?_
            refine AOR.pure (LT.fieldPl rfl fo39_1) ⟨rfl, trivial⟩ trivial rfl rfl ?_
            refine AOR.pure (LT.bload1 (c := (.loc 26 0 s2.2.length)) rfl ag28 (by exact rfl)) ⟨rfl, trivial⟩ ⟨rfl, trivial⟩ rfl rfl ?_
            refine AOR.pure (LT.move (v := (.s (.c (iC s2.1)))) rfl) ⟨rfl, trivial⟩ trivial rfl rfl ?_
            refine AOR.bind fun x36 hx36 => ?_
            refine AOR.pure (LT.tindexLoc rfl rfl el28 hx36) ⟨rfl, rfl, trivial⟩ ⟨rfl, trivial⟩ rfl rfl ?_
            refine AOR.step (LT.tstore (k := 0) (v := (.c (iC 1))) (b' := 1) rfl rfl (infS inf3) sz3 (by exact rfl) hx36 (by exact rfl) (by exact Nat.le_of_ble_eq_true rfl) (by exact rfl)) ⟨rfl, ⟨rfl, rfl⟩, trivial⟩ ⟨rfl, trivial⟩ rfl rfl ?_
            refine AOR.nil ?_
            refine AWR.nil ⟨rfl, Ent.of ⟨rfl, rfl, rfl, rfl, trivial⟩ ⟨rfl, rfl, rfl, rfl, rfl, (congrArg (fun l1 => (some (Ob.row 39 [[(iC r1.Framework.Graph.Points), (.loc 24 0 r1.Framework.Graph.Bars.length), (.loc 25 0 r1.Framework.Places.length), (.loc 26 0 l1)]]) : Option Ob)) (show s2.2.length = (s2.2.set s2.1.toNat 1).length by simp only [List.length_set])), trivial⟩⟩
          · refine AWR.skip ?_
            refine AWR.nil ⟨rfl, Ent.of ⟨rfl, rfl, rfl, rfl, trivial⟩ ⟨rfl, rfl, rfl, rfl, rfl, rfl, trivial⟩⟩
      · refine AWR.blk ?_
        refine AWR.blk ?_
        refine AWR.region ?_
        refine AOR.pure (LT.move (v := (.s (.c (iC s2.1)))) rfl) ⟨rfl, trivial⟩ trivial rfl rfl ?_
        refine AOR.pure (LT.add rfl) ⟨rfl, ⟨rfl, rfl⟩, trivial⟩ trivial rfl rfl ?_
        refine AOR.pure (LT.assign (v := (.s (.c (iC (w64 (s2.1 + 1)))))) rfl) ⟨rfl, trivial⟩ trivial rfl rfl ?_
        refine AOR.nil ?_
        refine AWR.nil ⟨rfl, Ent.of ⟨rfl, rfl, rfl, rfl, trivial⟩ ⟨rfl, rfl, rfl, rfl, rfl, rfl, trivial⟩⟩
    · refine AWR.exit_end rfl ⟨rfl, Ent.of ⟨rfl, rfl, trivial⟩ ⟨rfl, rfl, rfl, rfl, rfl, trivial⟩⟩
  · refine AWR.seq ?_
    refine AWR.region ?_
    refine AOR.pure (LT.bloadN (out := [(iC b25.2.2.2), (.loc 24 0 b25.1.length), (.loc 25 0 b25.2.1.length), (.loc 26 0 b25.2.2.1.length)]) rfl ag39 (infS inf39) sz39 (by exact rfl) (by exact rfl)) ⟨rfl, trivial⟩ ⟨rfl, trivial⟩ rfl rfl ?_
    refine AOR.step (LT.bstore (v := (.agg [(iC b25.2.2.2), (.loc 24 0 b25.1.length), (.loc 25 0 b25.2.1.length), (.loc 26 0 b25.2.2.1.length)])) (out := [(iC b25.2.2.2), (.loc 24 0 b25.1.length), (.loc 25 0 b25.2.1.length), (.loc 26 0 b25.2.2.1.length)]) rfl rfl (infS inf39) sz39 (by exact rfl) (by exact Nat.le_of_ble_eq_true rfl) (by exact rfl)) ⟨rfl, rfl, trivial⟩ ⟨rfl, trivial⟩ rfl rfl ?_
    refine AOR.nil ?_
    refine AWR.ent (Ent.of (σ' := [(2, (.s (.c (.pl 22 0))))]) (m' := [(22, (.row 39 [[(iC b25.2.2.2), (.loc 24 0 b25.1.length), (.loc 25 0 b25.2.1.length), (.loc 26 0 b25.2.2.1.length)]])), (24, (.prow 69 (b25.1.map encTBar))), (25, (.prow 88 (b25.2.1.map encTPlace))), (26, (.prow 3 (b25.2.2.1.map encInt)))]) ⟨rfl, trivial⟩ ⟨rfl, rfl, rfl, rfl, trivial⟩) ?_
    refine AWR.ent (Ent.mv 24 0 rfl rfl) ?_
    refine AWR.ent (Ent.mv 25 1 rfl rfl) ?_
    refine AWR.ent (Ent.mv 26 2 rfl rfl) ?_
    refine AWR.ent (Ent.of (σ' := [(2, (.s (.c (.pl 22 0))))]) (m' := [(0, (.prow 69 (b25.1.map encTBar))), (1, (.prow 88 (b25.2.1.map encTPlace))), (2, (.prow 3 (b25.2.2.1.map encInt))), (22, (.row 39 [[(iC b25.2.2.2), (.loc 0 0 b25.1.length), (.loc 1 0 b25.2.1.length), (.loc 2 0 b25.2.2.1.length)]]))]) ⟨rfl, trivial⟩ ⟨rfl, rfl, rfl, rfl, trivial⟩) ?_
    refine AWR.ret (FPost.mk (.inr rfl) ⟨⟨_, _, _, rfl, rfl, rfl, ag39, sz39, _, (infS inf39)⟩, trivial⟩ ⟨rfl, rfl, rfl, trivial⟩ rfl ⟨⟨PermP.sc, trivial, trivial, trivial, trivial⟩, trivial⟩ ⟨PermO.prow' perm_encTBar, PermO.prow' perm_encTPlace, PermO.prow' perm_encInt, trivial⟩)
set_option maxRecDepth 100000 in
set_option maxHeartbeats 8000000 in
theorem w_impl_copyFramework (f : TFramework) : ∀ t, m_impl_copyFramework f = some t → Fw.Fn Try.prog 56 [(.agg [(iC f.Graph.Points), (.pv (.xs false (f.Graph.Bars.map encTBar))), (.pv (.xs false (f.Places.map encTPlace)))])] [] (.s (.agg [(iC t.Graph.Points), (.loc 0 0 t.Graph.Bars.length), (.loc 1 0 t.Places.length)])) [(0, (.prow 69 (t.Graph.Bars.map encTBar))), (1, (.prow 88 (t.Places.map encTPlace)))] [] [0, 1] := by
  refine Fw.Fn.of (P := Try.prog) (X := [0, 1]) (pn := []) (rs := (fun (t : TFramework) => [(.agg [(iC t.Graph.Points), (.loc 0 0 t.Graph.Bars.length), (.loc 1 0 t.Places.length)])])) (dfs := (fun (t : TFramework) => [(0, (.prow 69 (t.Graph.Bars.map encTBar))), (1, (.prow 88 (t.Places.map encTPlace)))])) Try.func56 rfl Try.ntmps56 (Nat.le_of_ble_eq_true rfl) rfl ?_
  intro w0 U0 R0 g0
  unfold m_impl_copyFramework
  refine AWR.seq ?_
  refine AWR.region ?_
  refine AOR.step (LT.box (n := 21) (v := (.agg [(iC f.Graph.Points), (.pv (.xs false (f.Graph.Bars.map encTBar))), (.pv (.xs false (f.Places.map encTPlace)))])) rfl sz37 (by exact rfl)) ⟨rfl, trivial⟩ trivial rfl rfl ?_
  refine AOR.step (LT.alloc (n := 22) (cells := [(iC 0), (sC nilV), (sC nilV)]) rfl ti37 rfl rfl rfl) trivial trivial rfl rfl ?_
  refine AOR.nil ?_
  refine AWR.seq ?_
  refine AWR.draw mixed ?_
  refine AOD.pure (LT.fieldPl rfl fo37_0) ⟨rfl, trivial⟩ trivial rfl rfl ?_
  refine AOD.pure (LT.bloadN (out := [(iC f.Graph.Points), (.pv (.xs false (f.Graph.Bars.map encTBar)))]) rfl ag34 (infS inf34) sz34 (by exact rfl) (by exact rfl)) ⟨rfl, trivial⟩ ⟨rfl, trivial⟩ rfl rfl ?_
  refine AOD.bind fun r1 hr1 => ?_
  refine AOD.step (@LT.callF Try.prog _ _ 92 _ _ [(.agg [(iC f.Graph.Points), (.pv (.xs false (f.Graph.Bars.map encTBar)))])] _ _ [] _ _ _ _ ((show Fw.Fn Try.prog 92 [(.agg [(iC f.Graph.Points), (.pv (.xs false (f.Graph.Bars.map encTBar)))])] [] (.s (.agg [(iC r1.Points), (.loc 24 0 r1.Bars.length)])) [(24, (.prow 69 (r1.Bars.map encTBar)))] [] [24] from Fw.Fn.ren [(0, 24)] (w_impl_copyGraph f.Graph r1 hr1) rfl)) rfl cb92 (.cons (.agg (.cons (.same rfl) (.cons (.same rfl) .nil))) .nil) rfl rfl trivial) ⟨rfl, rfl, trivial⟩ trivial rfl rfl ?_
  refine AOD.step (LT.tbuildSlice (n := 25) (enc := encTPlace) [] ([] : List TPlace) rfl rfl und35 ti88 rfl rfl rfl rfl (by decide) (fun _ => rfl) rfl) trivial trivial rfl rfl ?_
  refine AOD.pure (LT.fieldPl rfl fo37_1) ⟨rfl, trivial⟩ trivial rfl rfl ?_
  refine AOD.pure (LT.bload1 (c := (.pv (.xs false (f.Places.map encTPlace)))) rfl ag35 (by exact rfl)) ⟨rfl, trivial⟩ ⟨rfl, trivial⟩ rfl rfl ?_
  refine AOD.bind fun u2 hu2 => ?_
  refine AOD.step (LT.tappRO (enc := encTPlace) rfl  rfl und35 ti88 rfl (by decide) (by decide) (fun _ => rfl) (lim_le hu2)) ⟨rfl, rfl, trivial⟩ ⟨rfl, trivial⟩ rfl rfl ?_
  refine AOD.pure (LT.build [(0, .tmp 5, (.agg [(iC r1.Points), (.loc 24 0 r1.Bars.length)])), (1, .tmp 9, (.c (.loc 25 0 (([] : List TPlace) ++ f.Places).length)))] rfl rfl pl37 ti37 rfl rfl rfl) ⟨rfl, rfl, trivial⟩ trivial rfl rfl ?_
  refine AOD.step (LT.bstore (v := (.agg [(iC r1.Points), (.loc 24 0 r1.Bars.length), (.loc 25 0 (([] : List TPlace) ++ f.Places).length)])) (out := [(iC r1.Points), (.loc 24 0 r1.Bars.length), (.loc 25 0 (([] : List TPlace) ++ f.Places).length)]) rfl rfl (infS inf37) sz37 (by exact rfl) (by exact Nat.le_of_ble_eq_true rfl) (by exact rfl)) ⟨rfl, rfl, trivial⟩ ⟨rfl, trivial⟩ rfl rfl ?_
  refine AOD.nil (by kernel_rfl) ?_
  refine AWR.ent (Ent.of (σ' := [(2, (.s (.c (.pl 22 0))))]) (m' := [(22, (.row 37 [[(iC r1.Points), (.loc 24 0 r1.Bars.length), (.loc 25 0 (([] : List TPlace) ++ f.Places).length)]])), (24, (.prow 69 (r1.Bars.map encTBar))), (25, (.prow 88 ((([] : List TPlace) ++ f.Places).map encTPlace)))]) ⟨rfl, trivial⟩ ⟨rfl, rfl, rfl, trivial⟩) ?_
  refine AWR.ent (Ent.mv 24 0 rfl rfl) ?_
  refine AWR.ent (Ent.mv 25 1 rfl rfl) ?_
  refine AWR.ent (Ent.of (σ' := [(2, (.s (.c (.pl 22 0))))]) (m' := [(0, (.prow 69 (r1.Bars.map encTBar))), (1, (.prow 88 ((([] : List TPlace) ++ f.Places).map encTPlace))), (22, (.row 37 [[(iC r1.Points), (.loc 0 0 r1.Bars.length), (.loc 1 0 (([] : List TPlace) ++ f.Places).length)]]))]) ⟨rfl, trivial⟩ ⟨rfl, rfl, rfl, trivial⟩) ?_
  refine AWR.ret (FPost.mk (.inr rfl) ⟨⟨_, _, _, rfl, rfl, rfl, ag37, sz37, _, (infS inf37)⟩, trivial⟩ ⟨rfl, rfl, trivial⟩ rfl ⟨⟨PermP.sc, trivial, trivial, trivial⟩, trivial⟩ ⟨PermO.prow' perm_encTBar, PermO.prow' perm_encTPlace, trivial⟩)
set_option maxRecDepth 100000 in
set_option maxHeartbeats 8000000 in
theorem w_impl_SwapKinds (tV : TTensegrity) : ∀ t, m_impl_SwapKinds tV = some t → Fw.Fn Try.prog 18 [(.agg [(iC tV.Framework.Graph.Points), (.pv (.xs false (tV.Framework.Graph.Bars.map encTBar))), (.pv (.xs false (tV.Framework.Places.map encTPlace))), (.pv (.xs false (tV.Kinds.map encInt)))])] [] (.s (.agg [(iC t.Framework.Graph.Points), (.loc 0 0 t.Framework.Graph.Bars.length), (.loc 1 0 t.Framework.Places.length), (.loc 2 0 t.Kinds.length)])) [(0, (.prow 69 (t.Framework.Graph.Bars.map encTBar))), (1, (.prow 88 (t.Framework.Places.map encTPlace))), (2, (.prow 3 (t.Kinds.map encInt)))] [] [0, 1, 2] := by
  refine Fw.Fn.of (P := Try.prog) (X := [0, 1, 2]) (pn := []) (rs := (fun (t : TTensegrity) => [(.agg [(iC t.Framework.Graph.Points), (.loc 0 0 t.Framework.Graph.Bars.length), (.loc 1 0 t.Framework.Places.length), (.loc 2 0 t.Kinds.length)])])) (dfs := (fun (t : TTensegrity) => [(0, (.prow 69 (t.Framework.Graph.Bars.map encTBar))), (1, (.prow 88 (t.Framework.Places.map encTPlace))), (2, (.prow 3 (t.Kinds.map encInt)))])) Try.func18 rfl Try.ntmps18 (Nat.le_of_ble_eq_true rfl) rfl ?_
  intro w0 U0 R0 g0
  unfold m_impl_SwapKinds
  refine AWR.seq ?_
  refine AWR.region ?_
  refine AOR.step (LT.box (n := 21) (v := (.agg [(iC tV.Framework.Graph.Points), (.pv (.xs false (tV.Framework.Graph.Bars.map encTBar))), (.pv (.xs false (tV.Framework.Places.map encTPlace))), (.pv (.xs false (tV.Kinds.map encInt)))])) rfl sz39 (by exact rfl)) ⟨rfl, trivial⟩ trivial rfl rfl ?_
  refine AOR.step (LT.alloc (n := 22) (cells := [(iC 0), (sC nilV), (sC nilV), (sC nilV)]) rfl ti39 rfl rfl rfl) trivial trivial rfl rfl ?_
  refine AOR.nil ?_
  refine AWR.seq ?_
  refine AWR.draw mixed ?_
  refine AOD.pure (LT.fieldPl rfl fo39_0) ⟨rfl, trivial⟩ trivial rfl rfl ?_
  refine AOD.pure (LT.bloadN (out := [(iC tV.Framework.Graph.Points), (.pv (.xs false (tV.Framework.Graph.Bars.map encTBar))), (.pv (.xs false (tV.Framework.Places.map encTPlace)))]) rfl ag37 (infS inf37) sz37 (by exact rfl) (by exact rfl)) ⟨rfl, trivial⟩ ⟨rfl, trivial⟩ rfl rfl ?_
  refine AOD.bind fun r1 hr1 => ?_
  refine AOD.step (@LT.callF Try.prog _ _ 56 _ _ [(.agg [(iC tV.Framework.Graph.Points), (.pv (.xs false (tV.Framework.Graph.Bars.map encTBar))), (.pv (.xs false (tV.Framework.Places.map encTPlace)))])] _ _ [] _ _ _ _ ((show Fw.Fn Try.prog 56 [(.agg [(iC tV.Framework.Graph.Points), (.pv (.xs false (tV.Framework.Graph.Bars.map encTBar))), (.pv (.xs false (tV.Framework.Places.map encTPlace)))])] [] (.s (.agg [(iC r1.Graph.Points), (.loc 24 0 r1.Graph.Bars.length), (.loc 25 0 r1.Places.length)])) [(24, (.prow 69 (r1.Graph.Bars.map encTBar))), (25, (.prow 88 (r1.Places.map encTPlace)))] [] [24, 25] from Fw.Fn.ren [(0, 24), (1, 25)] (w_impl_copyFramework tV.Framework r1 hr1) rfl)) rfl cb56 (.cons (.agg (.cons (.same rfl) (.cons (.same rfl) (.cons (.same rfl) .nil)))) .nil) rfl rfl trivial) ⟨rfl, rfl, trivial⟩ trivial rfl rfl ?_
  refine AOD.pure (LT.fieldPl rfl fo39_1) ⟨rfl, trivial⟩ trivial rfl rfl ?_
  refine AOD.pure (LT.bload1 (c := (.pv (.xs false (tV.Kinds.map encInt)))) rfl ag28 (by exact rfl)) ⟨rfl, trivial⟩ ⟨rfl, trivial⟩ rfl rfl ?_
  refine AOD.bind fun r2 hr2 => ?_
  refine AOD.step (@LT.callF Try.prog _ _ 57 _ _ [(.c (.pv (.xs false (tV.Kinds.map encInt))))] _ _ [] _ _ _ _ ((show Fw.Fn Try.prog 57 [(.c (.pv (.xs false (tV.Kinds.map encInt))))] [] (.s (.c (.loc 27 0 r2.length))) [(27, (.prow 3 (r2.map encInt)))] [] [27] from Fw.Fn.ren [(0, 27)] (w_impl_copyInts tV.Kinds r2 hr2) rfl)) rfl cb57 (.cons (.c (.same rfl)) .nil) rfl rfl trivial) ⟨rfl, rfl, trivial⟩ trivial rfl rfl ?_
  refine AOD.pure (LT.build [(0, .tmp 8, (.agg [(iC r1.Graph.Points), (.loc 24 0 r1.Graph.Bars.length), (.loc 25 0 r1.Places.length)])), (1, .tmp 11, (.c (.loc 27 0 r2.length)))] rfl rfl pl39 ti39 rfl rfl rfl) ⟨rfl, rfl, trivial⟩ trivial rfl rfl ?_
  refine AOD.step (LT.alloc (n := 28) (cells := [(iC 0), (sC nilV), (sC nilV), (sC nilV)]) rfl ti39 rfl rfl rfl) trivial trivial rfl rfl ?_
  refine AOD.step (LT.bstore (v := (.agg [(iC r1.Graph.Points), (.loc 24 0 r1.Graph.Bars.length), (.loc 25 0 r1.Places.length), (.loc 27 0 r2.length)])) (out := [(iC r1.Graph.Points), (.loc 24 0 r1.Graph.Bars.length), (.loc 25 0 r1.Places.length), (.loc 27 0 r2.length)]) rfl rfl (infS inf39) sz39 (by exact rfl) (by exact Nat.le_of_ble_eq_true rfl) (by exact rfl)) ⟨rfl, rfl, trivial⟩ ⟨rfl, trivial⟩ rfl rfl ?_
  refine AOD.nil (by kernel_rfl) ?_
  refine AWR.seq ?_
  refine AWR.seq ?_
  refine AWR.ent (Ent.of (σ' := [(2, (.s (.c (.pl 22 0)))), (3, (.s (.c (.pl 28 0))))]) (m' := [(22, (.row 39 [[(iC 0), (sC nilV), (sC nilV), (sC nilV)]])), (24, (.prow 69 (r1.Graph.Bars.map encTBar))), (25, (.prow 88 (r1.Places.map encTPlace))), (27, (.prow 3 (r2.map encInt))), (28, (.row 39 [[(iC r1.Graph.Points), (.loc 24 0 r1.Graph.Bars.length), (.loc 25 0 r1.Places.length), (.loc 27 0 r2.length)]]))]) ⟨rfl, rfl, trivial⟩ ⟨rfl, rfl, rfl, rfl, rfl, trivial⟩) ?_
  refine AWR.region ?_
  refine AOR.pure (LT.fieldPl rfl fo39_1) ⟨rfl, trivial⟩ trivial rfl rfl ?_
  refine AOR.pure (LT.bload1 (c := (.loc 27 0 r2.length)) rfl ag28 (by exact rfl)) ⟨rfl, trivial⟩ ⟨rfl, trivial⟩ rfl rfl ?_
  refine AOR.pure (LT.lenLoc rfl und28) ⟨rfl, trivial⟩ trivial rfl rfl ?_
  refine AOR.pure (LT.move (v := (.s (.c (iC 0)))) rfl) ⟨⟨rfl, rfl⟩, trivial⟩ trivial rfl rfl ?_
  refine AOR.nil ?_
  refine AWR.block ?_
  refine AWR.loop1 (id := 0) (m_impl_SwapKinds_L1 r1 r2) (fun s3 => ([(2, (.s (.c (.pl 22 0)))), (3, (.s (.c (.pl 28 0)))), (14, (.s (.c (.loc 27 0 s3.2.length)))), (15, (.s (.c (iC (r2.length : Int))))), (16, (.s (.c (iC s3.1))))], [(22, (.row 39 [[(iC 0), (sC nilV), (sC nilV), (sC nilV)]])), (24, (.prow 69 (r1.Graph.Bars.map encTBar))), (25, (.prow 88 (r1.Places.map encTPlace))), (27, (.prow 3 (s3.2.map encInt))), (28, (.row 39 [[(iC r1.Graph.Points), (.loc 24 0 r1.Graph.Bars.length), (.loc 25 0 r1.Places.length), (.loc 27 0 s3.2.length)]]))])) (fun b26 => ([(2, (.s (.c (.pl 22 0)))), (3, (.s (.c (.pl 28 0))))], [(22, (.row 39 [[(iC 0), (sC nilV), (sC nilV), (sC nilV)]])), (24, (.prow 69 (b26.1.map encTBar))), (25, (.prow 88 (b26.2.1.map encTPlace))), (27, (.prow 3 (b26.2.2.1.map encInt))), (28, (.row 39 [[(iC b26.2.2.2), (.loc 24 0 b26.1.length), (.loc 25 0 b26.2.1.length), (.loc 27 0 b26.2.2.1.length)]]))])) ?_ (Ent.of ⟨rfl, rfl, rfl, rfl, rfl, trivial⟩ ⟨rfl, rfl, rfl, rfl, rfl, trivial⟩) rfl (fun b26 _ => ?_)
  · intro s3
    unfold m_impl_SwapKinds_L1
    refine AWR.seq ?_
    refine AWR.region ?_
    refine AOR.pure (LT.lss rfl) ⟨rfl, rfl, trivial⟩ trivial rfl rfl ?_
    refine AOR.nil ?_
    refine AWR.seq ?_
    refine AWR.cond rfl (fun hc27 => ?_) (fun hc27 => ?_)
    · refine AWR.skip ?_
      refine AWR.seq ?_
      refine AWR.block ?_
      refine AWR.seq ?_
      refine AWR.region ?_
      refine AOR.pure (LT.move (v := (.s (.c (iC s3.1)))) rfl) ⟨rfl, trivial⟩ trivial rfl rfl ?_
      refine AOR.bind fun x28 hx28 => ?_
      refine AOR.pure (LT.tindexLoc rfl rfl el28 hx28) ⟨rfl, rfl, trivial⟩ ⟨rfl, trivial⟩ rfl rfl ?_
      refine AOR.pure (LT.tload1 (k := 0) rfl ag3 hx28 (by exact rfl) (by exact rfl)) ⟨rfl, trivial⟩ ⟨rfl, trivial⟩ rfl rfl ?_
      refine AOR.pure (LT.assign (v := (.s (.c (iC s3.1)))) rfl) ⟨rfl, trivial⟩ trivial rfl rfl ?_
      refine AOR.pure (LT.assign (v := (.s (.c (iC x28)))) rfl) ⟨rfl, trivial⟩ trivial rfl rfl ?_
      refine AOR.nil ?_
      refine AWR.seq ?_
      refine AWR.region ?_
      refine AOR.pure (LT.move (v := (.s (.c (iC x28)))) rfl) ⟨rfl, trivial⟩ trivial rfl rfl ?_
      refine AOR.nil ?_
      refine AWR.block ?_
      refine AWR.seq ?_
      refine AWR.region ?_
      refine AOR.pure (LT.eql rfl) ⟨rfl, ⟨rfl, rfl⟩, trivial⟩ trivial rfl rfl ?_
      refine AOR.pure (LT.assign (v := (.s (.c (bC (x28 == 1))))) rfl) ⟨rfl, trivial⟩ trivial rfl rfl ?_
      refine AOR.nil ?_
      refine AWR.joinK (fun j33 => ([(2, (.s (.c (.pl 22 0)))), (3, (.s (.c (.pl 28 0)))), (14, (.s (.c (.loc 27 0 j33.length)))), (15, (.s (.c (iC (r2.length : Int))))), (16, (.s (.c (iC s3.1))))], [(22, (.row 39 [[(iC 0), (sC nilV), (sC nilV), (sC nilV)]])), (24, (.prow 69 (r1.Graph.Bars.map encTBar))), (25, (.prow 88 (r1.Places.map encTPlace))), (27, (.prow 3 (j33.map encInt))), (28, (.row 39 [[(iC r1.Graph.Points), (.loc 24 0 r1.Graph.Bars.length), (.loc 25 0 r1.Places.length), (.loc 27 0 j33.length)]]))])) ?_ (fun j33 _ => ?_)
      · refine AWR.cond rfl (fun hc34 => ?_) (fun hc34 => ?_)
        · refine AWR.region ?_
          refine AOR.pure (LT.fieldPl rfl fo39_1) ⟨rfl, trivial⟩ trivial rfl rfl ?_
          refine AOR.pure (LT.bload1 (c := (.loc 27 0 s3.2.length)) rfl ag28 (by exact rfl)) ⟨rfl, trivial⟩ ⟨rfl, trivial⟩ rfl rfl ?_
          refine AOR.pure (LT.move (v := (.s (.c (iC s3.1)))) rfl) ⟨rfl, trivial⟩ trivial rfl rfl ?_
          refine AOR.bind fun x35 hx35 => ?_
          refine AOR.pure (LT.tindexLoc rfl rfl el28 hx35) ⟨rfl, rfl, trivial⟩ ⟨rfl, trivial⟩ rfl rfl ?_
          refine AOR.step (LT.tstore (k := 0) (v := (.c (iC 2))) (b' := 2) rfl rfl (infS inf3) sz3 (by exact rfl) hx35 (by exact rfl) (by exact Nat.le_of_ble_eq_true rfl) (by exact rfl)) ⟨rfl, ⟨rfl, rfl⟩, trivial⟩ ⟨rfl, trivial⟩ rfl rfl ?_
          refine AOR.nil ?_
          refine AWR.nil ⟨rfl, Ent.of ⟨rfl, rfl, (congrArg (fun l1 => (some (AV.s (.c (.loc 27 0 l1))) : Option AV)) (show s3.2.length = (s3.2.set s3.1.toNat 2).length by simp only [List.length_set])), rfl, rfl, trivial⟩ ⟨rfl, rfl, rfl, rfl, (congrArg (fun l1 => (some (Ob.row 39 [[(iC r1.Graph.Points), (.loc 24 0 r1.Graph.Bars.length), (.loc 25 0 r1.Places.length), (.loc 27 0 l1)]]) : Option Ob)) (show s3.2.length = (s3.2.set s3.1.toNat 2).length by simp only [List.length_set])), trivial⟩⟩
        · refine AWR.seq ?_
          refine AWR.region ?_
          refine AOR.pure (LT.eql rfl) ⟨rfl, ⟨rfl, rfl⟩, trivial⟩ trivial rfl rfl ?_
          refine AOR.pure (LT.assign (v := (.s (.c (bC (x28 == 2))))) rfl) ⟨rfl, trivial⟩ trivial rfl rfl ?_
          refine AOR.nil ?_
          refine AWR.cond rfl (fun hc36 => ?_) (fun hc36 => ?_)
          · refine AWR.ent (Ent.of (σ' := [(2, (.s (.c (.pl 22 0)))), (3, (.s (.c (.pl 28 0)))), (4, (.s (.c (iC s3.1)))), (14, (.s (.c (.loc 27 0 s3.2.length)))), (15, (.s (.c (iC (r2.length : Int))))), (16, (.s (.c (iC s3.1))))]) (m' := [(22, (.row 39 [[(iC 0), (sC nilV), (sC nilV), (sC nilV)]])), (24, (.prow 69 (r1.Graph.Bars.map encTBar))), (25, (.prow 88 (r1.Places.map encTPlace))), (27, (.prow 3 (s3.2.map encInt))), (28, (.row 39 [[(iC r1.Graph.Points), (.loc 24 0 r1.Graph.Bars.length), (.loc 25 0 r1.Places.length), (.loc 27 0 s3.2.length)]]))]) ⟨rfl, rfl, rfl, rfl, rfl, rfl, trivial⟩ ⟨rfl, rfl, rfl, rfl, rfl, trivial⟩) ?_
            refine AWR.region ?_
            refine AOR.pure (LT.fieldPl rfl fo39_1) ⟨rfl, trivial⟩ trivial rfl rfl ?_
            refine AOR.pure (LT.bload1 (c := (.loc 27 0 s3.2.length)) rfl ag28 (by exact rfl)) ⟨rfl, trivial⟩ ⟨rfl, trivial⟩ rfl rfl ?_
            refine AOR.pure (LT.move (v := (.s (.c (iC s3.1)))) rfl) ⟨rfl, trivial⟩ trivial rfl rfl ?_
            refine AOR.bind fun x37 hx37 => ?_
            refine AOR.pure (LT.tindexLoc rfl rfl el28 hx37) ⟨rfl, rfl, trivial⟩ ⟨rfl, trivial⟩ rfl rfl ?_
            refine AOR.step (LT.tstore (k := 0) (v := (.c (iC 1))) (b' := 1) rfl rfl (infS inf3) sz3 (by exact rfl) hx37 (by exact rfl) (by exact Nat.le_of_ble_eq_true rfl) (by exact rfl)) ⟨rfl, ⟨rfl, rfl⟩, trivial⟩ ⟨rfl, trivial⟩ rfl rfl ?_
            refine AOR.nil ?_
            refine AWR.nil ⟨rfl, Ent.of ⟨rfl, rfl, (congrArg (fun l1 => (some (AV.s (.c (.loc 27 0 l1))) : Option AV)) (show s3.2.length = (s3.2.set s3.1.toNat 1).length by simp only [List.length_set])), rfl, rfl, trivial⟩ ⟨rfl, rfl, rfl, rfl, (congrArg (fun l1 => (some (Ob.row 39 [[(iC r1.Graph.Points), (.loc 24 0 r1.Graph.Bars.length), (.loc 25 0 r1.Places.length), (.loc 27 0 l1)]]) : Option Ob)) (show s3.2.length = (s3.2.set s3.1.toNat 1).length by simp only [List.length_set])), trivial⟩⟩
          · refine AWR.skip ?_
            refine AWR.nil ⟨rfl, Ent.of ⟨rfl, rfl, rfl, rfl, rfl, trivial⟩ ⟨rfl, rfl, rfl, rfl, rfl, trivial⟩⟩
      · refine AWR.blk ?_
        refine AWR.blk ?_
        refine AWR.region ?_
        refine AOR.pure (LT.add rfl) ⟨rfl, ⟨rfl, rfl⟩, trivial⟩ trivial rfl rfl ?_
        refine AOR.pure (LT.move (v := (.s (.c (iC (w64 (s3.1 + 1)))))) rfl) ⟨rfl, trivial⟩ trivial rfl rfl ?_
        refine AOR.nil ?_
        refine AWR.nil ⟨rfl, Ent.of ⟨rfl, rfl, rfl, rfl, rfl, trivial⟩ ⟨rfl, rfl, rfl, rfl, rfl, trivial⟩⟩
    · refine AWR.exit_end rfl ⟨rfl, Ent.of ⟨rfl, rfl, trivial⟩ ⟨rfl, rfl, rfl, rfl, rfl, trivial⟩⟩
  · refine AWR.seq ?_
    refine AWR.region ?_
    refine AOR.pure (LT.bloadN (out := [(iC b26.2.2.2), (.loc 24 0 b26.1.length), (.loc 25 0 b26.2.1.length), (.loc 27 0 b26.2.2.1.length)]) rfl ag39 (infS inf39) sz39 (by exact rfl) (by exact rfl)) ⟨rfl, trivial⟩ ⟨rfl, trivial⟩ rfl rfl ?_
    refine AOR.step (LT.bstore (v := (.agg [(iC b26.2.2.2), (.loc 24 0 b26.1.length), (.loc 25 0 b26.2.1.length), (.loc 27 0 b26.2.2.1.length)])) (out := [(iC b26.2.2.2), (.loc 24 0 b26.1.length), (.loc 25 0 b26.2.1.length), (.loc 27 0 b26.2.2.1.length)]) rfl rfl (infS inf39) sz39 (by exact rfl) (by exact Nat.le_of_ble_eq_true rfl) (by exact rfl)) ⟨rfl, rfl, trivial⟩ ⟨rfl, trivial⟩ rfl rfl ?_
    refine AOR.nil ?_
    refine AWR.ent (Ent.of (σ' := [(2, (.s (.c (.pl 22 0))))]) (m' := [(22, (.row 39 [[(iC b26.2.2.2), (.loc 24 0 b26.1.length), (.loc 25 0 b26.2.1.length), (.loc 27 0 b26.2.2.1.length)]])), (24, (.prow 69 (b26.1.map encTBar))), (25, (.prow 88 (b26.2.1.map encTPlace))), (27, (.prow 3 (b26.2.2.1.map encInt)))]) ⟨rfl, trivial⟩ ⟨rfl, rfl, rfl, rfl, trivial⟩) ?_
    refine AWR.ent (Ent.mv 24 0 rfl rfl) ?_
    refine AWR.ent (Ent.mv 25 1 rfl rfl) ?_
    refine AWR.ent (Ent.mv 27 2 rfl rfl) ?_
    refine AWR.ent (Ent.of (σ' := [(2, (.s (.c (.pl 22 0))))]) (m' := [(0, (.prow 69 (b26.1.map encTBar))), (1, (.prow 88 (b26.2.1.map encTPlace))), (2, (.prow 3 (b26.2.2.1.map encInt))), (22, (.row 39 [[(iC b26.2.2.2), (.loc 0 0 b26.1.length), (.loc 1 0 b26.2.1.length), (.loc 2 0 b26.2.2.1.length)]]))]) ⟨rfl, trivial⟩ ⟨rfl, rfl, rfl, rfl, trivial⟩) ?_
    refine AWR.ret (FPost.mk (.inr rfl) ⟨⟨_, _, _, rfl, rfl, rfl, ag39, sz39, _, (infS inf39)⟩, trivial⟩ ⟨rfl, rfl, rfl, trivial⟩ rfl ⟨⟨PermP.sc, trivial, trivial, trivial, trivial⟩, trivial⟩ ⟨PermO.prow' perm_encTBar, PermO.prow' perm_encTPlace, PermO.prow' perm_encInt, trivial⟩)
set_option maxRecDepth 100000 in
set_option maxHeartbeats 8000000 in
theorem w_laws_markPlaceS (a : (List TPlace)) (k : Int) : ∀ t, m_laws_markPlaceS a k = some t → Fw.Fn Try.prog 94 [(.c (.loc 0 0 a.length)), (.c (iC k))] [(0, (.prow 88 (a.map encTPlace)))] (.s (.c (iC t.1))) [(0, (.prow 88 (t.2.map encTPlace)))] [0] [] := by
  refine Fw.Fn.of (P := Try.prog) (X := []) (pn := [0]) (rs := (fun (t : (Int × (List TPlace))) => [(.c (iC t.1))])) (dfs := (fun (t : (Int × (List TPlace))) => [(0, (.prow 88 (t.2.map encTPlace)))])) Try.func94 rfl Try.ntmps94 (Nat.le_of_ble_eq_true rfl) rfl ?_
  intro w0 U0 R0 g0
  unfold m_laws_markPlaceS
  refine AWR.seq ?_
  refine AWR.region ?_
  refine AOR.pure (LT.assign (v := (.s (.c (iC 0)))) rfl) ⟨⟨rfl, rfl⟩, trivial⟩ trivial rfl rfl ?_
  refine AOR.nil ?_
  refine AWR.seq ?_
  refine AWR.seq ?_
  refine AWR.region ?_
  refine AOR.pure (LT.assign (v := (.s (.c (iC 0)))) rfl) ⟨⟨rfl, rfl⟩, trivial⟩ trivial rfl rfl ?_
  refine AOR.nil ?_
  refine AWR.block ?_
  refine AWR.loop1 (id := 0) (m_laws_markPlaceS_L1) (fun s1 => ([(0, (.s (.c (.loc 0 0 s1.2.2.length)))), (1, (.s (.c (iC s1.1)))), (5, (.s (.c (iC s1.2.1))))], [(0, (.prow 88 (s1.2.2.map encTPlace)))])) (fun b8 => ([(1, (.s (.c (iC b8.1))))], [(0, (.prow 88 (b8.2.map encTPlace)))])) ?_ (Ent.of ⟨rfl, rfl, rfl, trivial⟩ ⟨rfl, trivial⟩) rfl (fun b8 _ => ?_)
  · intro s1
    unfold m_laws_markPlaceS_L1
    refine AWR.seq ?_
    refine AWR.seq ?_
    refine AWR.region ?_
    refine AOR.pure (LT.move (v := (.s (.c (iC s1.2.1)))) rfl) ⟨rfl, trivial⟩ trivial rfl rfl ?_
    refine AOR.pure (LT.move (v := (.s (.c (.loc 0 0 s1.2.2.length)))) rfl) ⟨rfl, trivial⟩ trivial rfl rfl ?_
    refine AOR.pure (LT.lenLoc rfl und35) ⟨rfl, trivial⟩ trivial rfl rfl ?_
    refine AOR.pure (LT.lss rfl) ⟨rfl, rfl, trivial⟩ trivial rfl rfl ?_
    refine AOR.nil ?_
    refine AWR.cond rfl (fun hc9 => ?_) (fun hc9 => ?_)
    · refine AWR.skip ?_
      refine AWR.seq ?_
      refine AWR.block ?_
      refine AWR.seq ?_
      refine AWR.region ?_
      refine AOR.pure (LT.move (v := (.s (.c (.loc 0 0 s1.2.2.length)))) rfl) ⟨rfl, trivial⟩ trivial rfl rfl ?_
      refine AOR.pure (LT.move (v := (.s (.c (iC s1.2.1)))) rfl) ⟨rfl, trivial⟩ trivial rfl rfl ?_
      refine AOR.pure (LT.move (v := (.s (.c (iC s1.1)))) rfl) ⟨rfl, trivial⟩ trivial rfl rfl ?_
      refine AOR.bind fun x10 hx10 => ?_
      refine AOR.pure (LT.tindexLoc rfl rfl el35 hx10) ⟨rfl, rfl, trivial⟩ ⟨rfl, trivial⟩ rfl rfl ?_
      refine AOR.pure (LT.fieldPl rfl fo88_0) ⟨rfl, trivial⟩ trivial rfl rfl ?_
      refine AOR.step (LT.tstore (k := 0) (v := (.c (iC s1.1))) (b' := (TPlace.mk s1.1 x10.Y)) rfl rfl (infS inf3) sz3 (by exact rfl) hx10 (by exact rfl) (by exact Nat.le_of_ble_eq_true rfl) (by exact rfl)) ⟨rfl, rfl, trivial⟩ ⟨rfl, trivial⟩ rfl rfl ?_
      refine AOR.nil ?_
      refine AWR.seq ?_
      refine AWR.ent (Ent.of (σ' := [(0, (.s (.c (.loc 0 0 s1.2.2.length)))), (1, (.s (.c (iC s1.1)))), (5, (.s (.c (iC s1.2.1))))]) (m' := [(0, (.prow 88 ((s1.2.2.set s1.2.1.toNat (TPlace.mk s1.1 x10.Y)).map encTPlace)))]) ⟨rfl, rfl, rfl, trivial⟩ ⟨rfl, trivial⟩) ?_
      refine AWR.region ?_
      refine AOR.pure (LT.move (v := (.s (.c (iC s1.1)))) rfl) ⟨rfl, trivial⟩ trivial rfl rfl ?_
      refine AOR.pure (LT.add rfl) ⟨rfl, ⟨rfl, rfl⟩, trivial⟩ trivial rfl rfl ?_
      refine AOR.pure (LT.assign (v := (.s (.c (iC (w64 (s1.1 + 1)))))) rfl) ⟨rfl, trivial⟩ trivial rfl rfl ?_
      refine AOR.nil ?_
      refine AWR.seq ?_
      refine AWR.region ?_
      refine AOR.pure (LT.move (v := (.s (.c (.loc 0 0 s1.2.2.length)))) rfl) ⟨rfl, trivial⟩ trivial rfl rfl ?_
      refine AOR.pure (LT.move (v := (.s (.c (iC s1.2.1)))) rfl) ⟨rfl, trivial⟩ trivial rfl rfl ?_
      refine AOR.pure (LT.move (v := (.s (.c (iC (w64 (s1.1 + 1)))))) rfl) ⟨rfl, trivial⟩ trivial rfl rfl ?_
      refine AOR.bind fun x11 hx11 => ?_
      refine AOR.pure (LT.tindexLoc (show s1.2.2.length = (s1.2.2.set s1.2.1.toNat (TPlace.mk s1.1 x10.Y)).length by simp only [List.length_set]) rfl el35 hx11) ⟨rfl, rfl, trivial⟩ ⟨rfl, trivial⟩ rfl rfl ?_
      refine AOR.pure (LT.fieldPl rfl fo88_1) ⟨rfl, trivial⟩ trivial rfl rfl ?_
      refine AOR.step (LT.tstore (k := 1) (v := (.c (iC (w64 (s1.1 + 1))))) (b' := (TPlace.mk x11.X (w64 (s1.1 + 1)))) rfl rfl (infS inf3) sz3 (by exact rfl) hx11 (by exact rfl) (by exact Nat.le_of_ble_eq_true rfl) (by exact rfl)) ⟨rfl, rfl, trivial⟩ ⟨rfl, trivial⟩ rfl rfl ?_
      refine AOR.nil ?_
      refine AWR.ent (Ent.of (σ' := [(0, (.s (.c (.loc 0 0 s1.2.2.length)))), (1, (.s (.c (iC (w64 (s1.1 + 1)))))), (5, (.s (.c (iC s1.2.1))))]) (m' := [(0, (.prow 88 (((s1.2.2.set s1.2.1.toNat (TPlace.mk s1.1 x10.Y)).set s1.2.1.toNat (TPlace.mk x11.X (w64 (s1.1 + 1)))).map encTPlace)))]) ⟨rfl, rfl, rfl, trivial⟩ ⟨rfl, trivial⟩) ?_
      refine AWR.region ?_
      refine AOR.pure (LT.move (v := (.s (.c (iC (w64 (s1.1 + 1)))))) rfl) ⟨rfl, trivial⟩ trivial rfl rfl ?_
      refine AOR.pure (LT.add rfl) ⟨rfl, ⟨rfl, rfl⟩, trivial⟩ trivial rfl rfl ?_
      refine AOR.pure (LT.assign (v := (.s (.c (iC (w64 ((w64 (s1.1 + 1)) + 1)))))) rfl) ⟨rfl, trivial⟩ trivial rfl rfl ?_
      refine AOR.nil ?_
      refine AWR.blk ?_
      refine AWR.region ?_
      refine AOR.pure (LT.move (v := (.s (.c (iC s1.2.1)))) rfl) ⟨rfl, trivial⟩ trivial rfl rfl ?_
      refine AOR.pure (LT.add rfl) ⟨rfl, ⟨rfl, rfl⟩, trivial⟩ trivial rfl rfl ?_
      refine AOR.pure (LT.assign (v := (.s (.c (iC (w64 (s1.2.1 + 1)))))) rfl) ⟨rfl, trivial⟩ trivial rfl rfl ?_
      refine AOR.nil ?_
      refine AWR.nil ⟨rfl, Ent.of ⟨(congrArg (fun l1 => (some (AV.s (.c (.loc 0 0 l1))) : Option AV)) (show s1.2.2.length = ((s1.2.2.set s1.2.1.toNat (TPlace.mk s1.1 x10.Y)).set s1.2.1.toNat (TPlace.mk x11.X (w64 (s1.1 + 1)))).length by simp only [List.length_set])), rfl, rfl, trivial⟩ ⟨rfl, trivial⟩⟩
    · refine AWR.exit_end rfl ⟨rfl, Ent.of ⟨rfl, trivial⟩ ⟨rfl, trivial⟩⟩
  · refine AWR.seq ?_
    refine AWR.region ?_
    refine AOR.pure (LT.move (v := (.s (.c (iC b8.1)))) rfl) ⟨rfl, trivial⟩ trivial rfl rfl ?_
    refine AOR.pure (LT.assign (v := (.s (.c (iC b8.1)))) rfl) ⟨rfl, trivial⟩ trivial rfl rfl ?_
    refine AOR.nil ?_
    refine AWR.ret (FPost.mk (.inr rfl) ⟨rfl, trivial⟩ ⟨rfl, trivial⟩ rfl ⟨PermP.sc, trivial⟩ ⟨PermO.prow' perm_encTPlace, trivial⟩)
set_option maxRecDepth 100000 in
set_option maxHeartbeats 8000000 in
theorem w_laws_markFramework (a : TFramework) (k : Int) : ∀ t, m_laws_markFramework a k = some t → Fw.Fn Try.prog 59 [(.agg [(iC a.Graph.Points), (.loc 0 0 a.Graph.Bars.length), (.loc 1 0 a.Places.length)]), (.c (iC k))] [(0, (.prow 69 (a.Graph.Bars.map encTBar))), (1, (.prow 88 (a.Places.map encTPlace)))] (.s (.c (iC t.1))) [(0, (.prow 69 (t.2.1.map encTBar))), (1, (.prow 88 (t.2.2.map encTPlace)))] [0, 1] [] := by
  refine Fw.Fn.of (P := Try.prog) (X := []) (pn := [0, 1]) (rs := (fun (t : (Int × (List TBar) × (List TPlace))) => [(.c (iC t.1))])) (dfs := (fun (t : (Int × (List TBar) × (List TPlace))) => [(0, (.prow 69 (t.2.1.map encTBar))), (1, (.prow 88 (t.2.2.map encTPlace)))])) Try.func59 rfl Try.ntmps59 (Nat.le_of_ble_eq_true rfl) rfl ?_
  intro w0 U0 R0 g0
  unfold m_laws_markFramework
  refine AWR.seq ?_
  refine AWR.region ?_
  refine AOR.step (LT.box (n := 21) (v := (.agg [(iC a.Graph.Points), (.loc 0 0 a.Graph.Bars.length), (.loc 1 0 a.Places.length)])) rfl sz37 (by exact rfl)) ⟨rfl, trivial⟩ trivial rfl rfl ?_
  refine AOR.pure (LT.assign (v := (.s (.c (iC 0)))) rfl) ⟨⟨rfl, rfl⟩, trivial⟩ trivial rfl rfl ?_
  refine AOR.nil ?_
  refine AWR.seq ?_
  refine AWR.region ?_
  refine AOR.pure (LT.fieldPl rfl fo37_0) ⟨rfl, trivial⟩ trivial rfl rfl ?_
  refine AOR.pure (LT.bloadN (out := [(iC a.Graph.Points), (.loc 0 0 a.Graph.Bars.length)]) rfl ag34 (infS inf34) sz34 (by exact rfl) (by exact rfl)) ⟨rfl, trivial⟩ ⟨rfl, trivial⟩ rfl rfl ?_
  refine AOR.pure (LT.move (v := (.s (.c (iC k)))) rfl) ⟨rfl, trivial⟩ trivial rfl rfl ?_
  refine AOR.bind fun r1 hr1 => ?_
  refine AOR.step (@LT.callF Try.prog _ _ 45 _ _ [(.agg [(iC a.Graph.Points), (.loc 0 0 a.Graph.Bars.length)]), (.c (iC k))] _ _ [] _ _ _ _ ((show Fw.Fn Try.prog 45 [(.agg [(iC a.Graph.Points), (.loc 0 0 a.Graph.Bars.length)]), (.c (iC k))] [(0, (.prow 69 (a.Graph.Bars.map encTBar)))] (.s (.c (iC r1.1))) [(0, (.prow 69 (r1.2.map encTBar)))] [0] [] from Fw.Fn.ren [(0, 0)] (w_laws_markGraph a.Graph k r1 hr1) rfl)) rfl cb45 (.cons (.agg (.cons (.same rfl) (.cons (.same rfl) .nil))) (.cons (.c (.same rfl)) .nil)) rfl rfl ⟨rfl, trivial⟩) ⟨rfl, rfl, rfl, trivial⟩ ⟨rfl, trivial⟩ rfl rfl ?_
  refine AOR.pure (LT.assign (v := (.s (.c (iC r1.1)))) rfl) ⟨rfl, trivial⟩ trivial rfl rfl ?_
  refine AOR.nil ?_
  refine AWR.seq ?_
  refine AWR.ent (Ent.of (σ' := [(1, (.s (.c (iC r1.1)))), (2, (.s (.c (.pl 21 0))))]) (m' := [(0, (.prow 69 (r1.2.map encTBar))), (1, (.prow 88 (a.Places.map encTPlace))), (21, (.row 37 [[(iC a.Graph.Points), (.loc 0 0 a.Graph.Bars.length), (.loc 1 0 a.Places.length)]]))]) ⟨rfl, rfl, trivial⟩ ⟨rfl, rfl, rfl, trivial⟩) ?_
  refine AWR.region ?_
  refine AOR.pure (LT.fieldPl rfl fo37_1) ⟨rfl, trivial⟩ trivial rfl rfl ?_
  refine AOR.pure (LT.bload1 (c := (.loc 1 0 a.Places.length)) rfl ag35 (by exact rfl)) ⟨rfl, trivial⟩ ⟨rfl, trivial⟩ rfl rfl ?_
  refine AOR.pure (LT.move (v := (.s (.c (iC r1.1)))) rfl) ⟨rfl, trivial⟩ trivial rfl rfl ?_
  refine AOR.bind fun r2 hr2 => ?_
  refine AOR.step (@LT.callF Try.prog _ _ 94 _ _ [(.c (.loc 1 0 a.Places.length)), (.c (iC r1.1))] _ _ [] _ _ _ _ ((show Fw.Fn Try.prog 94 [(.c (.loc 1 0 a.Places.length)), (.c (iC r1.1))] [(1, (.prow 88 (a.Places.map encTPlace)))] (.s (.c (iC r2.1))) [(1, (.prow 88 (r2.2.map encTPlace)))] [1] [] from Fw.Fn.ren [(0, 1)] (w_laws_markPlaceS a.Places r1.1 r2 hr2) rfl)) rfl cb94 (.cons (.c (.same rfl)) (.cons (.c (.same rfl)) .nil)) rfl rfl ⟨rfl, trivial⟩) ⟨rfl, rfl, rfl, trivial⟩ ⟨rfl, trivial⟩ rfl rfl ?_
  refine AOR.pure (LT.assign (v := (.s (.c (iC r2.1)))) rfl) ⟨rfl, trivial⟩ trivial rfl rfl ?_
  refine AOR.nil ?_
  refine AWR.seq ?_
  refine AWR.region ?_
  refine AOR.pure (LT.move (v := (.s (.c (iC r2.1)))) rfl) ⟨rfl, trivial⟩ trivial rfl rfl ?_
  refine AOR.pure (LT.assign (v := (.s (.c (iC r2.1)))) rfl) ⟨rfl, trivial⟩ trivial rfl rfl ?_
  refine AOR.nil ?_
  refine AWR.ret (FPost.mk (.inr rfl) ⟨rfl, trivial⟩ ⟨rfl, rfl, trivial⟩ rfl ⟨PermP.sc, trivial⟩ ⟨PermO.prow' perm_encTBar, PermO.prow' perm_encTPlace, trivial⟩)
set_option maxRecDepth 100000 in
set_option maxHeartbeats 8000000 in
theorem w_laws_markTensegrity (a : TTensegrity) (k : Int) : ∀ t, m_laws_markTensegrity a k = some t → Fw.Fn Try.prog 20 [(.agg [(iC a.Framework.Graph.Points), (.loc 0 0 a.Framework.Graph.Bars.length), (.loc 1 0 a.Framework.Places.length), (.loc 2 0 a.Kinds.length)]), (.c (iC k))] [(0, (.prow 69 (a.Framework.Graph.Bars.map encTBar))), (1, (.prow 88 (a.Framework.Places.map encTPlace))), (2, (.prow 3 (a.Kinds.map encInt)))] (.s (.c (iC t.1))) [(0, (.prow 69 (t.2.1.map encTBar))), (1, (.prow 88 (t.2.2.1.map encTPlace))), (2, (.prow 3 (t.2.2.2.map encInt)))] [0, 1, 2] [] := by
  refine Fw.Fn.of (P := Try.prog) (X := []) (pn := [0, 1, 2]) (rs := (fun (t : (Int × (List TBar) × (List TPlace) × (List Int))) => [(.c (iC t.1))])) (dfs := (fun (t : (Int × (List TBar) × (List TPlace) × (List Int))) => [(0, (.prow 69 (t.2.1.map encTBar))), (1, (.prow 88 (t.2.2.1.map encTPlace))), (2, (.prow 3 (t.2.2.2.map encInt)))])) Try.func20 rfl Try.ntmps20 (Nat.le_of_ble_eq_true rfl) rfl ?_
  intro w0 U0 R0 g0
  unfold m_laws_markTensegrity
  refine AWR.seq ?_
  refine AWR.region ?_
  refine AOR.step (LT.box (n := 21) (v := (.agg [(iC a.Framework.Graph.Points), (.loc 0 0 a.Framework.Graph.Bars.length), (.loc 1 0 a.Framework.Places.length), (.loc 2 0 a.Kinds.length)])) rfl sz39 (by exact rfl)) ⟨rfl, trivial⟩ trivial rfl rfl ?_
  refine AOR.pure (LT.assign (v := (.s (.c (iC 0)))) rfl) ⟨⟨rfl, rfl⟩, trivial⟩ trivial rfl rfl ?_
  refine AOR.nil ?_
  refine AWR.seq ?_
  refine AWR.region ?_
  refine AOR.pure (LT.fieldPl rfl fo39_0) ⟨rfl, trivial⟩ trivial rfl rfl ?_
  refine AOR.pure (LT.bloadN (out := [(iC a.Framework.Graph.Points), (.loc 0 0 a.Framework.Graph.Bars.length), (.loc 1 0 a.Framework.Places.length)]) rfl ag37 (infS inf37) sz37 (by exact rfl) (by exact rfl)) ⟨rfl, trivial⟩ ⟨rfl, trivial⟩ rfl rfl ?_
  refine AOR.pure (LT.move (v := (.s (.c (iC k)))) rfl) ⟨rfl, trivial⟩ trivial rfl rfl ?_
  refine AOR.bind fun r1 hr1 => ?_
  refine AOR.step (@LT.callF Try.prog _ _ 59 _ _ [(.agg [(iC a.Framework.Graph.Points), (.loc 0 0 a.Framework.Graph.Bars.length), (.loc 1 0 a.Framework.Places.length)]), (.c (iC k))] _ _ [] _ _ _ _ ((show Fw.Fn Try.prog 59 [(.agg [(iC a.Framework.Graph.Points), (.loc 0 0 a.Framework.Graph.Bars.length), (.loc 1 0 a.Framework.Places.length)]), (.c (iC k))] [(0, (.prow 69 (a.Framework.Graph.Bars.map encTBar))), (1, (.prow 88 (a.Framework.Places.map encTPlace)))] (.s (.c (iC r1.1))) [(0, (.prow 69 (r1.2.1.map encTBar))), (1, (.prow 88 (r1.2.2.map encTPlace)))] [0, 1] [] from Fw.Fn.ren [(0, 0), (1, 1)] (w_laws_markFramework a.Framework k r1 hr1) rfl)) rfl cb59 (.cons (.agg (.cons (.same rfl) (.cons (.same rfl) (.cons (.same rfl) .nil)))) (.cons (.c (.same rfl)) .nil)) rfl rfl ⟨rfl, rfl, trivial⟩) ⟨rfl, rfl, rfl, trivial⟩ ⟨rfl, rfl, trivial⟩ rfl rfl ?_
  refine AOR.pure (LT.assign (v := (.s (.c (iC r1.1)))) rfl) ⟨rfl, trivial⟩ trivial rfl rfl ?_
  refine AOR.nil ?_
  refine AWR.seq ?_
  refine AWR.ent (Ent.of (σ' := [(1, (.s (.c (iC r1.1)))), (2, (.s (.c (.pl 21 0))))]) (m' := [(0, (.prow 69 (r1.2.1.map encTBar))), (1, (.prow 88 (r1.2.2.map encTPlace))), (2, (.prow 3 (a.Kinds.map encInt))), (21, (.row 39 [[(iC a.Framework.Graph.Points), (.loc 0 0 a.Framework.Graph.Bars.length), (.loc 1 0 a.Framework.Places.length), (.loc 2 0 a.Kinds.length)]]))]) ⟨rfl, rfl, trivial⟩ ⟨rfl, rfl, rfl, rfl, trivial⟩) ?_
  refine AWR.region ?_
  refine AOR.pure (LT.fieldPl rfl fo39_1) ⟨rfl, trivial⟩ trivial rfl rfl ?_
  refine AOR.pure (LT.bload1 (c := (.loc 2 0 a.Kinds.length)) rfl ag28 (by exact rfl)) ⟨rfl, trivial⟩ ⟨rfl, trivial⟩ rfl rfl ?_
  refine AOR.pure (LT.move (v := (.s (.c (iC r1.1)))) rfl) ⟨rfl, trivial⟩ trivial rfl rfl ?_
  refine AOR.bind fun r2 hr2 => ?_
  refine AOR.step (@LT.callF Try.prog _ _ 46 _ _ [(.c (.loc 2 0 a.Kinds.length)), (.c (iC r1.1))] _ _ [] _ _ _ _ ((show Fw.Fn Try.prog 46 [(.c (.loc 2 0 a.Kinds.length)), (.c (iC r1.1))] [(2, (.prow 3 (a.Kinds.map encInt)))] (.s (.c (iC r2.1))) [(2, (.prow 3 (r2.2.map encInt)))] [2] [] from Fw.Fn.ren [(0, 2)] (w_laws_markIntS a.Kinds r1.1 r2 hr2) rfl)) rfl cb46 (.cons (.c (.same rfl)) (.cons (.c (.same rfl)) .nil)) rfl rfl ⟨rfl, trivial⟩) ⟨rfl, rfl, rfl, trivial⟩ ⟨rfl, trivial⟩ rfl rfl ?_
  refine AOR.pure (LT.assign (v := (.s (.c (iC r2.1)))) rfl) ⟨rfl, trivial⟩ trivial rfl rfl ?_
  refine AOR.nil ?_
  refine AWR.seq ?_
  refine AWR.region ?_
  refine AOR.pure (LT.move (v := (.s (.c (iC r2.1)))) rfl) ⟨rfl, trivial⟩ trivial rfl rfl ?_
  refine AOR.pure (LT.assign (v := (.s (.c (iC r2.1)))) rfl) ⟨rfl, trivial⟩ trivial rfl rfl ?_
  refine AOR.nil ?_
  refine AWR.ret (FPost.mk (.inr rfl) ⟨rfl, trivial⟩ ⟨rfl, rfl, rfl, trivial⟩ rfl ⟨PermP.sc, trivial⟩ ⟨PermO.prow' perm_encTBar, PermO.prow' perm_encTPlace, PermO.prow' perm_encInt, trivial⟩)
end Go.Proofs.Ytoedmjkipecloaa
