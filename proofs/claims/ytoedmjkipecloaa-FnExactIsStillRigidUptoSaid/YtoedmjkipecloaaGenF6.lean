/- The code computes the models. Written by a program of mine. -/
import Derived.Test.YtoedmjkipecloaaGenT
set_option linter.unusedVariables false
set_option linter.unusedSimpArgs false
set_option linter.unnecessarySimpa false
open Go Go.Fw
namespace Go.Proofs.Ytoedmjkipecloaa
set_option maxRecDepth 100000 in
set_option maxHeartbeats 8000000 in
theorem w_impl_copyInts (l : (List Int)) : ∀ t, m_impl_copyInts l = some t → Fw.Fn Try.prog 57 [(.c (.pv (.xs false (l.map encInt))))] [] (.s (.c (.loc 0 0 t.length))) [(0, (.prow 3 (t.map encInt)))] [] [0] := by
  refine Fw.Fn.of (P := Try.prog) (X := [0]) (pn := []) (rs := (fun (t : (List Int)) => [(.c (.loc 0 0 t.length))])) (dfs := (fun (t : (List Int)) => [(0, (.prow 3 (t.map encInt)))])) Try.func57 rfl Try.ntmps57 (Nat.le_of_ble_eq_true rfl) rfl ?_
  intro w0 U0 R0 g0
  unfold m_impl_copyInts
  refine AWR.seq ?_
  refine AWR.region ?_
  refine AOR.pure (LT.assign (v := (.s (.c (sC nilV)))) rfl) ⟨⟨rfl, rfl⟩, trivial⟩ trivial rfl rfl ?_
  refine AOR.nil ?_
  refine AWR.seq ?_
  refine AWR.region ?_
  refine AOR.step (LT.tbuildSlice (n := 21) (enc := encInt) [] ([] : List Int) rfl rfl und28 ti3 rfl rfl rfl rfl (by decide) (fun _ => rfl) rfl) trivial trivial rfl rfl ?_
  refine AOR.pure (LT.move (v := (.s (.c (.pv (.xs false (l.map encInt)))))) rfl) ⟨rfl, trivial⟩ trivial rfl rfl ?_
  refine AOR.bind fun u1 hu1 => ?_
  refine AOR.step (LT.tappRO (enc := encInt) rfl  rfl und28 ti3 rfl (by decide) (by decide) (fun _ => rfl) (lim_le hu1)) ⟨rfl, rfl, trivial⟩ ⟨rfl, trivial⟩ rfl rfl ?_
  refine AOR.pure (LT.assign (v := (.s (.c (.loc 21 0 (([] : List Int) ++ l).length)))) rfl) ⟨rfl, trivial⟩ trivial rfl rfl ?_
  refine AOR.nil ?_
  refine AWR.ent (Ent.of (σ' := [(2, (.s (.c (.loc 21 0 (([] : List Int) ++ l).length))))]) (m' := [(21, (.prow 3 ((([] : List Int) ++ l).map encInt)))]) ⟨rfl, trivial⟩ ⟨rfl, trivial⟩) ?_
  refine AWR.ent (Ent.mv 21 0 rfl rfl) ?_
  refine AWR.ent (Ent.of (σ' := [(2, (.s (.c (.loc 0 0 (([] : List Int) ++ l).length))))]) (m' := [(0, (.prow 3 ((([] : List Int) ++ l).map encInt)))]) ⟨rfl, trivial⟩ ⟨rfl, trivial⟩) ?_
  refine AWR.ret (FPost.mk (.inr rfl) ⟨rfl, trivial⟩ ⟨rfl, trivial⟩ rfl ⟨trivial, trivial⟩ ⟨PermO.prow' perm_encInt, trivial⟩)
end Go.Proofs.Ytoedmjkipecloaa
