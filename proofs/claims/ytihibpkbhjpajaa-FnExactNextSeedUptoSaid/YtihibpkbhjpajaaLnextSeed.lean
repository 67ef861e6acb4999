/- The law FnExactNextSeed returns true, whatever int it is given; the argument reads behind the call as it read before. -/
import Derived.Test.YtihibpkbhjpajaaFw13
import Derived.Test.YtihibpkbhjpajaaGenF0
open Go Go.Fw
namespace Go.Proofs.Ytihibpkbhjpajaa.fnExactNextSeed
open Go.ChangeShapes Go.WideShapes Go.ChangeAt Go.RowKit

theorem law (a : Int) : m_laws_FnExactNextSeed a = some true := by
  have h1 : ∀ x lo hi, m_spec_l1In x lo hi = m_impl_within x lo hi := fun x lo hi => rfl
  have h2 : ∀ x, ∃ b, m_impl_within x 0 65535 = some b := fun x => by
    unfold m_impl_within
    by_cases h : (0 : Int) ≤ x <;> simp [h]
  have h : ∃ y, m_spec_NextSeed a = some y ∧ m_impl_NextSeed a = some y := by
    unfold m_spec_NextSeed m_impl_NextSeed
    obtain ⟨b, hb⟩ := h2 a
    rw [h1, hb]
    cases b <;> simp [Int.mul_comm]
  obtain ⟨y, h3, h4⟩ := h
  unfold m_laws_FnExactNextSeed
  simp [h3, h4]

theorem own : ownKnob Try.prog.godebug = none := by kernel_rfl
theorem laidOut : laidOutB Try.prog = true := by kernel_rfl

set_option maxRecDepth 100000 in
theorem contract (H : Type) (enc : TypeId × Value → H) (W : World) (base : Nat) (args : Array Value) (ds gs : List (DataW H)) (before : List MemPlace)
    (hval : ∀ (j : Nat) t v, Try.f3.params[j]? = some t → args[j]? = some v → Value.okWide Try.prog W .any base t v)
    (hW : DataW.Whole enc Try.prog Try.f3.params.toList Rows.fnExactNextSeedSpec.vars false W args.toList ds gs before) (hk : Rows.uptoSmall H (ds ++ gs) = true) :
    Calls Try.prog 3 args W fun e W' => ∃ v, e = .returned v ∧ Rows.fnExactNextSeedSpec.post enc Try.prog Try.f3 false true false false W args v W' := by
  have hW' := hW
  obtain ⟨p, q, hA0, hV, rfl, hfz, hnd⟩ := hW
  have hA : DataW.TrodAll enc Try.prog W 0 (fun _ => true) true Try.f3.params.toList args.toList ds p := hA0
  rw [Try.params3] at hA hval
  obtain ⟨v0, vs0, d0, ds0, p0, q0, hargs, rfl, rfl, h0, r0⟩ := trodAll_cons hA
  obtain ⟨rfl, rfl, rfl⟩ := trodAll_nil r0
  obtain rfl : args = #[v0] := by cases args; simp_all
  have hv0 : v0.oneCell' = true := by
    obtain ⟨n, rfl⟩ := okWide_int Try.underlying3 (hval 0 3 v0 rfl rfl)
    rfl
  obtain ⟨a0, k0, b0, s0⟩ := Opn.arg1 (Opn.int Try.underlying3) (p := fun n => .sc (.int .i64 n)) (fun _ => rfl) hv0 h0
  have ha : ArgR Try.prog W [.c (iC a0)] [v0] := ⟨s0, trivial⟩
  refine (Fn.called (P := Try.prog) (W := W) (args := #[v0]) (w_laws_FnExactNextSeed a0 true (law a0)) ha).mono fun e W' ⟨he, hb⟩ => ?_
  subst he
  exact ⟨_, rfl, post_of_fw hW' laidOut (by kernel_rfl) hb rfl rfl rfl Try.underlying4⟩

set_option maxRecDepth 100000 in
theorem lifted (os : Os) (started : os.Started) (H : Type) (enc : TypeId × Value → H) (F : Stop.Interp) :
    ReturnsInHanded {} Try.checked os 3 .any ((Rows.OpenSpec.upto Rows.fnExactNextSeedSpec).pre6 enc Try.prog Try.f3 Rows.fnExactNextSeedUptoRow.domain false) (((Rows.OpenSpec.upto Rows.fnExactNextSeedSpec).at F).post enc Try.prog Try.f3 false true false false) := by
  refine returnsInHanded_of_cond (C := Try.checked) (s := Rows.OpenSpec.upto Rows.fnExactNextSeedSpec) (k := Rows.uptoSmall) rfl own started (by kernel_rfl) Try.func3
    (OpenSpec.witness (enc := enc) (C := Try.checked) (s := Rows.OpenSpec.upto Rows.fnExactNextSeedSpec) (k := Rows.uptoSmall) rfl false ⟨#[], #[.int .i64 0], []⟩ 8 (by kernel_rfl) (by kernel_rfl) (by kernel_rfl)
      (x := ([.lit (.int .i64 0)], [], [])) (by kernel_rfl) rfl (by kernel_rfl)) ?_
  intro W base args ds gs before hval hW _ hk _
  exact contract H enc W base args ds gs before hval hW hk

theorem over : Rows.fnExactNextSeedUptoRow.holds Try.pinned (Rows.OpenSpec.upto Rows.fnExactNextSeedSpec) :=
  OpenClaim.holds_of_cond 3 Try.f3 rfl rfl rfl rfl rfl rfl rfl ⟨rfl, rfl, rfl, rfl, rfl⟩ rfl rfl rfl rfl rfl (by kernel_rfl) Try.func3 (by kernel_rfl)
    (of_decide_eq_true (by kernel_rfl)) (by unfold Func.isWrapper; first | (rw [if_pos (by decide +kernel)]; kernel_rfl) | (rw [if_neg (by decide +kernel)]; exact ⟨rfl, rfl⟩))
    (fun os started H enc _ F => lifted os started H enc F)

theorem proved : Rows.FnExactNextSeedUptoSaid := over
end Go.Proofs.Ytihibpkbhjpajaa.fnExactNextSeed
