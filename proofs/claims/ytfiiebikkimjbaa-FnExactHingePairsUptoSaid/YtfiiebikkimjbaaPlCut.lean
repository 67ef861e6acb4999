/- Plain: cut sets and hinge pairs of the program and of the reference agree, and are small. -/
import Derived.Test.YtfiiebikkimjbaaPlConn
set_option linter.unusedVariables false
set_option linter.unusedSimpArgs false
set_option linter.unnecessarySimpa false
open Go Go.Fw
namespace Go.Proofs.Ytfiiebikkimjbaa

theorem pieces_all {α : Type} {f : Nat → List α} {Q : α → Prop} : ∀ n, (∀ k, k < n → ∀ x ∈ f k, Q x) → ∀ x ∈ pieces f n, Q x
  | 0, _, x, hx => by simp [pieces] at hx
  | n + 1, h, x, hx => by
    have hx : x ∈ pieces f n ++ f n := hx
    rcases List.mem_append.1 hx with h1 | h1
    · exact pieces_all n (fun k hk => h k (by omega)) x h1
    · exact h n (by omega) x h1
theorem tot_le {c : Nat} : ∀ (a : List (List Int)), (∀ r ∈ a, r.length ≤ c) → tot (lns a) ≤ c * a.length
  | [], _ => Nat.zero_le _
  | r :: a, h => by
    have h1 := tot_le a fun r hr => h r (List.mem_cons_of_mem _ hr)
    have h2 := h r List.mem_cons_self
    show r.length + tot (lns a) ≤ c * (a.length + 1)
    rw [Nat.mul_add, Nat.mul_one]
    omega
theorem ssok_of {a : List (List Int)} {c : Nat} (hl : a.length ≤ 1048576) (hr : ∀ r ∈ a, r.length ≤ c) (hc : c ≤ 1024) : SSok a := by
  refine ⟨hl, fun r h => by have := hr r h; show r.length ≤ _; omega, ?_⟩
  have h1 := tot_le a hr
  have h2 : c * a.length ≤ 1024 * 1048576 := Nat.mul_le_mul hc hl
  omega
theorem cuts_row (g : TGraph) (k : Int) : ∀ r ∈ cuts g k, r.length ≤ 8 := by
  unfold cuts
  cases hv : vG g && (decide (0 ≤ k) && decide (k ≤ 3))
  · intro r hr; cases hr
  · simp only [Bool.and_eq_true] at hv
    have hV := vG_VG hv.1
    have h8 := hV.p8
    rw [cond_true]
    refine pieces_all _ fun m _ r hr => ?_
    have hm := maskSet_len (m : Int) g.Points.toNat
    cases hc : isCut g k m with
    | false => rw [hc] at hr; cases hr
    | true =>
      rw [hc] at hr
      have : r = maskSet (m : Int) g.Points.toNat := by simpa using hr
      subst this
      omega
theorem cuts_ok (g : TGraph) (k : Int) : SSok (cuts g k) := ssok_of (c := 8) (by have := cuts_len g k; omega) (cuts_row g k) (by omega)
theorem both_CutSets (g : TGraph) (k : Int) (h : g.Bars.length ≤ 1048576) : ∃ w, m_spec_CutSets g k = some w ∧ m_impl_CutSets g k = some w ∧ SSok w :=
  ⟨cuts g k, cutsS_eq g (by show g.Bars.length ≤ _; omega) k, cutsI_eq g (by show g.Bars.length ≤ _; omega) k, cuts_ok g k⟩
theorem both_HingePairs (g : TGraph) (h : g.Bars.length ≤ 1048576) : ∃ w, m_spec_HingePairs g = some w ∧ m_impl_HingePairs g = some w ∧ SSok w := by
  refine ⟨cuts g 2, ?_, ?_, cuts_ok g 2⟩
  · unfold m_spec_HingePairs
    simp only [cutsS_eq g (show SM g.Bars.length by show g.Bars.length ≤ _; omega), Option.bind_some]
  · unfold m_impl_HingePairs
    simp only [cutsI_eq g (show SM g.Bars.length by show g.Bars.length ≤ _; omega), Option.bind_some]
end Go.Proofs.Ytfiiebikkimjbaa
