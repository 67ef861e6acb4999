/- Plain tools for the models: loops whose states are known round by round; ints of the machine that are small. -/
import Derived.Test.YtfiiebikkimjbaaFw12
set_option linter.unusedVariables false
set_option linter.unusedSimpArgs false
set_option linter.unnecessarySimpa false
namespace Go.Fw

theorem BIG_gt {n : Nat} (h : n ≤ 1099511627776) : n < BIG := by unfold BIG; omega
theorem w64_small {n : Int} (h1 : -4611686018427387904 ≤ n) (h2 : n ≤ 4611686018427387904) : w64 n = n := w64_id (by omega) (by omega)

theorem loopM_go {σ τ : Type} {b : σ → Option (σ ⊕ τ)} {r : τ} (st : Nat → σ) (n : Nat) (h : ∀ k, k < n → b (st k) = some (.inl (st (k + 1)))) (hr : b (st n) = some (.inr r)) : ∀ (j k f : Nat), k + j = n → j < f → loopM b f (st k) = some r
  | 0, k, f, hk, hf => by
    obtain ⟨f, rfl⟩ : ∃ g, f = g + 1 := ⟨f - 1, by omega⟩
    have : k = n := by omega
    subst this
    unfold loopM
    rw [hr]
  | j + 1, k, f, hk, hf => by
    obtain ⟨f, rfl⟩ : ∃ g, f = g + 1 := ⟨f - 1, by omega⟩
    unfold loopM
    rw [h k (by omega)]
    exact loopM_go st n h hr j (k + 1) f (by omega) (by omega)
/-- A loop whose n-th round ends it. -/
theorem loopM_run {σ τ : Type} {b : σ → Option (σ ⊕ τ)} {r : τ} {s : σ} (st : Nat → σ) (n : Nat) (hn : n ≤ 1099511627776) (h0 : st 0 = s) (h : ∀ k, k < n → b (st k) = some (.inl (st (k + 1)))) (hr : b (st n) = some (.inr r)) : loopM b BIG s = some r := by
  subst h0
  exact loopM_go st n h hr n 0 BIG (by omega) (BIG_gt hn)

theorem idx_at {α : Type} {l : List α} {k : Nat} (h : k < l.length) : idx l (k : Int) = some l[k] := by
  unfold idx
  rw [if_pos (by omega), Int.toNat_natCast, List.getElem?_eq_getElem h]
theorem idx_of {α : Type} {l : List α} {k : Nat} {x : α} (h : l[k]? = some x) : idx l (k : Int) = some x := by
  unfold idx
  rw [if_pos (by omega), Int.toNat_natCast, h]
theorem w64_succ {k : Nat} (h : k ≤ 1099511627776) : w64 ((k : Int) + 1) = ((k + 1 : Nat) : Int) := by
  rw [w64_small (by omega) (by omega)]; omega

/-- a loop that only counts -/
theorem count_loop {τ : Type} {b : Int → Option (Int ⊕ τ)} {r : τ} (n : Nat) (hn : n ≤ 1099511627776) (h : ∀ k : Nat, k < n → b k = some (.inl (w64 ((k : Int) + 1)))) (hr : b n = some (.inr r)) : loopM b BIG 0 = some r :=
  loopM_run (fun k => (k : Int)) n hn rfl (fun k hk => by rw [h k hk, w64_succ (by omega)]) hr

theorem count_exit {τ : Type} {b : Int → Option (Int ⊕ τ)} (n : Nat) (hn : n ≤ 1099511627776) (h : ∀ k : Nat, k < n → b k = some (.inl (w64 ((k : Int) + 1))) ∨ ∃ r, b k = some (.inr r)) (hr : ∃ r, b n = some (.inr r)) : ∃ r, loopM b BIG 0 = some r := by
  have go : ∀ (j k f : Nat), k + j = n → j < f → ∃ r, loopM b f (k : Int) = some r := by
    intro j
    induction j with
    | zero =>
      intro k f hk hf
      obtain ⟨f, rfl⟩ : ∃ g, f = g + 1 := ⟨f - 1, by omega⟩
      have : k = n := by omega
      subst this
      obtain ⟨r, hr⟩ := hr
      exact ⟨r, by unfold loopM; rw [hr]⟩
    | succ j ih =>
      intro k f hk hf
      obtain ⟨f, rfl⟩ : ∃ g, f = g + 1 := ⟨f - 1, by omega⟩
      rcases h k (by omega) with h1 | ⟨r, h1⟩
      · rw [w64_succ (by omega)] at h1
        obtain ⟨r, hr⟩ := ih (k + 1) f (by omega) (by omega)
        exact ⟨r, by unfold loopM; rw [h1]; exact hr⟩
      · exact ⟨r, by unfold loopM; rw [h1]⟩
  exact go n 0 BIG (by omega) (BIG_gt hn)

/-- a loop that looks for the first that is bad -/
theorem any_loop {γ : Type} {b : Int → Option (Int ⊕ (Unit ⊕ γ))} (bad : Nat → Bool) (c : γ) (k0 n : Nat) (hn : n ≤ 1099511627776) (h0 : k0 ≤ n) (h : ∀ k : Nat, k0 ≤ k → k < n → b k = bif bad k then some (.inr (.inr c)) else some (.inl (w64 ((k : Int) + 1)))) (hr : b n = some (.inr (.inl ()))) :
    loopM b BIG k0 = some (bif (List.range' k0 (n - k0)).any bad then .inr c else .inl ()) := by
  have go : ∀ (j k f : Nat), k + j = n → k0 ≤ k → j < f → loopM b f (k : Int) = some (bif (List.range' k j).any bad then .inr c else .inl ()) := by
    intro j
    induction j with
    | zero =>
      intro k f hk _ hf
      obtain ⟨f, rfl⟩ : ∃ g, f = g + 1 := ⟨f - 1, by omega⟩
      have : k = n := by omega
      subst this
      unfold loopM
      rw [hr]
      rfl
    | succ j ih =>
      intro k f hk hk0 hf
      obtain ⟨f, rfl⟩ : ∃ g, f = g + 1 := ⟨f - 1, by omega⟩
      have h1 := h k hk0 (by omega)
      unfold loopM
      cases hb : bad k with
      | true =>
        rw [hb, cond_true] at h1
        rw [h1, List.range'_succ, List.any_cons, hb]
        rfl
      | false =>
        rw [hb, cond_false, w64_succ (by omega)] at h1
        rw [h1, List.range'_succ, List.any_cons, hb, Bool.false_or]
        exact ih (k + 1) f (by omega) (by omega) (by omega)
  exact go (n - k0) k0 BIG (by omega) (Nat.le_refl _) (by have := BIG_gt hn; omega)

/-- a loop with an invariant: it ends within n rounds, and what it ends with is as told -/
theorem loop_inv {σ τ : Type} {b : σ → Option (σ ⊕ τ)} {s : σ} (I : Nat → σ → Prop) (Q : τ → Prop) (n : Nat) (hn : n ≤ 1099511627776) (h0 : I 0 s)
    (h : ∀ k s, k < n → I k s → (∃ s', b s = some (.inl s') ∧ I (k + 1) s') ∨ ∃ r, b s = some (.inr r) ∧ Q r) (hr : ∀ s, I n s → ∃ r, b s = some (.inr r) ∧ Q r) : ∃ r, loopM b BIG s = some r ∧ Q r := by
  have go : ∀ (j k f : Nat) (s : σ), k + j = n → j < f → I k s → ∃ r, loopM b f s = some r ∧ Q r := by
    intro j
    induction j with
    | zero =>
      intro k f s hk hf hi
      obtain ⟨f, rfl⟩ : ∃ g, f = g + 1 := ⟨f - 1, by omega⟩
      have : k = n := by omega
      subst this
      obtain ⟨r, h1, h2⟩ := hr s hi
      exact ⟨r, by unfold loopM; rw [h1], h2⟩
    | succ j ih =>
      intro k f s hk hf hi
      obtain ⟨f, rfl⟩ : ∃ g, f = g + 1 := ⟨f - 1, by omega⟩
      rcases h k s (by omega) hi with ⟨s', h1, h2⟩ | ⟨r, h1, h2⟩
      · obtain ⟨r, h3, h4⟩ := ih (k + 1) f s' (by omega) (by omega) h2
        exact ⟨r, by unfold loopM; rw [h1]; exact h3, h4⟩
      · exact ⟨r, by unfold loopM; rw [h1], h2⟩
  exact go n 0 BIG s (by omega) (BIG_gt hn) h0

/-- a copy, element by element, into a row of zeros -/
theorem copy_loop {α : Type} {b : Int × List α → Option ((Int × List α) ⊕ List α)} (a : List α) (z : α) (ha : a.length ≤ 1099511627776)
    (h : ∀ (k : Nat) (l : List α) x y, a[k]? = some x → l[k]? = some y → b (k, l) = some (.inl (w64 ((k : Int) + 1), l.set k x))) (hr : ∀ l, b ((a.length : Int), l) = some (.inr l)) :
    loopM b BIG (0, List.replicate a.length z) = some a := by
  refine loopM_run (fun k => ((k : Int), a.take k ++ List.replicate (a.length - k) z)) a.length ha (by simp) (fun k hk => ?_) (by simp [hr])
  have h1 : (a.take k ++ List.replicate (a.length - k) z)[k]? = some z := by
    have hl : (a.take k).length = k := by simp; omega
    rw [List.getElem?_append_right (by omega), hl, Nat.sub_self, List.getElem?_replicate, if_pos (by omega)]
  rw [h k _ a[k] z (List.getElem?_eq_getElem hk) h1, w64_succ (by omega)]
  congr 3
  obtain ⟨m, hm⟩ : ∃ m, a.length - k = m + 1 := ⟨a.length - k - 1, by omega⟩
  have hm2 : a.length - (k + 1) = m := by omega
  rw [hm, hm2, List.set_append_right _ _ (by simp; omega)]
  have : k - (a.take k).length = 0 := by simp; omega
  rw [this, List.replicate_succ, List.set_cons_zero]
  have ht : a.take (k + 1) = a.take k ++ [a[k]] := by rw [List.take_add_one, List.getElem?_eq_getElem hk]; rfl
  rw [ht, List.append_assoc]
  rfl

theorem lim_ok {n : Nat} (h : n ≤ 2147483648) : lim n = some () := by unfold lim LIM; rw [if_pos h]
theorem lenOk_ok {n : Int} (h0 : 0 ≤ n) (h : n ≤ 2147483648) : lenOk n = some () := by unfold lenOk; rw [if_pos ⟨h0, h⟩]
theorem same_ok {a b : Nat} (h : a = b) : same a b = some () := by unfold same; rw [if_pos h]
end Go.Fw
