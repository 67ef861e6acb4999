/- Plain tools: loops that fold, loops that look, loops in bijection. -/
import Derived.Test.YtfiiebikkimjbaaFw14
set_option linter.unusedVariables false
set_option linter.unusedSimpArgs false
set_option linter.unnecessarySimpa false
namespace Go.Fw

/-- n rounds of a step -/
def iter {β : Type} (f : Nat → β → β) : Nat → β → β
  | 0, a => a
  | n + 1, a => f n (iter f n a)

theorem iter_inv {β : Type} {f : Nat → β → β} {a0 : β} (I : Nat → β → Prop) (h0 : I 0 a0) : ∀ n, (∀ k a, k < n → I k a → I (k + 1) (f k a)) → I n (iter f n a0)
  | 0, _ => h0
  | n + 1, h => h n _ (by omega) (iter_inv I h0 n fun k a hk hi => h k a (by omega) hi)
theorem iter_congr {β : Type} {f g : Nat → β → β} {a0 : β} : ∀ n, (∀ k a, k < n → f k a = g k a) → iter f n a0 = iter g n a0
  | 0, _ => rfl
  | n + 1, h => by
    show f n (iter f n a0) = g n (iter g n a0)
    rw [iter_congr n fun k a hk => h k a (by omega), h n _ (by omega)]

/-- a loop that folds, with what stays true; the state of round k is mk k a -/
theorem fold_loop {β τ σ : Type} {b : σ → Option (σ ⊕ τ)} {s : σ} (mk : Nat → β → σ) (f : Nat → β → β) (I : Nat → β → Prop) (fin : β → τ) (n : Nat) (a0 : β) (hn : n ≤ 1099511627776) (hs : s = mk 0 a0) (h0 : I 0 a0)
    (h : ∀ k a, k < n → I k a → b (mk k a) = some (.inl (mk (k + 1) (f k a))) ∧ I (k + 1) (f k a)) (hr : ∀ a, I n a → b (mk n a) = some (.inr (fin a))) :
    loopM b BIG s = some (fin (iter f n a0)) ∧ I n (iter f n a0) := by
  have hI : ∀ m, m ≤ n → I m (iter f m a0) := fun m hm => iter_inv I h0 m fun k a hk hi => (h k a (by omega) hi).2
  subst hs
  exact ⟨loopM_run (fun k => mk k (iter f k a0)) n hn rfl (fun k hk => (h k _ hk (hI k (by omega))).1) (hr _ (hI n (Nat.le_refl _))), hI n (Nat.le_refl _)⟩

/-- rows built up piece by piece -/
def pieces {α : Type} (f : Nat → List α) : Nat → List α
  | 0 => []
  | n + 1 => pieces f n ++ f n
theorem pieces_len {α : Type} {f : Nat → List α} {c : Nat} : ∀ n, (∀ k, k < n → (f k).length ≤ c) → (pieces f n).length ≤ c * n
  | 0, _ => by simp [pieces]
  | n + 1, h => by
    have h1 := pieces_len n fun k hk => h k (by omega)
    have h2 := h n (by omega)
    show (pieces f n ++ f n).length ≤ _
    rw [List.length_append, Nat.mul_add, Nat.mul_one]
    omega
theorem pieces_congr {α : Type} {f g : Nat → List α} : ∀ n, (∀ k, k < n → f k = g k) → pieces f n = pieces g n
  | 0, _ => rfl
  | n + 1, h => by
    show pieces f n ++ f n = pieces g n ++ g n
    rw [pieces_congr n fun k hk => h k (by omega), h n (by omega)]
/-- a loop that appends f k in round k; the state of round k is mk k out -/
theorem app_loop {α τ σ : Type} {b : σ → Option (σ ⊕ τ)} {s : σ} (mk : Nat → List α → σ) (f : Nat → List α) (fin : List α → τ) (c n : Nat) (out0 : List α) (hn : n ≤ 1099511627776) (hs : s = mk 0 out0) (hc : ∀ k, k < n → (f k).length ≤ c)
    (h : ∀ k out, k < n → out.length ≤ out0.length + c * k → b (mk k out) = some (.inl (mk (k + 1) (out ++ f k)))) (hr : ∀ out, b (mk n out) = some (.inr (fin out))) :
    loopM b BIG s = some (fin (out0 ++ pieces f n)) := by
  subst hs
  refine loopM_run (fun k => mk k (out0 ++ pieces f k)) n hn (by simp [pieces]) (fun k hk => ?_) (hr _)
  have h1 := pieces_len (f := f) (c := c) k fun j hj => hc j (by omega)
  rw [h k _ hk (by rw [List.length_append]; omega), List.append_assoc]
  rfl

/-- a loop that ends at the first round that is bad -/
def anyB (p : Nat → Bool) : Nat → Nat → Bool
  | _, 0 => false
  | k, j + 1 => p k || anyB p (k + 1) j
theorem anyB_eq {p : Nat → Bool} : ∀ j k, anyB p k j = (List.range' k j).any p
  | 0, _ => rfl
  | j + 1, k => by rw [List.range'_succ, List.any_cons, ← anyB_eq j (k + 1)]; rfl
theorem any_range {p : Nat → Bool} {k0 n : Nat} : (List.range' k0 n).any p = true ↔ ∃ k, k0 ≤ k ∧ k < k0 + n ∧ p k = true := by
  rw [List.any_eq_true]
  constructor
  · rintro ⟨k, hk, h⟩
    rw [List.mem_range'_1] at hk
    exact ⟨k, hk.1, hk.2, h⟩
  · rintro ⟨k, h1, h2, h⟩
    exact ⟨k, List.mem_range'_1.2 ⟨h1, h2⟩, h⟩
theorem any_range_false {p : Nat → Bool} {k0 n : Nat} : (List.range' k0 n).any p = false ↔ ∀ k, k0 ≤ k → k < k0 + n → p k = false := by
  rw [← Bool.not_eq_true, any_range]
  constructor
  · intro h k h1 h2
    cases hp : p k
    · rfl
    · exact absurd ⟨k, h1, h2, hp⟩ h
  · rintro h ⟨k, h1, h2, h3⟩
    rw [h k h1 h2] at h3
    cases h3
theorem any_range_congr {p q : Nat → Bool} {k0 n : Nat} (h : ∀ k, k0 ≤ k → k < k0 + n → p k = q k) : (List.range' k0 n).any p = (List.range' k0 n).any q := by
  cases hq : (List.range' k0 n).any q
  · rw [any_range_false] at hq ⊢
    exact fun k h1 h2 => (h k h1 h2).trans (hq k h1 h2)
  · rw [any_range] at hq ⊢
    obtain ⟨k, h1, h2, h3⟩ := hq
    exact ⟨k, h1, h2, (h k h1 h2).trans h3⟩

/-- the same, from 0 on -/
theorem any_loop0 {γ : Type} {b : Int → Option (Int ⊕ (Unit ⊕ γ))} (bad : Nat → Bool) (c : γ) (n : Nat) (hn : n ≤ 1099511627776) (h : ∀ k : Nat, k < n → b k = bif bad k then some (.inr (.inr c)) else some (.inl (w64 ((k : Int) + 1)))) (hr : b n = some (.inr (.inl ()))) :
    loopM b BIG 0 = some (bif (List.range' 0 n).any bad then .inr c else .inl ()) := by
  have := any_loop (b := b) bad c 0 n hn (by omega) (fun k _ hk => h k hk) hr
  rwa [Nat.sub_zero] at this

/-- two loops whose states answer each other -/
theorem loopM_map {σ σ' τ τ' : Type} {b : σ → Option (σ ⊕ τ)} {b' : σ' → Option (σ' ⊕ τ')} (f : σ → σ') (g : τ → τ') (h : ∀ s, b' (f s) = (b s).map (Sum.map f g)) : ∀ n s, loopM b' n (f s) = (loopM b n s).map g
  | 0, _ => rfl
  | n + 1, s => by
    unfold loopM
    rw [h s]
    cases b s with
    | none => rfl
    | some x =>
      cases x with
      | inl s' => exact loopM_map f g h n s'
      | inr t => rfl

/-- the same, while something stays true -/
theorem loopM_mapI {σ σ' τ τ' : Type} {b : σ → Option (σ ⊕ τ)} {b' : σ' → Option (σ' ⊕ τ')} (I : σ → Prop) (f : σ → σ') (g : τ → τ') (h : ∀ s, I s → b' (f s) = (b s).map (Sum.map f g)) (hI : ∀ s s', I s → b s = some (.inl s') → I s') : ∀ n s, I s → loopM b' n (f s) = (loopM b n s).map g
  | 0, _, _ => rfl
  | n + 1, s, hs => by
    unfold loopM
    rw [h s hs]
    cases hb : b s with
    | none => rfl
    | some x =>
      cases x with
      | inl s' => exact loopM_mapI I f g h hI n s' (hI s s' hs hb)
      | inr t => rfl

theorem set_repl {α : Type} (a : List α) (z x : α) (k n : Nat) (ha : a.length = k) (hk : k < n) : (a ++ List.replicate (n - k) z).set k x = (a ++ [x]) ++ List.replicate (n - (k + 1)) z := by
  obtain ⟨m, hm⟩ : ∃ m, n - k = m + 1 := ⟨n - k - 1, by omega⟩
  rw [hm, show n - (k + 1) = m by omega, List.set_append_right _ _ (by omega), ha, Nat.sub_self, List.replicate_succ, List.set_cons_zero, List.append_assoc]
  rfl
end Go.Fw
