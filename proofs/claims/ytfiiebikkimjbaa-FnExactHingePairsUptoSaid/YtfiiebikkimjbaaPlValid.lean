/- Plain: valid graphs; what IsGraph of the program and of the reference give. -/
import Derived.Test.YtfiiebikkimjbaaPlKit
set_option linter.unusedVariables false
set_option linter.unusedSimpArgs false
set_option linter.unnecessarySimpa false
open Go Go.Fw
namespace Go.Proofs.Ytfiiebikkimjbaa

theorem l1In_eq (x lo hi : Int) : m_spec_l1In x lo hi = some (decide (lo ≤ x) && decide (x ≤ hi)) := by
  unfold m_spec_l1In
  cases decide (lo ≤ x) <;> simp
theorem within_eq (x lo hi : Int) : m_impl_within x lo hi = some (decide (lo ≤ x) && decide (x ≤ hi)) := by
  unfold m_impl_within
  cases decide (lo ≤ x) <;> simp
theorem compareInts_eq (a b : Int) : m_impl_compareInts a b = some (if a < b then -1 else if b < a then 1 else 0) := by
  unfold m_impl_compareInts
  by_cases h1 : a < b
  · simp [h1]
  · by_cases h2 : b < a <;> simp [h1, h2]
/-- a bar stands behind another one -/
def barGt (x y : TBar) : Bool := decide (y.A < x.A) || (x.A == y.A && decide (y.B < x.B))
theorem compareBars_some (x y : TBar) : ∃ c, m_impl_compareBars x y = some c ∧ decide (0 < c) = barGt x y := by
  unfold m_impl_compareBars barGt
  rw [compareInts_eq, compareInts_eq]
  by_cases h1 : x.A < y.A
  · have h3 : (x.A == y.A) = false := by simp; omega
    exact ⟨-1, by simp [h1], by simp [h3]; omega⟩
  · by_cases h2 : y.A < x.A
    · exact ⟨1, by simp [h1, h2], by simp [h2]⟩
    · have : x.A = y.A := by omega
      by_cases h3 : x.B < y.B
      · exact ⟨-1, by simp [this, h3], by simp [this]; omega⟩
      · by_cases h4 : y.B < x.B
        · exact ⟨1, by simp [this, h3, h4], by simp [this, h4]⟩
        · exact ⟨0, by simp [this, h3, h4], by simp [this]; omega⟩
theorem l2After_eq (x y : TBar) : m_spec_l2After x y = some (!barGt x y) := by
  unfold m_spec_l2After barGt
  by_cases h1 : x.A < y.A
  · have h3 : (x.A == y.A) = false := by simp; omega
    simp [h1, h3]; omega
  · by_cases h2 : y.A < x.A
    · have h3 : (x.A == y.A) = false := by simp; omega
      simp [h1, h2, h3]
    · have : x.A = y.A := by omega
      by_cases h4 : y.B < x.B
      · have h5 : ¬ x.B ≤ y.B := by omega
        simp [this, h4, h5]
      · have h5 : x.B ≤ y.B := by omega
        simp [this, h4, h5]

/-- the k-th bar is no good -/
def badBar (g : TGraph) (k : Nat) : Bool := match g.Bars[k]? with
  | none => false
  | some x => decide (x.A < 0) || decide (x.B ≤ x.A) || decide (g.Points ≤ x.B) || (decide (0 < k) && match g.Bars[k - 1]? with
    | none => false
    | some y => barGt y x)
/-- a valid graph -/
def vG (g : TGraph) : Bool := decide (1 ≤ g.Points) && decide (g.Points ≤ 8) && !decide (24 < (g.Bars.length : Int)) && !(List.range' 0 g.Bars.length).any (badBar g)

theorem isGraphI_eq (g : TGraph) (h : SM g.Bars.length) : m_impl_IsGraph g = some (vG g) := by
  have e : loopM (m_impl_IsGraph_L1 g) BIG 0 = some (bif (List.range' 0 g.Bars.length).any (badBar g) then .inr false else .inl ()) := by
    refine any_loop0 (badBar g) false g.Bars.length (by omega) (fun k hk => ?_) (by simp [m_impl_IsGraph_L1])
    unfold m_impl_IsGraph_L1 badBar
    rw [decide_eq_true (by omega), cond_true, idx_at hk, Option.bind_some, List.getElem?_eq_getElem hk]
    simp only
    cases decide (g.Bars[k].A < 0)
    · cases decide (g.Bars[k].B ≤ g.Bars[k].A)
      · cases decide (g.Points ≤ g.Bars[k].B)
        · by_cases h0 : 0 < k
          · have e1 : w64 ((k : Int) - 1) = ((k - 1 : Nat) : Int) := by rw [w64_small (by omega) (by omega)]; omega
            obtain ⟨c, hc, hd⟩ := compareBars_some (g.Bars[k - 1]'(by omega)) g.Bars[k]
            rw [decide_eq_true (show (0 : Int) < (k : Int) by omega), decide_eq_true h0, e1, idx_at (show k - 1 < g.Bars.length by omega), List.getElem?_eq_getElem (show k - 1 < g.Bars.length by omega)]
            simp only [cond_false, cond_true, Option.bind_some, hc, hd, Bool.false_or, Bool.true_and]
          · rw [decide_eq_false (show ¬ (0 : Int) < (k : Int) by omega), decide_eq_false h0]
            rfl
        · rfl
      · rfl
    · rfl
  unfold m_impl_IsGraph vG
  rw [within_eq, e]
  simp only [Option.bind_some]
  cases decide (1 ≤ g.Points) && decide (g.Points ≤ 8)
  · rfl
  · cases decide (24 < (g.Bars.length : Int))
    · cases (List.range' 0 g.Bars.length).any (badBar g) <;> rfl
    · rfl
theorem isGraph_L1 (g : TGraph) : m_spec_IsGraph_L1 g = m_impl_IsGraph_L1 g := by
  funext s
  unfold m_spec_IsGraph_L1 m_impl_IsGraph_L1
  have e : ∀ x y, ((m_spec_l2After x y).bind fun r => some (!r)) = (m_impl_compareBars x y).bind fun r => some (decide (0 < r)) := fun x y => by
    obtain ⟨c, hc, hd⟩ := compareBars_some x y
    rw [l2After_eq, hc]
    simp [hd]
  simp only [e]
theorem isGraphS_eq (g : TGraph) (h : SM g.Bars.length) : m_spec_IsGraph g = some (vG g) := by
  rw [← isGraphI_eq g h]
  unfold m_spec_IsGraph m_impl_IsGraph
  rw [l1In_eq, within_eq, isGraph_L1]

structure VG (g : TGraph) : Prop where
  p1 : 1 ≤ g.Points
  p8 : g.Points ≤ 8
  len : g.Bars.length ≤ 24
  a0 : ∀ {k : Nat} {x : TBar}, g.Bars[k]? = some x → 0 ≤ x.A
  ab : ∀ {k : Nat} {x : TBar}, g.Bars[k]? = some x → x.A < x.B
  bp : ∀ {k : Nat} {x : TBar}, g.Bars[k]? = some x → x.B < g.Points
  srt : ∀ {k : Nat} {x y : TBar}, g.Bars[k]? = some x → g.Bars[k + 1]? = some y → barGt x y = false
theorem vG_VG {g : TGraph} (h : vG g = true) : VG g := by
  unfold vG at h
  simp only [Bool.and_eq_true, Bool.not_eq_true', decide_eq_true_eq, decide_eq_false_iff_not] at h
  obtain ⟨⟨⟨h1, h2⟩, h3⟩, h4⟩ := h
  rw [any_range_false] at h4
  have hb : ∀ {k : Nat} {x : TBar}, g.Bars[k]? = some x → 0 ≤ x.A ∧ x.A < x.B ∧ x.B < g.Points ∧ ∀ {y : TBar}, 0 < k → g.Bars[k - 1]? = some y → barGt y x = false := fun {k x} hx => by
    have hk : k < g.Bars.length := (List.getElem?_eq_some_iff.1 hx).1
    have := h4 k (by omega) (by omega)
    unfold badBar at this
    rw [hx] at this
    simp only [Bool.or_eq_false_iff, decide_eq_false_iff_not, Bool.and_eq_false_iff] at this
    obtain ⟨⟨⟨a, b⟩, c⟩, d⟩ := this
    refine ⟨by omega, by omega, by omega, fun {y} hk hy => ?_⟩
    rw [hy] at d
    rcases d with d | d
    · exact absurd hk d
    · exact d
  exact ⟨h1, h2, by omega, fun hx => (hb hx).1, fun hx => (hb hx).2.1, fun hx => (hb hx).2.2.1, fun {k x y} hx hy => (hb hy).2.2.2 (by omega) (by simpa using hx)⟩
theorem VG.sm {g : TGraph} (h : VG g) : SM g.Bars.length := by have := h.len; omega

/-! ### lists of ints -/
def hasI (l : List Int) (x : Int) : Bool := l.any (· == x)
def atB {α : Type} (l : List α) (p : α → Bool) (k : Nat) : Bool := match l[k]? with
  | some x => p x
  | none => false
theorem atB_at {α : Type} {l : List α} {k : Nat} (h : k < l.length) (p : α → Bool) : atB l p k = p l[k] := by simp [atB, h]
theorem range_any {α : Type} (l : List α) (p : α → Bool) : (List.range' 0 l.length).any (atB l p) = l.any p := by
  induction l with
  | nil => rfl
  | cons x r ih =>
    rw [List.length_cons, List.range'_succ, List.any_cons, List.any_cons]
    congr 1
    rw [← ih, List.range'_eq_map_range, List.range'_eq_map_range, List.any_map, List.any_map]
    congr 1
    funext k
    simp [Function.comp, Nat.add_comm, atB]
theorem l2Has_eq (l : List Int) (h : SM l.length) (x : Int) : m_spec_l2Has l x = some (hasI l x) := by
  have e := any_loop0 (b := m_spec_l2Has_L1 l x) (atB l (· == x)) true l.length (by omega) (fun k hk => by
    unfold m_spec_l2Has_L1
    rw [decide_eq_true (by omega), cond_true, idx_at hk, Option.bind_some, atB_at hk]) (by simp [m_spec_l2Has_L1])
  unfold m_spec_l2Has hasI
  rw [e, range_any]
  cases l.any (· == x) <;> rfl
theorem index_eq (l : List Int) (h : SM l.length) (v : Int) : ∃ i, m_slices_Index l v = some i ∧ decide (0 ≤ i) = hasI l v ∧ (i = -1 ∨ ∃ k : Nat, i = k ∧ l[k]? = some v ∧ ∀ j, j < k → l[j]? ≠ some v) := by
  obtain ⟨r, hr, hq⟩ := loop_inv (b := m_slices_Index_L1 l v) (s := 0) (fun k s => s = (k : Int) ∧ ∀ j, j < k → l[j]? ≠ some v)
    (fun r => match r with | .inl _ => ∀ j, j < l.length → l[j]? ≠ some v | .inr i => ∃ k : Nat, i = k ∧ l[k]? = some v ∧ ∀ j, j < k → l[j]? ≠ some v) l.length (by omega) ⟨rfl, fun j hj => by omega⟩ (fun k s hk hs => by
    obtain ⟨rfl, hs⟩ := hs
    unfold m_slices_Index_L1
    rw [decide_eq_true (by omega), cond_true, idx_at hk, Option.bind_some]
    cases hv : v == l[k] with
    | true => exact .inr ⟨_, rfl, k, rfl, by rw [List.getElem?_eq_getElem hk, eq_of_beq hv], hs⟩
    | false =>
      refine .inl ⟨_, rfl, w64_succ (by omega), fun j hj => ?_⟩
      by_cases hjk : j = k
      · subst hjk
        rw [List.getElem?_eq_getElem hk]
        intro h2
        injection h2 with h2
        rw [h2] at hv
        simp at hv
      · exact hs j (by omega)) (fun s hs => by
    obtain ⟨rfl, hs⟩ := hs
    exact ⟨.inl (), by simp [m_slices_Index_L1], hs⟩)
  unfold m_slices_Index
  rw [hr]
  rcases r with ⟨⟨⟩⟩ | i
  · refine ⟨-1, rfl, ?_, .inl rfl⟩
    unfold hasI
    have : l.any (· == v) = false := by
      rw [← Bool.not_eq_true, List.any_eq_true]
      rintro ⟨x, hx, h2⟩
      obtain ⟨j, hj, rfl⟩ := List.mem_iff_getElem.1 hx
      exact hq j hj (by rw [List.getElem?_eq_getElem hj, eq_of_beq h2])
    rw [this]
    rfl
  · obtain ⟨k, rfl, h1, h2⟩ := hq
    refine ⟨k, rfl, ?_, .inr ⟨k, rfl, h1, h2⟩⟩
    rw [decide_eq_true (by omega)]
    unfold hasI
    symm
    rw [List.any_eq_true]
    exact ⟨v, List.mem_of_getElem? h1, by simp⟩
theorem contains_eq (l : List Int) (h : SM l.length) (x : Int) : m_slices_Contains l x = some (hasI l x) := by
  obtain ⟨i, h1, h2, _⟩ := index_eq l h x
  unfold m_slices_Contains
  rw [h1, Option.bind_some, h2]
end Go.Proofs.Ytfiiebikkimjbaa
