/- Parts of a proof that a law of the program holds: what the program computes, and why that is right. -/
import Derived.Test.YteognanhfpbghaaZFnConnected1
section
set_option linter.unusedVariables false
set_option linter.unusedSimpArgs false
set_option linter.unnecessarySimpa false
open Go Go.Fw
namespace Go.Proofs.Yteognanhfpbghaa
theorem l1In_eq (x lo hi : Int) : m_spec_l1In x lo hi = some (decide (lo ≤ x) && decide (x ≤ hi)) := by
  unfold m_spec_l1In
  cases decide (lo ≤ x) <;> simp
theorem within_eq (x lo hi : Int) : m_impl_within x lo hi = some (decide (lo ≤ x) && decide (x ≤ hi)) := by
  unfold m_impl_within
  cases decide (lo ≤ x) <;> simp
theorem compareInts_eq (a b : Int) : m_impl_compareInts a b = some (if a < b then -1 else if b < a then 1 else 0) := by
  unfold m_impl_compareInts
  by_cases h1 : a < b
  · simp [h1]
  · by_cases h2 : b < a <;> simp [h1, h2]
def barGt (x y : TBar) : Bool := decide (y.A < x.A) || (x.A == y.A && decide (y.B < x.B))
theorem compareBars_some (x y : TBar) : ∃ c, m_impl_compareBars x y = some c ∧ decide (0 < c) = barGt x y := by
  unfold m_impl_compareBars barGt
  rw [compareInts_eq, compareInts_eq]
  by_cases h1 : x.A < y.A
  · have h3 : (x.A == y.A) = false := by simp; omega
    exact ⟨-1, by simp [h1], by simp [h3]; omega⟩
  · by_cases h2 : y.A < x.A
    · exact ⟨1, by simp [h1, h2], by simp [h2]⟩
    · have : x.A = y.A := by omega
      by_cases h3 : x.B < y.B
      · exact ⟨-1, by simp [this, h3], by simp [this]; omega⟩
      · by_cases h4 : y.B < x.B
        · exact ⟨1, by simp [this, h3, h4], by simp [this, h4]⟩
        · exact ⟨0, by simp [this, h3, h4], by simp [this]; omega⟩
theorem l2After_eq (x y : TBar) : m_spec_l2After x y = some (!barGt x y) := by
  unfold m_spec_l2After barGt
  by_cases h1 : x.A < y.A
  · have h3 : (x.A == y.A) = false := by simp; omega
    simp [h1, h3]; omega
  · by_cases h2 : y.A < x.A
    · have h3 : (x.A == y.A) = false := by simp; omega
      simp [h1, h2, h3]
    · have : x.A = y.A := by omega
      by_cases h4 : y.B < x.B
      · have h5 : ¬ x.B ≤ y.B := by omega
        simp [this, h4, h5]
      · have h5 : x.B ≤ y.B := by omega
        simp [this, h4, h5]
def badBar (g : TGraph) (k : Nat) : Bool := match g.Bars[k]? with
  | none => false
  | some x => decide (x.A < 0) || decide (x.B ≤ x.A) || decide (g.Points ≤ x.B) || (decide (0 < k) && match g.Bars[k - 1]? with
    | none => false
    | some y => barGt y x)
def vG (g : TGraph) : Bool := decide (1 ≤ g.Points) && decide (g.Points ≤ 8) && !decide (24 < (g.Bars.length : Int)) && !(List.range' 0 g.Bars.length).any (badBar g)
theorem isGraphI_eq (g : TGraph) (h : SM g.Bars.length) : m_impl_IsGraph g = some (vG g) := by
  have e : loopM (m_impl_IsGraph_L1 g) BIG 0 = some (bif (List.range' 0 g.Bars.length).any (badBar g) then .inr false else .inl ()) := by
    refine any_loop0 (badBar g) false g.Bars.length (by omega) (fun k hk => ?_) (by simp [m_impl_IsGraph_L1])
    unfold m_impl_IsGraph_L1 badBar
    rw [decide_eq_true (by omega), cond_true, idx_at hk, Option.bind_some, List.getElem?_eq_getElem hk]
    simp only
    cases decide (g.Bars[k].A < 0)
    · cases decide (g.Bars[k].B ≤ g.Bars[k].A)
      · cases decide (g.Points ≤ g.Bars[k].B)
        · by_cases h0 : 0 < k
          · have e1 : w64 ((k : Int) - 1) = ((k - 1 : Nat) : Int) := by rw [w64_small (by omega) (by omega)]; omega
            obtain ⟨c, hc, hd⟩ := compareBars_some (g.Bars[k - 1]'(by omega)) g.Bars[k]
            rw [decide_eq_true (show (0 : Int) < (k : Int) by omega), decide_eq_true h0, e1, idx_at (show k - 1 < g.Bars.length by omega), List.getElem?_eq_getElem (show k - 1 < g.Bars.length by omega)]
            simp only [cond_false, cond_true, Option.bind_some, hc, hd, Bool.false_or, Bool.true_and]
          · rw [decide_eq_false (show ¬ (0 : Int) < (k : Int) by omega), decide_eq_false h0]
            rfl
        · rfl
      · rfl
    · rfl
  unfold m_impl_IsGraph vG
  rw [within_eq, e]
  simp only [Option.bind_some]
  cases decide (1 ≤ g.Points) && decide (g.Points ≤ 8)
  · rfl
  · cases decide (24 < (g.Bars.length : Int))
    · cases (List.range' 0 g.Bars.length).any (badBar g) <;> rfl
    · rfl
theorem isGraph_L1 (g : TGraph) : m_spec_IsGraph_L1 g = m_impl_IsGraph_L1 g := by
  funext s
  unfold m_spec_IsGraph_L1 m_impl_IsGraph_L1
  have e : ∀ x y, ((m_spec_l2After x y).bind fun r => some (!r)) = (m_impl_compareBars x y).bind fun r => some (decide (0 < r)) := fun x y => by
    obtain ⟨c, hc, hd⟩ := compareBars_some x y
    rw [l2After_eq, hc]
    simp [hd]
  simp only [e]
theorem isGraphS_eq (g : TGraph) (h : SM g.Bars.length) : m_spec_IsGraph g = some (vG g) := by
  rw [← isGraphI_eq g h]
  unfold m_spec_IsGraph m_impl_IsGraph
  rw [l1In_eq, within_eq, isGraph_L1]
structure VG (g : TGraph) : Prop where
  p1 : 1 ≤ g.Points
  p8 : g.Points ≤ 8
  len : g.Bars.length ≤ 24
  a0 : ∀ {k : Nat} {x : TBar}, g.Bars[k]? = some x → 0 ≤ x.A
  ab : ∀ {k : Nat} {x : TBar}, g.Bars[k]? = some x → x.A < x.B
  bp : ∀ {k : Nat} {x : TBar}, g.Bars[k]? = some x → x.B < g.Points
  srt : ∀ {k : Nat} {x y : TBar}, g.Bars[k]? = some x → g.Bars[k + 1]? = some y → barGt x y = false
theorem vG_VG {g : TGraph} (h : vG g = true) : VG g := by
  unfold vG at h
  simp only [Bool.and_eq_true, Bool.not_eq_true', decide_eq_true_eq, decide_eq_false_iff_not] at h
  obtain ⟨⟨⟨h1, h2⟩, h3⟩, h4⟩ := h
  rw [any_range_false] at h4
  have hb : ∀ {k : Nat} {x : TBar}, g.Bars[k]? = some x → 0 ≤ x.A ∧ x.A < x.B ∧ x.B < g.Points ∧ ∀ {y : TBar}, 0 < k → g.Bars[k - 1]? = some y → barGt y x = false := fun {k x} hx => by
    have hk : k < g.Bars.length := (List.getElem?_eq_some_iff.1 hx).1
    have := h4 k (by omega) (by omega)
    unfold badBar at this
    rw [hx] at this
    simp only [Bool.or_eq_false_iff, decide_eq_false_iff_not, Bool.and_eq_false_iff] at this
    obtain ⟨⟨⟨a, b⟩, c⟩, d⟩ := this
    refine ⟨by omega, by omega, by omega, fun {y} hk hy => ?_⟩
    rw [hy] at d
    rcases d with d | d
    · exact absurd hk d
    · exact d
  exact ⟨h1, h2, by omega, fun hx => (hb hx).1, fun hx => (hb hx).2.1, fun hx => (hb hx).2.2.1, fun {k x y} hx hy => (hb hy).2.2.2 (by omega) (by simpa using hx)⟩
theorem VG.sm {g : TGraph} (h : VG g) : SM g.Bars.length := by have := h.len; omega
def hasI (l : List Int) (x : Int) : Bool := l.any (· == x)
def atB {α : Type} (l : List α) (p : α → Bool) (k : Nat) : Bool := match l[k]? with
  | some x => p x
  | none => false
theorem atB_at {α : Type} {l : List α} {k : Nat} (h : k < l.length) (p : α → Bool) : atB l p k = p l[k] := by simp [atB, h]
theorem range_any {α : Type} (l : List α) (p : α → Bool) : (List.range' 0 l.length).any (atB l p) = l.any p := by
  induction l with
  | nil => rfl
  | cons x r ih =>
    rw [List.length_cons, List.range'_succ, List.any_cons, List.any_cons]
    congr 1
    rw [← ih, List.range'_eq_map_range, List.range'_eq_map_range, List.any_map, List.any_map]
    congr 1
    funext k
    simp [Function.comp, Nat.add_comm, atB]
theorem l2Has_eq (l : List Int) (h : SM l.length) (x : Int) : m_spec_l2Has l x = some (hasI l x) := by
  have e := any_loop0 (b := m_spec_l2Has_L1 l x) (atB l (· == x)) true l.length (by omega) (fun k hk => by
    unfold m_spec_l2Has_L1
    rw [decide_eq_true (by omega), cond_true, idx_at hk, Option.bind_some, atB_at hk]) (by simp [m_spec_l2Has_L1])
  unfold m_spec_l2Has hasI
  rw [e, range_any]
  cases l.any (· == x) <;> rfl
theorem index_eq (l : List Int) (h : SM l.length) (v : Int) : ∃ i, m_slices_Index l v = some i ∧ decide (0 ≤ i) = hasI l v ∧ (i = -1 ∨ ∃ k : Nat, i = k ∧ l[k]? = some v ∧ ∀ j, j < k → l[j]? ≠ some v) := by
  obtain ⟨r, hr, hq⟩ := loop_inv (b := m_slices_Index_L1 l v) (s := 0) (fun k s => s = (k : Int) ∧ ∀ j, j < k → l[j]? ≠ some v)
    (fun r => match r with | .inl _ => ∀ j, j < l.length → l[j]? ≠ some v | .inr i => ∃ k : Nat, i = k ∧ l[k]? = some v ∧ ∀ j, j < k → l[j]? ≠ some v) l.length (by omega) ⟨rfl, fun j hj => by omega⟩ (fun k s hk hs => by
    obtain ⟨rfl, hs⟩ := hs
    unfold m_slices_Index_L1
    rw [decide_eq_true (by omega), cond_true, idx_at hk, Option.bind_some]
    cases hv : v == l[k] with
    | true => exact .inr ⟨_, rfl, k, rfl, by rw [List.getElem?_eq_getElem hk, eq_of_beq hv], hs⟩
    | false =>
      refine .inl ⟨_, rfl, w64_succ (by omega), fun j hj => ?_⟩
      by_cases hjk : j = k
      · subst hjk
        rw [List.getElem?_eq_getElem hk]
        intro h2
        injection h2 with h2
        rw [h2] at hv
        simp at hv
      · exact hs j (by omega)) (fun s hs => by
    obtain ⟨rfl, hs⟩ := hs
    exact ⟨.inl (), by simp [m_slices_Index_L1], hs⟩)
  unfold m_slices_Index
  rw [hr]
  rcases r with ⟨⟨⟩⟩ | i
  · refine ⟨-1, rfl, ?_, .inl rfl⟩
    unfold hasI
    have : l.any (· == v) = false := by
      rw [← Bool.not_eq_true, List.any_eq_true]
      rintro ⟨x, hx, h2⟩
      obtain ⟨j, hj, rfl⟩ := List.mem_iff_getElem.1 hx
      exact hq j hj (by rw [List.getElem?_eq_getElem hj, eq_of_beq h2])
    rw [this]
    rfl
  · obtain ⟨k, rfl, h1, h2⟩ := hq
    refine ⟨k, rfl, ?_, .inr ⟨k, rfl, h1, h2⟩⟩
    rw [decide_eq_true (by omega)]
    unfold hasI
    symm
    rw [List.any_eq_true]
    exact ⟨v, List.mem_of_getElem? h1, by simp⟩
theorem contains_eq (l : List Int) (h : SM l.length) (x : Int) : m_slices_Contains l x = some (hasI l x) := by
  obtain ⟨i, h1, h2, _⟩ := index_eq l h x
  unfold m_slices_Contains
  rw [h1, Option.bind_some, h2]
end Go.Proofs.Yteognanhfpbghaa
end
section
set_option linter.unusedVariables false
set_option linter.unusedSimpArgs false
set_option linter.unnecessarySimpa false
open Go Go.Fw
namespace Go.Proofs.Yteognanhfpbghaa
theorem idx_in {α : Type} {l : List α} {i : Int} (d : α) (h0 : 0 ≤ i) (h1 : i < (l.length : Int)) : idx l i = some ((l[i.toNat]?).getD d) := by
  unfold idx
  rw [if_pos h0, List.getElem?_eq_getElem (by omega)]
  rfl
def plAt (f : TFramework) (v : Int) : TPlace := (f.Places[v.toNat]?).getD ⟨0, 0⟩
theorem bne_int {a b : Int} : (a != b) = false ↔ a = b := by simp
structure VF (f : TFramework) : Prop where
  g : VG f.Graph
  p6 : f.Graph.Points ≤ 6
  len : f.Graph.Bars.length ≤ 15
  pls : (f.Places.length : Int) = f.Graph.Points
  grid : ∀ {k : Nat} {p : TPlace}, f.Places[k]? = some p → 0 ≤ p.X ∧ p.X ≤ 4 ∧ 0 ≤ p.Y ∧ p.Y ≤ 4
  dif : ∀ {k : Nat} {x : TBar}, f.Graph.Bars[k]? = some x → eqI [(plAt f x.A).X, (plAt f x.A).Y] [(plAt f x.B).X, (plAt f x.B).Y] = false
  nod : ∀ {k : Nat} {x y : TBar}, f.Graph.Bars[k]? = some x → f.Graph.Bars[k + 1]? = some y → eqI [x.A, x.B] [y.A, y.B] = false
end Go.Proofs.Yteognanhfpbghaa
end
section
set_option linter.unusedVariables false
set_option linter.unusedSimpArgs false
set_option linter.unnecessarySimpa false
open Go Go.Fw
namespace Go.Proofs.Yteognanhfpbghaa
def nameStep (set : List Int) (k : Nat) (a : List Int × Nat) : List Int × Nat := bif hasI set k then (a.1 ++ [-1], a.2) else (a.1 ++ [(a.2 : Int)], a.2 + 1)
def names (set : List Int) (n : Nat) : List Int × Nat := iter (nameStep set) n ([], 0)
theorem names_len (set : List Int) : ∀ n, (names set n).1.length = n ∧ (names set n).2 ≤ n
  | 0 => ⟨rfl, Nat.le_refl _⟩
  | n + 1 => by
    have h := names_len set n
    show (nameStep set n (names set n)).1.length = _ ∧ _
    have : names set (n + 1) = nameStep set n (names set n) := rfl
    rw [this]
    unfold nameStep
    cases hasI set n
    · simp only [cond_false]
      exact ⟨by simp [h.1], by omega⟩
    · simp only [cond_true]
      exact ⟨by simp [h.1], by omega⟩
def cnt8 (p : Int) : Nat := (if 0 < (if p < 8 then p else 8) then (if p < 8 then p else 8) else 0).toNat
theorem cnt8_le (p : Int) : cnt8 p ≤ 8 := by unfold cnt8; split <;> (try split) <;> omega
theorem namesS_eq (set : List Int) (hs : SM set.length) (n : Nat) (hn : n ≤ 8) : loopM (m_spec_WithoutPoints_L1 set) BIG (0, 0, List.replicate n 0) = some (((names set n).2 : Int), (names set n).1) := by
  have := fold_loop (b := m_spec_WithoutPoints_L1 set) (s := (0, 0, List.replicate n 0)) (fun k (a : List Int × Nat) => ((a.2 : Int), (k : Int), a.1 ++ List.replicate (n - k) 0)) (nameStep set) (fun k a => a.1.length = k ∧ a.2 ≤ k) (fun a => ((a.2 : Int), a.1)) n ([], 0) (by omega) (by simp) ⟨rfl, Nat.le_refl _⟩ (fun k a hk ha => by
    obtain ⟨l, c⟩ := a
    obtain ⟨h1, h2⟩ := ha
    simp only at h1 h2
    have hi : ∀ x : Int, idx (l ++ List.replicate (n - k) x) (k : Int) = some x := fun x => idx_of (by rw [List.getElem?_append_right (by omega), h1, Nat.sub_self, List.getElem?_replicate, if_pos (by omega)])
    have hset := set_repl l (0 : Int) (-1) k n h1 hk
    have hi2 : idx ((l ++ [-1]) ++ List.replicate (n - (k + 1)) (0 : Int)) (k : Int) = some (-1) := idx_of (by rw [List.append_assoc, List.getElem?_append_right (by omega), h1, Nat.sub_self]; rfl)
    have hset2 : ((l ++ [-1]) ++ List.replicate (n - (k + 1)) (0 : Int)).set k (c : Int) = (l ++ [(c : Int)]) ++ List.replicate (n - (k + 1)) 0 := by
      rw [List.append_assoc, List.set_append_right _ _ (by omega), h1, Nat.sub_self]
      simp
    constructor
    · unfold m_spec_WithoutPoints_L1 nameStep
      simp only [hi, l2Has_eq set hs, Option.bind_some, Int.toNat_natCast, hset, hi2, hset2, w64_succ (show k ≤ 1099511627776 by omega), w64_succ (show c ≤ 1099511627776 by omega)]
      rw [decide_eq_true (by simp; omega), cond_true]
      cases hasI set k <;> rfl
    · unfold nameStep
      cases hasI set k
      · exact ⟨by simp [h1], by simp only [cond_false]; omega⟩
      · exact ⟨by simp [h1], by simp only [cond_true]; omega⟩) (fun a ha => by
    obtain ⟨l, c⟩ := a
    obtain ⟨h1, h2⟩ := ha
    simp only at h1 h2
    unfold m_spec_WithoutPoints_L1
    simp only [Nat.sub_self, List.replicate_zero, List.append_nil]
    rw [decide_eq_false (by omega)]
    rfl)
  exact this.1
theorem namesI_eq (g : TGraph) (set : List Int) (hs : SM set.length) : loopM (m_impl_WithoutPoints_L1 g set) BIG (0, List.replicate (if 0 < (if 8 < g.Points then 8 else g.Points) then (if 8 < g.Points then 8 else g.Points) else 0).toNat 0, 0) = some ((names set (cnt8 g.Points)).1, ((names set (cnt8 g.Points)).2 : Int)) := by
  have hc : (if 0 < (if 8 < g.Points then 8 else g.Points) then (if 8 < g.Points then 8 else g.Points) else 0).toNat = cnt8 g.Points := by
    unfold cnt8
    by_cases h1 : 8 < g.Points
    · rw [if_pos h1, if_neg (show ¬ g.Points < 8 by omega)]
    · by_cases h2 : g.Points < 8
      · rw [if_neg h1, if_pos h2]
      · rw [if_neg h1, if_neg h2, show g.Points = 8 by omega]
  have hn := cnt8_le g.Points
  rw [hc]
  generalize hnn : cnt8 g.Points = n at hn hc
  have := fold_loop (b := m_impl_WithoutPoints_L1 g set) (s := (0, List.replicate n 0, 0)) (fun k (a : List Int × Nat) => ((k : Int), a.1 ++ List.replicate (n - k) 0, (a.2 : Int))) (nameStep set) (fun k a => a.1.length = k ∧ a.2 ≤ k) (fun a => (a.1, (a.2 : Int))) n ([], 0) (by omega) (by simp) ⟨rfl, Nat.le_refl _⟩ (fun k a hk ha => by
    obtain ⟨l, c⟩ := a
    obtain ⟨h1, h2⟩ := ha
    simp only at h1 h2
    have hi : ∀ x : Int, idx (l ++ List.replicate (n - k) x) (k : Int) = some x := fun x => idx_of (by rw [List.getElem?_append_right (by omega), h1, Nat.sub_self, List.getElem?_replicate, if_pos (by omega)])
    have hset := set_repl l (0 : Int) (-1) k n h1 hk
    have hi2 : idx ((l ++ [-1]) ++ List.replicate (n - (k + 1)) (0 : Int)) (k : Int) = some (-1) := idx_of (by rw [List.append_assoc, List.getElem?_append_right (by omega), h1, Nat.sub_self]; rfl)
    have hset2 : ((l ++ [-1]) ++ List.replicate (n - (k + 1)) (0 : Int)).set k (c : Int) = (l ++ [(c : Int)]) ++ List.replicate (n - (k + 1)) 0 := by
      rw [List.append_assoc, List.set_append_right _ _ (by omega), h1, Nat.sub_self]
      simp
    constructor
    · unfold m_impl_WithoutPoints_L1 nameStep
      simp only [hi, contains_eq set hs, Option.bind_some, Int.toNat_natCast, hset, hi2, hset2, w64_succ (show k ≤ 1099511627776 by omega), w64_succ (show c ≤ 1099511627776 by omega), hc, List.length_replicate]
      rw [decide_eq_true (by omega), cond_true]
      cases hasI set k <;> rfl
    · unfold nameStep
      cases hasI set k
      · exact ⟨by simp [h1], by simp only [cond_false]; omega⟩
      · exact ⟨by simp [h1], by simp only [cond_true]; omega⟩) (fun a ha => by
    obtain ⟨l, c⟩ := a
    unfold m_impl_WithoutPoints_L1
    simp only [Nat.sub_self, List.replicate_zero, List.append_nil, hc, List.length_replicate]
    rw [decide_eq_false (by omega)]
    rfl)
  exact this.1
def nm (l : List Int) (v : Int) : Int := (l[v.toNat]?).getD 0
def barN (l : List Int) (x : TBar) : List TBar := bif decide (0 ≤ nm l x.A) && decide (0 ≤ nm l x.B) then [⟨nm l x.A, nm l x.B⟩] else []
def barsN (g : TGraph) (l : List Int) : List TBar := pieces (fun k => match g.Bars[k]? with | some x => barN l x | none => []) g.Bars.length
theorem barN_len (l : List Int) (x : TBar) : (barN l x).length ≤ 1 := by unfold barN; cases decide (0 ≤ nm l x.A) && decide (0 ≤ nm l x.B) <;> simp
theorem barsN_len (g : TGraph) (l : List Int) : (barsN g l).length ≤ g.Bars.length := by
  have := pieces_len (f := fun k => match g.Bars[k]? with | some x => barN l x | none => []) (c := 1) g.Bars.length (fun k hk => by
    simp only [List.getElem?_eq_getElem hk]
    exact barN_len l _)
  unfold barsN
  omega
theorem cnt8_VG {g : TGraph} (h : VG g) : (cnt8 g.Points : Int) = g.Points := by
  have := h.p1
  have := h.p8
  unfold cnt8
  split <;> split <;> (try split) <;> omega
theorem withoutS_L2 {g : TGraph} (h : VG g) (hv : vG g = true) (b : Int × List Int) (hb : (b.2.length : Int) = g.Points) : loopM (m_spec_WithoutPoints_L2 g b) BIG (0, []) = some (barsN g b.2, b.1) := by
  have hl := h.len
  have := app_loop (b := m_spec_WithoutPoints_L2 g b) (s := (0, [])) (fun k out => ((k : Int), out)) (fun k => match g.Bars[k]? with | some x => barN b.2 x | none => []) (fun o => (o, b.1)) 1 g.Bars.length [] (by omega) rfl (fun k hk => by
      simp only [List.getElem?_eq_getElem hk]
      exact barN_len _ _) (fun k out hk ho => by
    have hx := List.getElem?_eq_getElem hk
    have a0 := h.a0 hx
    have ab := h.ab hx
    have bp := h.bp hx
    simp only [List.length_nil, Nat.zero_add, Nat.one_mul] at ho
    unfold m_spec_WithoutPoints_L2 barN nm
    simp only [isGraphS_eq g h.sm, hv, Option.bind_some, idx_at hk, hx, idx_in (0 : Int) a0 (show g.Bars[k].A < (b.2.length : Int) by omega), idx_in (0 : Int) (show 0 ≤ g.Bars[k].B by omega) (show g.Bars[k].B < (b.2.length : Int) by omega)]
    rw [decide_eq_true (by omega)]
    simp only [cond_true, Option.bind_some, w64_succ (show k ≤ 1099511627776 by omega), lim_ok (show out.length + [TBar.mk (b.2[g.Bars[k].A.toNat]?.getD 0) (b.2[g.Bars[k].B.toNat]?.getD 0)].length ≤ 2147483648 by simp; omega)]
    cases decide (0 ≤ b.2[g.Bars[k].A.toNat]?.getD 0)
    · simp
    · cases decide (0 ≤ b.2[g.Bars[k].B.toNat]?.getD 0) <;> simp) (fun out => by simp [m_spec_WithoutPoints_L2])
  rw [this]
  rfl
theorem withoutI_L2 {g : TGraph} (h : VG g) (b : List Int × Int) (hb : (b.1.length : Int) = g.Points) : loopM (m_impl_WithoutPoints_L2 g b) BIG (0, []) = some (b.2, barsN g b.1) := by
  have hl := h.len
  have := app_loop (b := m_impl_WithoutPoints_L2 g b) (s := (0, [])) (fun k out => ((k : Int), out)) (fun k => match g.Bars[k]? with | some x => barN b.1 x | none => []) (fun o => (b.2, o)) 1 g.Bars.length [] (by omega) rfl (fun k hk => by
      simp only [List.getElem?_eq_getElem hk]
      exact barN_len _ _) (fun k out hk ho => by
    have hx := List.getElem?_eq_getElem hk
    have a0 := h.a0 hx
    have ab := h.ab hx
    have bp := h.bp hx
    simp only [List.length_nil, Nat.zero_add, Nat.one_mul] at ho
    unfold m_impl_WithoutPoints_L2 barN nm
    simp only [Option.bind_some, idx_at hk, hx, idx_in (0 : Int) a0 (show g.Bars[k].A < (b.1.length : Int) by omega), idx_in (0 : Int) (show 0 ≤ g.Bars[k].B by omega) (show g.Bars[k].B < (b.1.length : Int) by omega)]
    rw [decide_eq_true (by omega)]
    simp only [cond_true, Option.bind_some, w64_succ (show k ≤ 1099511627776 by omega), lim_ok (show out.length + [TBar.mk (b.1[g.Bars[k].A.toNat]?.getD 0) (b.1[g.Bars[k].B.toNat]?.getD 0)].length ≤ 2147483648 by simp; omega)]
    cases decide (0 ≤ b.1[g.Bars[k].A.toNat]?.getD 0)
    · simp
    · cases decide (0 ≤ b.1[g.Bars[k].B.toNat]?.getD 0) <;> simp) (fun out => by simp [m_impl_WithoutPoints_L2])
  rw [this]
  rfl
def wo (g : TGraph) (set : List Int) : TGraph := ⟨((names set (cnt8 g.Points)).2 : Int), bif vG g then barsN g (names set (cnt8 g.Points)).1 else []⟩
theorem cnt8_toNat (p : Int) : lenOk (if 0 < (if p < 8 then p else 8) then (if p < 8 then p else 8) else 0) = some () := by
  apply lenOk_ok <;> split <;> (try split) <;> omega
theorem cnt8_toNat' (p : Int) : lenOk (if 0 < (if 8 < p then 8 else p) then (if 8 < p then 8 else p) else 0) = some () := by
  apply lenOk_ok <;> split <;> (try split) <;> omega
theorem withoutS_eq (g : TGraph) (set : List Int) (h : SM g.Bars.length) (hs : SM set.length) : m_spec_WithoutPoints g set = some (wo g set) := by
  unfold m_spec_WithoutPoints wo
  rw [cnt8_toNat, Option.bind_some]
  change (loopM (m_spec_WithoutPoints_L1 set) BIG (0, 0, List.replicate (cnt8 g.Points) 0)).bind _ = _
  rw [namesS_eq set hs _ (cnt8_le _), Option.bind_some]
  cases hv : vG g
  · have e : loopM (m_spec_WithoutPoints_L2 g (((names set (cnt8 g.Points)).2 : Int), (names set (cnt8 g.Points)).1)) BIG (0, []) = some ([], ((names set (cnt8 g.Points)).2 : Int)) := by
      refine loopM_run (fun _ => (0, [])) 0 (by omega) rfl (fun k hk => by omega) ?_
      unfold m_spec_WithoutPoints_L2
      rw [isGraphS_eq g h, hv]
      cases decide ((0 : Int) < (g.Bars.length : Int)) <;> rfl
    rw [e]
    rfl
  · have hV := vG_VG hv
    rw [withoutS_L2 hV hv _ (by rw [(names_len set _).1]; exact cnt8_VG hV)]
    rfl
theorem withoutI_eq (g : TGraph) (set : List Int) (h : SM g.Bars.length) (hs : SM set.length) : m_impl_WithoutPoints g set = some (wo g set) := by
  unfold m_impl_WithoutPoints wo
  rw [cnt8_toNat', Option.bind_some, namesI_eq g set hs, Option.bind_some, isGraphI_eq g h, Option.bind_some]
  cases hv : vG g
  · rfl
  · have hV := vG_VG hv
    rw [withoutI_L2 hV _ (by rw [(names_len set _).1]; exact cnt8_VG hV)]
    rfl
theorem has_eq {g : TGraph} (h : VG g) (v : Int) : m_impl_Graph_has g v = some (decide (0 ≤ v) && decide (v < g.Points)) := by
  have h1 := h.p1
  have h8 := h.p8
  unfold m_impl_Graph_has
  rw [within_eq, w64_small (by omega) (by omega), Option.bind_some]
  congr 2
  rw [decide_eq_decide]
  omega
theorem copyGraph_eq (g : TGraph) (h : SM g.Bars.length) : m_impl_copyGraph g = some g := by
  unfold m_impl_copyGraph
  rw [lim_ok (by simp; omega)]
  rfl
theorem l2Copy_eq (g : TGraph) (h : SM g.Bars.length) : m_spec_l2Copy g = some g := by
  unfold m_spec_l2Copy
  rw [lim_ok (by simp; omega)]
  rfl
end Go.Proofs.Yteognanhfpbghaa
end
section
set_option linter.unusedVariables false
set_option linter.unusedSimpArgs false
set_option linter.unnecessarySimpa false
open Go Go.Fw
namespace Go.Proofs.Yteognanhfpbghaa
theorem setId {α : Type} {l : List α} {k : Nat} {x : α} (h : l[k]? = some x) : l.set k x = l := by
  apply List.ext_getElem?
  intro i
  rw [List.getElem?_set]
  by_cases hi : k = i
  · subst hi
    have := (List.getElem?_eq_some_iff.1 h).1
    rw [if_pos rfl, if_pos this, h]
  · rw [if_neg hi]
def spreadB (g : TGraph) (k : Nat) (S : List Bool) : List Bool := match g.Bars[k]? with
  | none => S
  | some x => bif (S[x.A.toNat]?).getD false || (S[x.B.toNat]?).getD false then (S.set x.A.toNat true).set x.B.toNat true else S
def pass (g : TGraph) (S : List Bool) : List Bool := iter (spreadB g) g.Bars.length S
theorem spread_len (g : TGraph) (k : Nat) (S : List Bool) : (spreadB g k S).length = S.length := by
  unfold spreadB
  cases g.Bars[k]? with
  | none => rfl
  | some x => cases h : (S[x.A.toNat]?).getD false || (S[x.B.toNat]?).getD false <;> simp [h]
theorem iter_len (g : TGraph) (S : List Bool) : ∀ n, (iter (spreadB g) n S).length = S.length
  | 0 => rfl
  | n + 1 => (spread_len g n _).trans (iter_len g S n)
theorem pass_len (g : TGraph) (S : List Bool) : (pass g S).length = S.length := iter_len g S _
def passes (g : TGraph) : Nat → List Bool → List Bool
  | 0, S => S
  | n + 1, S => pass g (passes g n S)
theorem passes_len (g : TGraph) (S : List Bool) : ∀ n, (passes g n S).length = S.length
  | 0 => rfl
  | n + 1 => (pass_len g _).trans (passes_len g S n)
theorem passes_fix {g : TGraph} {S : List Bool} {j : Nat} (h : pass g (passes g j S) = passes g j S) : ∀ d, passes g (j + d) S = passes g j S
  | 0 => rfl
  | d + 1 => by
    show pass g (passes g (j + d) S) = _
    rw [passes_fix h d, h]
theorem count_setT {S : List Bool} {i : Nat} {b : Bool} (h : S[i]? = some b) : (S.set i true).count true = S.count true + (if b then 0 else 1) := by
  have hl := (List.getElem?_eq_some_iff.1 h).1
  have hb : S[i] = b := by
    rw [List.getElem?_eq_getElem hl] at h
    injection h
  rw [List.count_set hl, hb]
  cases b with
  | true =>
    have : 0 < S.count true := List.count_pos_iff.2 (List.mem_of_getElem? h)
    simp
    omega
  | false => simp
theorem seen_get {S : List Bool} {v : Int} {n : Int} (hS : (S.length : Int) = n) (v0 : 0 ≤ v) (v1 : v < n) : ∃ b, S[v.toNat]? = some b ∧ idx S v = some b := by
  have h : S[v.toNat]? = some (S[v.toNat]'(by omega)) := List.getElem?_eq_getElem (by omega)
  exact ⟨_, h, by unfold idx; rw [if_pos v0, h]⟩
theorem passI {g : TGraph} (hV : VG g) {S : List Bool} (hS : (S.length : Int) = g.Points) :
    ∃ again, loopM (m_impl_Graph_reach_L4 g) BIG (false, 0, S) = some (again, pass g S) ∧ (again = false → pass g S = S) ∧ (again = true → S.count true < (pass g S).count true) := by
  have hl := hV.len
  obtain ⟨r, hr, h1, h2, h3⟩ := loop_inv (b := m_impl_Graph_reach_L4 g) (s := (false, 0, S)) (fun k s => s.2.1 = (k : Int) ∧ s.2.2 = iter (spreadB g) k S ∧ (s.1 = false → s.2.2 = S) ∧ (s.1 = true → S.count true < s.2.2.count true))
    (fun r => r.2 = pass g S ∧ (r.1 = false → r.2 = S) ∧ (r.1 = true → S.count true < r.2.count true)) g.Bars.length (by omega) ⟨rfl, rfl, fun _ => rfl, fun h => by cases h⟩ (fun k s hk hs => by
      obtain ⟨again, i, T⟩ := s
      obtain ⟨hi, hT, hf, ht⟩ := hs
      simp only at hi hT hf ht
      subst hi
      have hTl : (T.length : Int) = g.Points := by rw [hT, iter_len]; exact hS
      have hx := List.getElem?_eq_getElem hk
      have a0 := hV.a0 hx
      have ab := hV.ab hx
      have bp := hV.bp hx
      obtain ⟨p, hp, hpi⟩ := seen_get hTl a0 (show g.Bars[k].A < g.Points by omega)
      obtain ⟨q, hq, hqi⟩ := seen_get hTl (show 0 ≤ g.Bars[k].B by omega) bp
      have hqi2 : idx (T.set g.Bars[k].A.toNat true) g.Bars[k].B = some q := by
        unfold idx
        rw [if_pos (show 0 ≤ g.Bars[k].B by omega), List.getElem?_set, if_neg (by omega), hq]
      have hq2 : (T.set g.Bars[k].A.toNat true)[g.Bars[k].B.toNat]? = some q := by rw [List.getElem?_set, if_neg (by omega), hq]
      have hsp : iter (spreadB g) (k + 1) S = bif p || q then (T.set g.Bars[k].A.toNat true).set g.Bars[k].B.toNat true else T := by
        show spreadB g k (iter (spreadB g) k S) = _
        rw [← hT]
        unfold spreadB
        rw [hx]
        simp only [hp, hq, Option.getD_some]
      have c1 := count_setT hp
      have c2 := count_setT hq2
      left
      unfold m_impl_Graph_reach_L4
      simp only [idx_of hx, hpi, hqi, hqi2, Option.bind_some, w64_succ (show k ≤ 1099511627776 by omega)]
      rw [decide_eq_true (by omega), cond_true]
      cases p <;> cases q
      · exact ⟨_, rfl, rfl, by rw [hsp]; rfl, hf, ht⟩
      · refine ⟨_, rfl, rfl, by rw [hsp]; rfl, (fun h => by cases h), fun _ => ?_⟩
        have hTS : S.count true ≤ T.count true := by
          cases again with
          | false => rw [hf rfl]; exact Nat.le_refl _
          | true => exact Nat.le_of_lt (ht rfl)
        simp only [Bool.false_eq_true, if_false, if_true] at c1 c2
        show S.count true < ((T.set g.Bars[k].A.toNat true).set g.Bars[k].B.toNat true).count true
        omega
      · refine ⟨_, rfl, rfl, by rw [hsp]; rfl, (fun h => by cases h), fun _ => ?_⟩
        have hTS : S.count true ≤ T.count true := by
          cases again with
          | false => rw [hf rfl]; exact Nat.le_refl _
          | true => exact Nat.le_of_lt (ht rfl)
        simp only [Bool.false_eq_true, if_false, if_true] at c1 c2
        show S.count true < ((T.set g.Bars[k].A.toNat true).set g.Bars[k].B.toNat true).count true
        omega
      · refine ⟨_, rfl, rfl, ?_, hf, ht⟩
        rw [hsp]
        show T = (T.set g.Bars[k].A.toNat true).set g.Bars[k].B.toNat true
        rw [setId hq2, setId hp]) (fun s hs => by
      obtain ⟨again, i, T⟩ := s
      obtain ⟨hi, hT, hf, ht⟩ := hs
      simp only at hi hT hf ht
      subst hi
      refine ⟨(again, T), by simp [m_impl_Graph_reach_L4], hT, hf, ht⟩)
  obtain ⟨again, T⟩ := r
  simp only at h1 h2 h3
  subst h1
  exact ⟨again, hr, h2, h3⟩
theorem passS {g : TGraph} (hV : VG g) {S : List Bool} (hS : (S.length : Int) = g.Points) (s11 : Int × List Bool) : loopM (m_spec_ReachOf_L4 g s11) BIG (0, S) = some (s11.1, pass g S) := by
  have hl := hV.len
  have := fold_loop (b := m_spec_ReachOf_L4 g s11) (s := (0, S)) (fun k (T : List Bool) => ((k : Int), T)) (spreadB g) (fun k T => T.length = S.length) (fun T => (s11.1, T)) g.Bars.length S (by omega) rfl rfl (fun k T hk hT => by
    have hTl : (T.length : Int) = g.Points := by rw [hT]; exact hS
    have hx := List.getElem?_eq_getElem hk
    have a0 := hV.a0 hx
    have ab := hV.ab hx
    have bp := hV.bp hx
    obtain ⟨p, hp, hpi⟩ := seen_get hTl a0 (show g.Bars[k].A < g.Points by omega)
    obtain ⟨q, hq, hqi⟩ := seen_get hTl (show 0 ≤ g.Bars[k].B by omega) bp
    have hqi2 : idx (T.set g.Bars[k].A.toNat true) g.Bars[k].B = some q := by
      unfold idx
      rw [if_pos (show 0 ≤ g.Bars[k].B by omega), List.getElem?_set, if_neg (by omega), hq]
    refine ⟨?_, (spread_len g k T).trans hT⟩
    unfold m_spec_ReachOf_L4 spreadB
    rw [hx]
    simp only [idx_of hx, hpi, hqi, hqi2, hp, hq, Option.getD_some, Option.bind_some, w64_succ (show k ≤ 1099511627776 by omega)]
    rw [decide_eq_true (by omega), cond_true]
    cases p <;> cases q <;> rfl) (fun T _ => by simp [m_spec_ReachOf_L4])
  exact this.1
def start0 (g : TGraph) (v : Nat) : List Bool := (List.replicate g.Points.toNat false).set v true
theorem start0_len {g : TGraph} (hV : VG g) (v : Nat) : ((start0 g v).length : Int) = g.Points := by
  have := hV.p1
  unfold start0
  simp
  omega
def reached (g : TGraph) (v : Nat) : List Bool := passes g g.Points.toNat (start0 g v)
theorem reached_len {g : TGraph} (hV : VG g) (v : Nat) : ((reached g v).length : Int) = g.Points := by
  unfold reached
  rw [passes_len]
  exact start0_len hV v
theorem reachI {g : TGraph} (hV : VG g) {v : Nat} (hv : (v : Int) < g.Points) : m_impl_Graph_reach g (v : Int) = some (reached g v) := by
  have h1 := hV.p1
  have h8 := hV.p8
  have hsl := start0_len hV v
  have hc0 : (start0 g v).count true = 1 := by
    unfold start0
    rw [List.count_set (by simp; omega), List.getElem_replicate]
    simp [List.count_replicate]
  obtain ⟨r, hr, hq⟩ := loop_inv (b := m_impl_Graph_reach_L3 g) (s := (true, start0 g v)) (fun j s => s.2 = passes g j (start0 g v) ∧ (s.1 = true → j + 1 ≤ (passes g j (start0 g v)).count true) ∧ (s.1 = false → pass g s.2 = s.2 ∧ j ≤ g.Points.toNat))
    (fun r => r = reached g v) (g.Points.toNat + 1) (by omega) ⟨rfl, fun _ => by show 0 + 1 ≤ (start0 g v).count true; omega, fun h => by cases h⟩ (fun j s hj hs => by
      obtain ⟨again, S⟩ := s
      obtain ⟨hS, ht, hf⟩ := hs
      simp only at hS ht hf
      have hSl : (S.length : Int) = g.Points := by rw [hS, passes_len]; exact hsl
      cases again with
      | false =>
        right
        refine ⟨S, by simp [m_impl_Graph_reach_L3], ?_⟩
        obtain ⟨hfix, hjp⟩ := hf rfl
        unfold reached
        obtain ⟨d, hd⟩ : ∃ d, g.Points.toNat = j + d := ⟨g.Points.toNat - j, by omega⟩
        rw [hd, passes_fix (by rw [← hS]; exact hfix), ← hS]
      | true =>
        left
        obtain ⟨again', e1, e2, e3⟩ := passI hV hSl
        have hcl := List.count_le_length (a := true) (l := S)
        have hjc := ht rfl
        rw [← hS] at hjc
        refine ⟨(again', pass g S), ?_, ?_, fun h => ?_, fun h => ?_⟩
        · unfold m_impl_Graph_reach_L3
          rw [cond_true, e1]
          rfl
        · show pass g S = pass g (passes g j (start0 g v))
          rw [hS]
        · have := e3 h
          show j + 1 + 1 ≤ (pass g (passes g j (start0 g v))).count true
          rw [← hS]
          omega
        · refine ⟨?_, by omega⟩
          show pass g (pass g S) = pass g S
          rw [e2 h]
          exact e2 h) (fun s hs => by
      obtain ⟨again, S⟩ := s
      obtain ⟨hS, ht, hf⟩ := hs
      simp only at hS ht hf
      have hSl : (S.length : Int) = g.Points := by rw [hS, passes_len]; exact hsl
      have hcl := List.count_le_length (a := true) (l := S)
      cases again with
      | false => have := (hf rfl).2; omega
      | true =>
        have := ht rfl
        rw [← hS] at this
        omega)
  have hi : idx (List.replicate g.Points.toNat false) (v : Int) = some false := idx_of (by rw [List.getElem?_replicate, if_pos (by omega)])
  unfold m_impl_Graph_reach
  rw [lenOk_ok (by omega) (by omega), hi]
  simp only [Option.bind_some, Int.toNat_natCast]
  change (loopM (m_impl_Graph_reach_L3 g) BIG (true, start0 g v)).bind _ = _
  rw [hr, hq]
  rfl
theorem reachS {g : TGraph} (hV : VG g) (v : Nat) : loopM (m_spec_ReachOf_L3 g) BIG (0, start0 g v) = some (reached g v) := by
  have h1 := hV.p1
  have h8 := hV.p8
  refine loopM_run (fun n => ((n : Int), passes g n (start0 g v))) g.Points.toNat (by omega) rfl (fun n hn => ?_) ?_
  · unfold m_spec_ReachOf_L3
    simp only [passS hV (S := passes g n (start0 g v)) (by rw [passes_len]; exact start0_len hV v), Option.bind_some, w64_succ (show n ≤ 1099511627776 by omega)]
    rw [decide_eq_true (by omega), cond_true]
    rfl
  · unfold m_spec_ReachOf_L3
    simp only
    rw [decide_eq_false (by omega)]
    rfl
def listed (S : List Bool) : List Int := pieces (fun k => bif (S[k]?).getD false then [(k : Int)] else []) S.length
theorem reachOfI {g : TGraph} (hv : vG g = true) {v : Nat} (hvp : (v : Int) < g.Points) : m_impl_ReachOf g (v : Int) = some (listed (reached g v)) := by
  have hV := vG_VG hv
  have h8 := hV.p8
  have hlen := reached_len hV v
  unfold m_impl_ReachOf
  rw [isGraphI_eq g hV.sm, hv, has_eq hV, decide_eq_true (show (0 : Int) ≤ (v : Int) by omega), decide_eq_true hvp]
  simp only [Option.bind_some, Bool.not_true, Bool.and_self, cond_false, reachI hV hvp]
  have := app_loop (b := m_impl_ReachOf_L1 (reached g v)) (s := (0, [])) (fun n out => ((n : Int), out)) (fun k => bif ((reached g v)[k]?).getD false then [(k : Int)] else []) id 1 (reached g v).length [] (by omega) rfl (fun k _ => by cases ((reached g v)[k]?).getD false <;> simp) (fun k out hk ho => by
    have hx := List.getElem?_eq_getElem hk
    simp only [List.length_nil, Nat.zero_add, Nat.one_mul] at ho
    unfold m_impl_ReachOf_L1
    simp only [idx_of hx, hx, Option.getD_some, Option.bind_some, w64_succ (show k ≤ 1099511627776 by omega), lim_ok (show out.length + ([(k : Int)] : List Int).length ≤ 2147483648 by simp; omega)]
    rw [decide_eq_true (by omega), cond_true]
    cases (reached g v)[k] <;> simp) (fun out => by simp [m_impl_ReachOf_L1])
  rw [this]
  rfl
theorem reachOfS {g : TGraph} (hv : vG g = true) {v : Nat} (hvp : (v : Int) < g.Points) : m_spec_ReachOf g (v : Int) = some (listed (reached g v)) := by
  have hV := vG_VG hv
  have h1 := hV.p1
  have h8 := hV.p8
  have hlen := reached_len hV v
  have hi : idx (List.replicate g.Points.toNat false) (v : Int) = some false := idx_of (by rw [List.getElem?_replicate, if_pos (by omega)])
  unfold m_spec_ReachOf
  rw [isGraphS_eq g hV.sm, hv, decide_eq_false (show ¬ (v : Int) < 0 by omega), decide_eq_false (show ¬ g.Points ≤ (v : Int) by omega), lenOk_ok (by omega) (by omega), hi]
  simp only [Option.bind_some, Bool.not_true, cond_false, Int.toNat_natCast]
  change (loopM (m_spec_ReachOf_L3 g) BIG (0, start0 g v)).bind _ = _
  rw [reachS hV v, Option.bind_some]
  have hP : g.Points.toNat = (reached g v).length := by omega
  have := app_loop (b := m_spec_ReachOf_L5 g (reached g v)) (s := (0, [])) (fun n out => ((n : Int), out)) (fun k => bif ((reached g v)[k]?).getD false then [(k : Int)] else []) id 1 (reached g v).length [] (by omega) rfl (fun k _ => by cases ((reached g v)[k]?).getD false <;> simp) (fun k out hk ho => by
    have hx := List.getElem?_eq_getElem hk
    simp only [List.length_nil, Nat.zero_add, Nat.one_mul] at ho
    unfold m_spec_ReachOf_L5
    simp only [idx_of hx, hx, Option.getD_some, Option.bind_some, w64_succ (show k ≤ 1099511627776 by omega), lim_ok (show out.length + ([(k : Int)] : List Int).length ≤ 2147483648 by simp; omega)]
    rw [decide_eq_true (by omega), cond_true]
    cases (reached g v)[k] <;> simp) (fun out => by
    unfold m_spec_ReachOf_L5
    simp only
    rw [decide_eq_false (by omega)]
    rfl)
  rw [this]
  rfl
def conn (g : TGraph) : Bool := vG g && ((listed (reached g 0)).length : Int) == g.Points
theorem connI_eq (g : TGraph) (h : SM g.Bars.length) : m_impl_IsConnected g = some (conn g) := by
  unfold m_impl_IsConnected conn
  rw [isGraphI_eq g h]
  cases hv : vG g
  · rfl
  · have := reachOfI hv (v := 0) (by have := (vG_VG hv).p1; omega)
    simp only [Option.bind_some, cond_true, Bool.true_and]
    rw [show (0 : Int) = ((0 : Nat) : Int) from rfl, this]
    rfl
theorem connS_eq (g : TGraph) (h : SM g.Bars.length) : m_spec_IsConnected g = some (conn g) := by
  unfold m_spec_IsConnected conn
  rw [isGraphS_eq g h]
  cases hv : vG g
  · rfl
  · have := reachOfS hv (v := 0) (by have := (vG_VG hv).p1; omega)
    simp only [Option.bind_some, cond_true, Bool.true_and]
    rw [show (0 : Int) = ((0 : Nat) : Int) from rfl, this]
    rfl
def bitOf (mask : Int) (k : Nat) : Bool := (bits .and .i64 (shrI mask (k : Int)) 1) == 1
def maskSet (mask : Int) (n : Nat) : List Int := pieces (fun k => bif bitOf mask k then [(k : Int)] else []) n
theorem maskSet_len (mask : Int) (n : Nat) : (maskSet mask n).length ≤ n := by
  have := pieces_len (f := fun k => bif bitOf mask k then [(k : Int)] else []) (c := 1) n (fun k _ => by cases bitOf mask k <;> simp)
  unfold maskSet
  omega
theorem nn_ok {n : Int} (h : 0 ≤ n) : nn n = some () := by unfold nn; rw [if_pos h]
theorem setOf_eq (mask : Int) {n : Int} (h0 : 0 ≤ n) (h : n ≤ 1000) : m_impl_setOf mask n = some (maskSet mask n.toNat) := by
  have := app_loop (b := m_impl_setOf_L1 mask n) (s := (0, [])) (fun k out => ((k : Int), out)) (fun k => bif bitOf mask k then [(k : Int)] else []) id 1 n.toNat [] (by omega) rfl (fun k _ => by cases bitOf mask k <;> simp) (fun k out hk ho => by
    simp only [List.length_nil, Nat.zero_add, Nat.one_mul] at ho
    unfold m_impl_setOf_L1 bitOf
    simp only [nn_ok (show (0 : Int) ≤ (k : Int) by omega), Option.bind_some, w64_succ (show k ≤ 1099511627776 by omega), lim_ok (show out.length + ([(k : Int)] : List Int).length ≤ 2147483648 by simp; omega)]
    rw [decide_eq_true (by omega), cond_true]
    cases (bits .and .i64 (shrI mask (k : Int)) 1) == 1 <;> simp) (fun out => by
    unfold m_impl_setOf_L1
    simp only
    rw [decide_eq_false (by omega)]
    rfl)
  unfold m_impl_setOf
  rw [this]
  rfl
theorem l3Set_eq (mask : Int) {n : Int} (h0 : 0 ≤ n) (h : n ≤ 1000) : m_spec_l3Set n mask = some (maskSet mask n.toNat) := by
  have := app_loop (b := m_spec_l3Set_L1 n mask) (s := (0, [])) (fun k out => ((k : Int), out)) (fun k => bif bitOf mask k then [(k : Int)] else []) id 1 n.toNat [] (by omega) rfl (fun k _ => by cases bitOf mask k <;> simp) (fun k out hk ho => by
    simp only [List.length_nil, Nat.zero_add, Nat.one_mul] at ho
    unfold m_spec_l3Set_L1 bitOf
    simp only [nn_ok (show (0 : Int) ≤ (k : Int) by omega), Option.bind_some, w64_succ (show k ≤ 1099511627776 by omega), lim_ok (show out.length + ([(k : Int)] : List Int).length ≤ 2147483648 by simp; omega)]
    rw [decide_eq_true (by omega), cond_true]
    cases (bits .and .i64 (shrI mask (k : Int)) 1) == 1 <;> simp) (fun out => by
    unfold m_spec_l3Set_L1
    simp only
    rw [decide_eq_false (by omega)]
    rfl)
  unfold m_spec_l3Set
  rw [this]
  rfl
theorem hasI_mask (mask : Int) (i : Nat) : ∀ n, hasI (maskSet mask n) (i : Int) = (decide (i < n) && bitOf mask i)
  | 0 => by simp [maskSet, pieces, hasI]
  | n + 1 => by
    have ih := hasI_mask mask i n
    unfold hasI maskSet at ih ⊢
    show ((pieces (fun k => bif bitOf mask k then [(k : Int)] else []) n) ++ (bif bitOf mask n then [(n : Int)] else [])).any (· == (i : Int)) = _
    rw [List.any_append, ih]
    by_cases hin : i = n
    · subst hin
      rw [decide_eq_false (Nat.lt_irrefl i), decide_eq_true (Nat.lt_succ_self i)]
      cases bitOf mask i <;> simp
    · have h1 : decide (i < n + 1) = decide (i < n) := by rw [decide_eq_decide]; omega
      rw [h1]
      have h2 : ((bif bitOf mask n then [(n : Int)] else []) : List Int).any (· == (i : Int)) = false := by
        cases bitOf mask n
        · rfl
        · simp
          omega
      rw [h2, Bool.or_false]
theorem names_mask (mask : Int) (N : Nat) : ∀ n, n ≤ N → (names (maskSet mask N) n).2 + (maskSet mask n).length = n
  | 0, _ => rfl
  | n + 1, h => by
    have ih := names_mask mask N n (by omega)
    have e : names (maskSet mask N) (n + 1) = nameStep (maskSet mask N) n (names (maskSet mask N) n) := rfl
    have e2 : maskSet mask (n + 1) = maskSet mask n ++ (bif bitOf mask n then [(n : Int)] else []) := rfl
    rw [e, e2, List.length_append]
    unfold nameStep
    rw [hasI_mask, decide_eq_true (show n < N by omega), Bool.true_and]
    cases bitOf mask n
    · simp only [cond_false, List.length_nil]
      omega
    · simp only [cond_true, List.length_singleton]
      omega
def isCut (g : TGraph) (k : Int) (mask : Nat) : Bool := (((maskSet (mask : Int) g.Points.toNat).length : Int) == k) && (decide (2 ≤ g.Points - k) && !conn (wo g (maskSet (mask : Int) g.Points.toNat)))
def cuts (g : TGraph) (k : Int) : List (List Int) := bif vG g && (decide (0 ≤ k) && decide (k ≤ 3)) then pieces (fun mask => bif isCut g k mask then [maskSet (mask : Int) g.Points.toNat] else []) (2 ^ g.Points.toNat) else []
theorem shl_pow {P : Int} (h1 : 1 ≤ P) (h8 : P ≤ 8) : shlI 1 P = ((2 ^ P.toNat : Nat) : Int) ∧ 2 ^ P.toNat ≤ 256 := by
  have : P = 1 ∨ P = 2 ∨ P = 3 ∨ P = 4 ∨ P = 5 ∨ P = 6 ∨ P = 7 ∨ P = 8 := by omega
  rcases this with h | h | h | h | h | h | h | h <;> subst h <;> exact ⟨rfl, by decide⟩
theorem wo_points {g : TGraph} (hV : VG g) (mask : Int) : (wo g (maskSet mask g.Points.toNat)).Points = g.Points - ((maskSet mask g.Points.toNat).length : Int) := by
  have hc := cnt8_VG hV
  have hcn : cnt8 g.Points = g.Points.toNat := by omega
  have := names_mask mask g.Points.toNat g.Points.toNat (Nat.le_refl _)
  unfold wo
  simp only [hcn]
  have := hV.p1
  omega
theorem wo_sm {g : TGraph} (hV : VG g) (set : List Int) : SM (wo g set).Bars.length := by
  unfold wo
  cases vG g
  · exact Nat.zero_le _
  · have := barsN_len g (names set (cnt8 g.Points)).1
    have := hV.len
    show SM (barsN g _).length
    omega
theorem cutsI_eq (g : TGraph) (h : SM g.Bars.length) (k : Int) : m_impl_CutSets g k = some (cuts g k) := by
  unfold m_impl_CutSets cuts
  rw [isGraphI_eq g h, within_eq]
  cases hv : vG g
  · rfl
  · cases hk : decide (0 ≤ k) && decide (k ≤ 3)
    · rfl
    · have hV := vG_VG hv
      have h1 := hV.p1
      have h8 := hV.p8
      obtain ⟨e1, e2⟩ := shl_pow h1 h8
      simp only [Bool.and_eq_true, decide_eq_true_eq] at hk
      have := app_loop (b := m_impl_CutSets_L1 g k) (s := (0, [])) (fun n out => ((n : Int), out)) (fun mask => bif isCut g k mask then [maskSet (mask : Int) g.Points.toNat] else []) id 1 (2 ^ g.Points.toNat) [] (by omega) rfl (fun m _ => by cases isCut g k m <;> simp) (fun m out hm ho => by
        have hsl := maskSet_len (m : Int) g.Points.toNat
        simp only [List.length_nil, Nat.zero_add, Nat.one_mul] at ho
        unfold m_impl_CutSets_L1 isCut
        simp only [e1, setOf_eq (m : Int) (show 0 ≤ g.Points by omega) (by omega), withoutI_eq g _ h (show SM (maskSet (m : Int) g.Points.toNat).length by omega), connI_eq _ (wo_sm hV _), wo_points hV, Option.bind_some, w64_succ (show m ≤ 1099511627776 by omega), lim_ok (show out.length + [maskSet (m : Int) g.Points.toNat].length ≤ 2147483648 by simp; omega), lim_ok (show out.length + 1 ≤ 2147483648 by omega)]
        rw [decide_eq_true (by omega), cond_true]
        by_cases hkl : ((maskSet (m : Int) g.Points.toNat).length : Int) = k
        · rw [show (((maskSet (m : Int) g.Points.toNat).length : Int) != k) = false by simp [hkl], show (((maskSet (m : Int) g.Points.toNat).length : Int) == k) = true by simp [hkl], hkl]
          cases decide (2 ≤ g.Points - k)
          · simp
          · cases conn (wo g (maskSet (m : Int) g.Points.toNat)) <;> simp
        · rw [show (((maskSet (m : Int) g.Points.toNat).length : Int) != k) = true by simp [hkl], show (((maskSet (m : Int) g.Points.toNat).length : Int) == k) = false by simp [hkl]]
          simp) (fun out => by
        unfold m_impl_CutSets_L1
        simp only [e1]
        rw [decide_eq_false (by omega)]
        rfl)
      simp only [Option.bind_some, Bool.not_true, cond_false, nn_ok (show 0 ≤ g.Points by omega), this]
      rfl
theorem cutsS_eq (g : TGraph) (h : SM g.Bars.length) (k : Int) : m_spec_CutSets g k = some (cuts g k) := by
  unfold m_spec_CutSets cuts
  rw [isGraphS_eq g h, l1In_eq]
  cases hv : vG g
  · rfl
  · cases hk : decide (0 ≤ k) && decide (k ≤ 3)
    · rfl
    · have hV := vG_VG hv
      have h1 := hV.p1
      have h8 := hV.p8
      obtain ⟨e1, e2⟩ := shl_pow h1 h8
      simp only [Bool.and_eq_true, decide_eq_true_eq] at hk
      have hw : w64 (g.Points - k) = g.Points - k := w64_small (by omega) (by omega)
      have := app_loop (b := m_spec_CutSets_L1 g k) (s := (0, [])) (fun n out => ((n : Int), out)) (fun mask => bif isCut g k mask then [maskSet (mask : Int) g.Points.toNat] else []) id 1 (2 ^ g.Points.toNat) [] (by omega) rfl (fun m _ => by cases isCut g k m <;> simp) (fun m out hm ho => by
        have hsl := maskSet_len (m : Int) g.Points.toNat
        simp only [List.length_nil, Nat.zero_add, Nat.one_mul] at ho
        unfold m_spec_CutSets_L1 isCut
        simp only [e1, hw, nn_ok (show 0 ≤ g.Points by omega), l3Set_eq (m : Int) (show 0 ≤ g.Points by omega) (by omega), withoutS_eq g _ h (show SM (maskSet (m : Int) g.Points.toNat).length by omega), connS_eq _ (wo_sm hV _), Option.bind_some, w64_succ (show m ≤ 1099511627776 by omega), lim_ok (show out.length + [maskSet (m : Int) g.Points.toNat].length ≤ 2147483648 by simp; omega)]
        rw [decide_eq_true (by omega), cond_true]
        cases ((maskSet (m : Int) g.Points.toNat).length : Int) == k
        · simp
        · cases decide (2 ≤ g.Points - k)
          · simp
          · cases conn (wo g (maskSet (m : Int) g.Points.toNat)) <;> simp) (fun out => by
        unfold m_spec_CutSets_L1
        simp only [e1, nn_ok (show 0 ≤ g.Points by omega), Option.bind_some]
        rw [decide_eq_false (by omega)]
        rfl)
      simp only [Option.bind_some, Bool.not_true, cond_false, this]
      rfl
theorem cuts_len (g : TGraph) (k : Int) : (cuts g k).length ≤ 256 := by
  unfold cuts
  cases hv : vG g && (decide (0 ≤ k) && decide (k ≤ 3))
  · exact Nat.zero_le _
  · simp only [Bool.and_eq_true] at hv
    have hV := vG_VG hv.1
    have := pieces_len (f := fun mask => bif isCut g k mask then [maskSet (mask : Int) g.Points.toNat] else []) (c := 1) (2 ^ g.Points.toNat) (fun m _ => by cases isCut g k m <;> simp)
    have := (shl_pow hV.p1 hV.p8).2
    simp only [cond_true]
    omega
def kconn (g : TGraph) (k : Int) : Bool := (vG g && ((decide (1 ≤ k) && decide (k ≤ 3)) && !decide (g.Points ≤ k))) && !(List.range' 0 k.toNat).any (fun i => decide (0 < ((cuts g (i : Int)).length : Int)))
theorem kconnI_eq (g : TGraph) (h : SM g.Bars.length) (k : Int) : m_impl_IsKConnected g k = some (kconn g k) := by
  unfold m_impl_IsKConnected kconn
  rw [isGraphI_eq g h, within_eq]
  cases hv : vG g
  · rfl
  · cases hk : decide (1 ≤ k) && decide (k ≤ 3)
    · rfl
    · cases decide (g.Points ≤ k)
      · simp only [Bool.and_eq_true, decide_eq_true_eq] at hk
        have e := any_loop0 (b := m_impl_IsKConnected_L1 g k) (fun i => decide (0 < ((cuts g (i : Int)).length : Int))) false k.toNat (by omega) (fun i hi => by
          unfold m_impl_IsKConnected_L1
          rw [decide_eq_true (by omega), cond_true, cutsI_eq g h, Option.bind_some]) (by
          unfold m_impl_IsKConnected_L1
          rw [decide_eq_false (by omega)]
          rfl)
        simp only [Option.bind_some, Bool.not_true, Bool.not_false, Bool.and_self, cond_false, e, Bool.true_and]
        cases (List.range' 0 k.toNat).any (fun i => decide (0 < ((cuts g (i : Int)).length : Int))) <;> rfl
      · rfl
theorem kconnS_eq (g : TGraph) (h : SM g.Bars.length) (k : Int) : m_spec_IsKConnected g k = some (kconn g k) := by
  unfold m_spec_IsKConnected kconn
  rw [isGraphS_eq g h, l1In_eq]
  cases hv : vG g
  · rfl
  · cases hk : decide (1 ≤ k) && decide (k ≤ 3)
    · rfl
    · cases decide (g.Points ≤ k)
      · simp only [Bool.and_eq_true, decide_eq_true_eq] at hk
        have e := any_loop0 (b := m_spec_IsKConnected_L1 g k) (fun i => decide (0 < ((cuts g (i : Int)).length : Int))) false k.toNat (by omega) (fun i hi => by
          unfold m_spec_IsKConnected_L1
          rw [decide_eq_true (by omega), cond_true, cutsS_eq g h, Option.bind_some]) (by
          unfold m_spec_IsKConnected_L1
          rw [decide_eq_false (by omega)]
          rfl)
        simp only [Option.bind_some, Bool.not_true, Bool.not_false, Bool.and_self, cond_false, e, Bool.true_and]
        cases (List.range' 0 k.toNat).any (fun i => decide (0 < ((cuts g (i : Int)).length : Int))) <;> rfl
      · rfl
def connOf (g : TGraph) : Int := bif kconn g 3 then 3 else bif kconn g 2 then 2 else bif kconn g 1 then 1 else 0
theorem conn_both (g : TGraph) (h : g.Bars.length ≤ 1048576) : m_spec_ConnectivityOf g = some (connOf g) ∧ m_impl_ConnectivityOf g = some (connOf g) := by
  have hs : SM g.Bars.length := by omega
  refine ⟨?_, ?_⟩
  · have e := loopM_run (b := m_spec_ConnectivityOf_L1 g) (s := (0, 1)) (r := connOf g) (fun j => match j with
      | 0 => ((0 : Int), (1 : Int))
      | 1 => ((bif kconn g 1 then 1 else 0), 2)
      | 2 => ((bif kconn g 2 then 2 else bif kconn g 1 then 1 else 0), 3)
      | _ => (connOf g, 4)) 3 (by omega) rfl (fun j hj => by
        have : j = 0 ∨ j = 1 ∨ j = 2 := by omega
        rcases this with rfl | rfl | rfl
        · simp only [m_spec_ConnectivityOf_L1, kconnS_eq g hs, Option.bind_some]
          cases kconn g 1 <;> rfl
        · simp only [m_spec_ConnectivityOf_L1, kconnS_eq g hs, Option.bind_some]
          cases kconn g 2 <;> rfl
        · simp only [m_spec_ConnectivityOf_L1, kconnS_eq g hs, Option.bind_some, connOf]
          cases kconn g 3 <;> rfl) rfl
    unfold m_spec_ConnectivityOf
    rw [e]
    rfl
  · unfold m_impl_ConnectivityOf connOf
    have step : ∀ (k k' : Int), k = 1 ∧ k' = 0 ∨ k = 2 ∧ k' = 1 ∨ k = 3 ∧ k' = 2 → m_impl_ConnectivityOf_L1 g k = bif kconn g k then some (.inr (.inr k)) else some (.inl k') := fun k k' hk => by
      unfold m_impl_ConnectivityOf_L1
      rw [kconnI_eq g hs]
      rcases hk with ⟨rfl, rfl⟩ | ⟨rfl, rfl⟩ | ⟨rfl, rfl⟩ <;> rfl
    cases h3 : kconn g 3
    · cases h2 : kconn g 2
      · cases h1 : kconn g 1
        · have e := loopM_run (b := m_impl_ConnectivityOf_L1 g) (s := 3) (r := .inl ()) (fun j => match j with | 0 => (3 : Int) | 1 => 2 | 2 => 1 | _ => 0) 3 (by omega) rfl (fun j hj => by
            have : j = 0 ∨ j = 1 ∨ j = 2 := by omega
            rcases this with rfl | rfl | rfl
            · show m_impl_ConnectivityOf_L1 g 3 = _
              rw [step 3 2 (by omega), h3]; rfl
            · show m_impl_ConnectivityOf_L1 g 2 = _
              rw [step 2 1 (by omega), h2]; rfl
            · show m_impl_ConnectivityOf_L1 g 1 = _
              rw [step 1 0 (by omega), h1]; rfl) rfl
          rw [e]
          rfl
        · have e := loopM_run (b := m_impl_ConnectivityOf_L1 g) (s := 3) (r := .inr 1) (fun j => match j with | 0 => (3 : Int) | 1 => 2 | _ => 1) 2 (by omega) rfl (fun j hj => by
            have : j = 0 ∨ j = 1 := by omega
            rcases this with rfl | rfl
            · show m_impl_ConnectivityOf_L1 g 3 = _
              rw [step 3 2 (by omega), h3]; rfl
            · show m_impl_ConnectivityOf_L1 g 2 = _
              rw [step 2 1 (by omega), h2]; rfl) (by show m_impl_ConnectivityOf_L1 g 1 = _; rw [step 1 0 (by omega), h1]; rfl)
          rw [e]
          rfl
      · have e := loopM_run (b := m_impl_ConnectivityOf_L1 g) (s := 3) (r := .inr 2) (fun j => match j with | 0 => (3 : Int) | _ => 2) 1 (by omega) rfl (fun j hj => by
          have : j = 0 := by omega
          subst this
          show m_impl_ConnectivityOf_L1 g 3 = _
          rw [step 3 2 (by omega), h3]; rfl) (by show m_impl_ConnectivityOf_L1 g 2 = _; rw [step 2 1 (by omega), h2]; rfl)
        rw [e]
        rfl
    · have e := loopM_run (b := m_impl_ConnectivityOf_L1 g) (s := 3) (r := .inr 3) (fun _ => (3 : Int)) 0 (by omega) rfl (fun j hj => by omega) (by show m_impl_ConnectivityOf_L1 g 3 = _; rw [step 3 2 (by omega), h3]; rfl)
      rw [e]
      rfl
end Go.Proofs.Yteognanhfpbghaa
end
section
set_option linter.unusedVariables false
set_option linter.unusedSimpArgs false
set_option linter.unnecessarySimpa false
open Go Go.Fw
namespace Go.Proofs.Yteognanhfpbghaa
theorem copyInts_eq (l : List Int) (h : SM l.length) : m_impl_copyInts l = some l := by
  unfold m_impl_copyInts
  rw [lim_ok (by simp; omega)]
  rfl
structure VV (f : TFramework) (v : List Int) : Prop where
  fr : VF f
  len : (v.length : Int) = 2 * f.Graph.Points
  sm : ∀ {k : Nat} {x : Int}, v[k]? = some x → -10000000000 ≤ x ∧ x ≤ 10000000000
def gv (v : List Int) (i : Int) : Int := (v[i.toNat]?).getD 0
theorem VV.lt {f : TFramework} {v : List Int} (h : VV f v) {i : Int} (h0 : 0 ≤ i) (h1 : i < 2 * f.Graph.Points) : -10000000000 ≤ gv v i ∧ gv v i ≤ 10000000000 := by
  have hl := h.len
  have hn : i.toNat < v.length := by omega
  refine h.sm (k := i.toNat) ?_
  unfold gv
  rw [List.getElem?_eq_getElem hn]
  rfl
def otherE (x : TBar) (v : Int) : Int := bif x.A == v then x.B else x.A
end Go.Proofs.Yteognanhfpbghaa
end
section
set_option linter.unusedVariables false
set_option linter.unusedSimpArgs false
set_option linter.unnecessarySimpa false
open Go Go.Fw
namespace Go.Proofs.Yteognanhfpbghaa
theorem loop_inv2 {σ σ' τ τ' : Type} {b : σ → Option (σ ⊕ τ)} {b' : σ' → Option (σ' ⊕ τ')} {s : σ} {s' : σ'} (I : Nat → σ → σ' → Prop) (Q : τ → τ' → Prop) (n : Nat) (hn : n ≤ 1099511627776) (h0 : I 0 s s')
    (h : ∀ k s s', k < n → I k s s' → (∃ t t', b s = some (.inl t) ∧ b' s' = some (.inl t') ∧ I (k + 1) t t') ∨ ∃ r r', b s = some (.inr r) ∧ b' s' = some (.inr r') ∧ Q r r')
    (hr : ∀ s s', I n s s' → ∃ r r', b s = some (.inr r) ∧ b' s' = some (.inr r') ∧ Q r r') : ∃ r r', loopM b BIG s = some r ∧ loopM b' BIG s' = some r' ∧ Q r r' := by
  have go : ∀ (j k f : Nat) (s : σ) (s' : σ'), k + j = n → j < f → I k s s' → ∃ r r', loopM b f s = some r ∧ loopM b' f s' = some r' ∧ Q r r' := by
    intro j
    induction j with
    | zero =>
      intro k f s s' hk hf hi
      obtain ⟨f, rfl⟩ : ∃ g, f = g + 1 := ⟨f - 1, by omega⟩
      have : k = n := by omega
      subst this
      obtain ⟨r, r', h1, h2, h3⟩ := hr s s' hi
      exact ⟨r, r', by unfold loopM; rw [h1], by unfold loopM; rw [h2], h3⟩
    | succ j ih =>
      intro k f s s' hk hf hi
      obtain ⟨f, rfl⟩ : ∃ g, f = g + 1 := ⟨f - 1, by omega⟩
      rcases h k s s' (by omega) hi with ⟨t, t', h1, h2, h3⟩ | ⟨r, r', h1, h2, h3⟩
      · obtain ⟨r, r', h4, h5, h6⟩ := ih (k + 1) f t t' (by omega) (by omega) h3
        exact ⟨r, r', by unfold loopM; rw [h1]; exact h4, by unfold loopM; rw [h2]; exact h5, h6⟩
      · exact ⟨r, r', by unfold loopM; rw [h1], by unfold loopM; rw [h2], h3⟩
  exact go n 0 BIG s s' (by omega) (BIG_gt hn) h0
structure GB (P : Int) (bars : List TBar) : Prop where
  p1 : 1 ≤ P
  p8 : P ≤ 8
  len : bars.length ≤ 1000
  a0 : ∀ {k : Nat} {x : TBar}, bars[k]? = some x → 0 ≤ x.A
  ab : ∀ {k : Nat} {x : TBar}, bars[k]? = some x → x.A ≠ x.B
  b0 : ∀ {k : Nat} {x : TBar}, bars[k]? = some x → 0 ≤ x.B
  ap : ∀ {k : Nat} {x : TBar}, bars[k]? = some x → x.A < P
  bp : ∀ {k : Nat} {x : TBar}, bars[k]? = some x → x.B < P
theorem VG.gb {g : TGraph} (h : VG g) : GB g.Points g.Bars :=
  ⟨h.p1, h.p8, by have := h.len; omega, h.a0, fun hx => by have := h.ab hx; omega, fun hx => by have := h.a0 hx; have := h.ab hx; omega, fun hx => by have := h.ab hx; have := h.bp hx; omega, h.bp⟩
def pbar (bars : List TBar) (p : TPebbles) (i : Nat) : TBar := ((p.Placed[i]?).bind fun e => bars[e.toNat]?).getD ⟨0, 0⟩
structure PB (P : Int) (bars : List TBar) (k : Int) (m : Nat) (p : TPebbles) : Prop where
  k1 : 1 ≤ k
  k3 : k ≤ 3
  fl : (p.Free.length : Int) = P
  tl : p.Tails.length = p.Placed.length
  pl : p.Placed.length ≤ m
  pr : ∀ {i : Nat} {e : Int}, p.Placed[i]? = some e → 0 ≤ e ∧ e < (bars.length : Int) ∧ e < (m : Int)
  inc : ∀ {i : Nat} {e e' : Int}, p.Placed[i]? = some e → p.Placed[i + 1]? = some e' → e < e'
  ends : ∀ {i : Nat} {t : Int}, p.Tails[i]? = some t → t = (pbar bars p i).A ∨ t = (pbar bars p i).B
  fr : ∀ {v : Nat} {f : Int}, p.Free[v]? = some f → 0 ≤ f ∧ f + (p.Tails.count (v : Int) : Int) = k
section
variable {P : Int} {bars : List TBar} {k : Int} {m : Nat} {p : TPebbles}
theorem PB.bar (hg : GB P bars) (h : PB P bars k m p) {i : Nat} (hi : i < p.Placed.length) : ∃ e, p.Placed[i]? = some e ∧ idx bars e = some (pbar bars p i) ∧ bars[e.toNat]? = some (pbar bars p i) := by
  have h1 := List.getElem?_eq_getElem hi
  obtain ⟨e0, e1, _⟩ := h.pr h1
  refine ⟨_, h1, ?_⟩
  have h2 : bars[p.Placed[i].toNat]? = some (pbar bars p i) := by
    unfold pbar
    rw [h1]
    simp only [Option.bind_some]
    rw [List.getElem?_eq_getElem (by omega)]
    rfl
  refine ⟨?_, h2⟩
  unfold idx
  rw [if_pos e0, h2]
theorem PB.pbar_ok (hg : GB P bars) (h : PB P bars k m p) {i : Nat} (hi : i < p.Placed.length) : 0 ≤ (pbar bars p i).A ∧ 0 ≤ (pbar bars p i).B ∧ (pbar bars p i).A ≠ (pbar bars p i).B ∧ (pbar bars p i).A < P ∧ (pbar bars p i).B < P := by
  obtain ⟨e, _, _, h2⟩ := h.bar hg hi
  exact ⟨hg.a0 h2, hg.b0 h2, hg.ab h2, hg.ap h2, hg.bp h2⟩
theorem other_S (x : TBar) (v : Int) (hp : P ≤ 8) (h : 0 ≤ x.A ∧ 0 ≤ x.B ∧ x.A ≠ x.B ∧ x.A < P ∧ x.B < P) (hv : v = x.A ∨ v = x.B) : m_spec_l4Other x v = some (otherE x v) := by
  unfold m_spec_l4Other otherE
  rw [w64_small (n := x.A + x.B) (by omega) (by omega)]
  rcases hv with rfl | rfl
  · rw [w64_small (by omega) (by omega), beq_self_eq_true, cond_true]
    congr 1
    omega
  · have : (x.A == x.B) = false := by simp; exact h.2.2.1
    rw [w64_small (by omega) (by omega), this, cond_false]
    congr 1
    omega
theorem other_I (x : TBar) (v : Int) : m_impl_Bar_other x v = some (otherE x v) := by
  unfold m_impl_Bar_other otherE
  cases x.A == v <;> rfl
theorem other_ok {x : TBar} {v : Int} (h : 0 ≤ x.A ∧ 0 ≤ x.B ∧ x.A ≠ x.B ∧ x.A < P ∧ x.B < P) (hv : v = x.A ∨ v = x.B) : 0 ≤ otherE x v ∧ otherE x v < P ∧ otherE x v ≠ v ∧ (otherE x v = x.A ∨ otherE x v = x.B) ∧ otherE x (otherE x v) = v := by
  unfold otherE
  rcases hv with rfl | rfl
  · have e : (x.A == x.B) = false := by simp; exact h.2.2.1
    simp only [beq_self_eq_true, cond_true, e, cond_false]
    exact ⟨by omega, by omega, by omega, .inr trivial, trivial⟩
  · have e : (x.A == x.B) = false := by simp; exact h.2.2.1
    simp only [e, cond_false, beq_self_eq_true, cond_true]
    exact ⟨by omega, by omega, by omega, .inl trivial, trivial⟩
theorem mget_put (m : List (Int × Int)) (k v j : Int) : mget (mput m k v) j = if j = k then v else mget m j := by
  induction m with
  | nil =>
    simp only [mput, mget]
    by_cases h : j = k
    · simp [h]
    · have : (j == k) = false := by simp [h]
      simp [h, this]
  | cons e r ih =>
    unfold mput
    cases hk : k == e.1 with
    | true =>
      rw [beq_iff_eq] at hk
      simp only [cond_true, mget]
      by_cases h : j = k
      · simp [h]
      · have h1 : (j == k) = false := by simp [h]
        have h2 : (j == e.1) = false := by simp [← hk, h]
        simp [h, h1, h2]
    | false =>
      simp only [cond_false, mget, ih]
      by_cases h : j = e.1
      · have h1 : ¬ j = k := fun h2 => by
          rw [← h2, h] at hk
          simp at hk
        simp [h, h1]
        intro h3
        exact absurd (h.trans h3) h1
      · have h1 : (j == e.1) = false := by simp [h]
        simp [h1]
theorem mhas_put (m : List (Int × Int)) (k v j : Int) : mhas (mput m k v) j = (decide (j = k) || mhas m j) := by
  induction m with
  | nil =>
    simp only [mput, mhas]
    by_cases h : j = k
    · simp [h]
    · have : (j == k) = false := by simp [h]
      simp [h, this]
  | cons e r ih =>
    unfold mput
    cases hk : k == e.1 with
    | true =>
      rw [beq_iff_eq] at hk
      simp only [cond_true, mhas]
      by_cases h : j = k
      · simp [h]
      · have h1 : (j == k) = false := by simp [h]
        have h2 : (j == e.1) = false := by simp [← hk, h]
        simp [h, h1, h2]
    | false =>
      simp only [cond_false, mhas, ih]
      cases hj : j == e.1 <;> simp
structure BF (P : Int) (bars : List TBar) (p : TPebbles) (a : Int) (q : List Int) (M : List (Int × Int)) (F : List Int) (S : List Bool) : Prop where
  first : q[0]? = some a
  nd : ∀ {i j : Nat} {v : Int}, q[i]? = some v → q[j]? = some v → i = j
  rng : ∀ {i : Nat} {v : Int}, q[i]? = some v → 0 ≤ v ∧ v < P
  sl : (S.length : Int) = P
  fl : (F.length : Int) = P
  cnt : q.length = S.count true
  seen : ∀ {v : Nat} {s : Bool}, S[v]? = some s → (s = true ↔ (v : Int) ∈ q)
  has : ∀ v : Int, mhas M v = true ↔ v ∈ q
  from_ : ∀ {v : Nat} {f : Int}, F[v]? = some f → (v : Int) ∈ q → f = mget M v
  way : ∀ {j : Nat} {v : Int}, 0 < j → q[j]? = some v → ∃ (i j' : Nat) (t : Int), mget M v = i ∧ i < p.Placed.length ∧ j' < j ∧ q[j']? = some t ∧ p.Tails[i]? = some t ∧ otherE (pbar bars p i) t = v
theorem BF.len {a : Int} {q : List Int} {M : List (Int × Int)} {F : List Int} {S : List Bool} (h : BF P bars p a q M F S) : (q.length : Int) ≤ P := by
  have := List.count_le_length (a := true) (l := S)
  have := h.cnt
  have := h.sl
  omega
theorem BF.more (hg : GB P bars) (hp : PB P bars k m p) {a : Int} {q : List Int} {M : List (Int × Int)} {F : List Int} {S : List Bool} (h : BF P bars p a q M F S) {i j : Nat} {t u : Int} (hi : i < p.Placed.length) (hj : q[j]? = some t) (ht : p.Tails[i]? = some t) (hu : otherE (pbar bars p i) t = u) (hn : u ∉ q) :
    BF P bars p a (q ++ [u]) (mput M u i) (F.set u.toNat i) (S.set u.toNat true) := by
  have hends := hp.ends ht
  obtain ⟨u0, u1, _, _, _⟩ := other_ok (hp.pbar_ok hg hi) hends
  rw [hu] at u0 u1
  have hjl := (List.getElem?_eq_some_iff.1 hj).1
  have hget : ∀ {r : Nat} {v : Int}, (q ++ [u])[r]? = some v → (r < q.length ∧ q[r]? = some v) ∨ (r = q.length ∧ v = u) := fun {r v} hr => by
    rw [List.getElem?_append] at hr
    split at hr
    · exact .inl ⟨by assumption, hr⟩
    · right
      have hrl : r - q.length = 0 := by
        rcases Nat.eq_zero_or_pos (r - q.length) with h0 | h0
        · exact h0
        · rw [List.getElem?_eq_none (by simp; omega)] at hr
          cases hr
      rw [hrl] at hr
      simp at hr
      exact ⟨by omega, hr.symm⟩
  have hmem : ∀ {r : Nat} {v : Int}, q[r]? = some v → v ∈ q := fun hr => List.mem_of_getElem? hr
  have hsl := h.sl
  have hsu : S[u.toNat]? = some (S[u.toNat]'(by omega)) := List.getElem?_eq_getElem (by omega)
  have hsf : S[u.toNat]'(by omega) = false := by
    cases hb : S[u.toNat]'(by omega) with
    | false => rfl
    | true =>
      rw [hb] at hsu
      have := (h.seen hsu).1 rfl
      rw [Int.toNat_of_nonneg u0] at this
      exact absurd this hn
  refine ⟨?_, ?_, ?_, by simpa using h.sl, by simpa using h.fl, ?_, ?_, ?_, ?_, ?_⟩
  · rw [List.getElem?_append_left (by omega)]
    exact h.first
  · intro r s v hr hs
    rcases hget hr with ⟨h1, h2⟩ | ⟨h1, h2⟩ <;> rcases hget hs with ⟨h3, h4⟩ | ⟨h3, h4⟩
    · exact h.nd h2 h4
    · subst h4; exact absurd (hmem h2) hn
    · subst h2; exact absurd (hmem h4) hn
    · omega
  · intro r v hr
    rcases hget hr with ⟨_, h2⟩ | ⟨_, rfl⟩
    · exact h.rng h2
    · exact ⟨u0, u1⟩
  · have := h.cnt
    rw [List.count_set (by omega), hsf, List.length_append]
    simp
    omega
  · intro v s hv
    rw [List.getElem?_set] at hv
    rw [List.mem_append, List.mem_singleton]
    by_cases huv : u.toNat = v
    · rw [if_pos huv] at hv
      split at hv
      · injection hv with hv
        subst hv
        simp only [true_iff]
        right
        omega
      · cases hv
    · rw [if_neg huv] at hv
      rw [h.seen hv]
      constructor
      · exact .inl
      · rintro (h1 | h1)
        · exact h1
        · omega
  · intro v
    rw [mhas_put, Bool.or_eq_true, decide_eq_true_eq, h.has, List.mem_append, List.mem_singleton]
    exact Or.comm
  · intro v f hv hq
    rw [List.getElem?_set] at hv
    rw [mget_put]
    by_cases huv : u.toNat = v
    · rw [if_pos huv] at hv
      rw [if_pos (by omega)]
      split at hv
      · injection hv with hv
        exact hv.symm
      · cases hv
    · rw [if_neg huv] at hv
      rw [if_neg (by omega)]
      refine h.from_ hv ?_
      rw [List.mem_append, List.mem_singleton] at hq
      rcases hq with h1 | h1
      · exact h1
      · omega
  · intro r v h0 hr
    rcases hget hr with ⟨h1, h2⟩ | ⟨h1, rfl⟩
    · obtain ⟨i', j', t', w1, w2, w3, w4, w5, w6⟩ := h.way h0 h2
      have hvu : v ≠ u := fun e => hn (e ▸ hmem h2)
      exact ⟨i', j', t', by rw [mget_put, if_neg hvu]; exact w1, w2, w3, by rw [List.getElem?_append_left (List.getElem?_eq_some_iff.1 w4).1]; exact w4, w5, w6⟩
    · exact ⟨i, j, t, by rw [mget_put, if_pos rfl], hi, by omega, by rw [List.getElem?_append_left hjl]; exact hj, ht, hu⟩
theorem BF.start (hg : GB P bars) {a : Int} (a0 : 0 ≤ a) (a1 : a < P) {F : List Int} (hf : (F.length : Int) = P) (hF : ∀ {v : Nat} {f : Int}, F[v]? = some f → f = -1) : BF P bars p a [a] (mput [] a (-1)) F ((List.replicate P.toNat false).set a.toNat true) := by
  have hp1 := hg.p1
  have hget : ∀ {r : Nat} {v : Int}, ([a] : List Int)[r]? = some v → r = 0 ∧ v = a := fun {r v} hr => by
    cases r with
    | zero => simp at hr; exact ⟨rfl, hr.symm⟩
    | succ r => simp at hr
  refine ⟨rfl, fun h1 h2 => by rw [(hget h1).1, (hget h2).1], fun hr => by obtain ⟨_, rfl⟩ := hget hr; exact ⟨a0, a1⟩, by simp; omega, hf, ?_, ?_, ?_, ?_, ?_⟩
  · rw [List.count_set (by simp; omega), List.getElem_replicate]
    simp [List.count_replicate]
  · intro v s hv
    rw [List.mem_singleton]
    rw [List.getElem?_set] at hv
    by_cases hav : a.toNat = v
    · rw [if_pos hav] at hv
      split at hv
      · injection hv with hv
        subst hv
        simp only [true_iff]
        omega
      · cases hv
    · rw [if_neg hav, List.getElem?_replicate] at hv
      split at hv
      · injection hv with hv
        subst hv
        simp
        omega
      · cases hv
  · intro v
    rw [mhas_put, List.mem_singleton]
    simp [mhas]
  · intro v f hv hq
    rw [List.mem_singleton] at hq
    rw [mget_put, if_pos hq]
    exact hF hv
  · intro j v h0 hr
    have := (hget hr).1
    omega
theorem set_get {α : Type} {l : List α} {i j : Nat} {x y : α} (h : (l.set i x)[j]? = some y) : (i = j ∧ y = x) ∨ (i ≠ j ∧ l[j]? = some y) := by
  rw [List.getElem?_set] at h
  by_cases hij : i = j
  · rw [if_pos hij] at h
    split at h
    · injection h with h
      exact .inl ⟨hij, h.symm⟩
    · cases h
  · rw [if_neg hij] at h
    exact .inr ⟨hij, h⟩
structure TW (p : TPebbles) (bars : List TBar) (q : List Int) (M : List (Int × Int)) (u : Int) (j : Nat) (at_ : Int) (T : List Int) : Prop where
  atj : q[j]? = some at_
  tl : T.length = p.Tails.length
  keep : ∀ {r : Nat} {v : Int}, r ≤ j → 0 < r → q[r]? = some v → T[(mget M v).toNat]? = p.Tails[(mget M v).toNat]?
  ends : ∀ {i : Nat} {t : Int}, T[i]? = some t → t = (pbar bars p i).A ∨ t = (pbar bars p i).B
  cnt : ∀ v : Int, (T.count v : Int) = p.Tails.count v + (if v = u then 1 else 0) - (if v = at_ then 1 else 0)
theorem TW.step (hg : GB P bars) (hp : PB P bars k m p) {a : Int} {q : List Int} {M : List (Int × Int)} {F : List Int} {S : List Bool} (h : BF P bars p a q M F S) {u at_ : Int} {j : Nat} {T : List Int} (hT : TW p bars q M u j at_ T) (hne : at_ ≠ a) :
    ∃ (i j' : Nat) (t : Int), mget M at_ = i ∧ i < p.Placed.length ∧ j' < j ∧ T[i]? = some t ∧ otherE (pbar bars p i) at_ = t ∧ TW p bars q M u j' t (T.set i at_) := by
  have hj0 : 0 < j := by
    rcases Nat.eq_zero_or_pos j with h0 | h0
    · subst h0
      have := h.first.symm.trans hT.atj
      injection this with this
      exact absurd this.symm hne
    · exact h0
  obtain ⟨i, j', t, w1, w2, w3, w4, w5, w6⟩ := h.way hj0 hT.atj
  have hk := hT.keep (Nat.le_refl _) hj0 hT.atj
  rw [w1, Int.toNat_natCast, w5] at hk
  obtain ⟨_, _, o3, o4, o5⟩ := other_ok (hp.pbar_ok hg w2) (hp.ends w5)
  rw [w6] at o3 o4 o5
  have hil := (List.getElem?_eq_some_iff.1 hk).1
  have hig : T[i] = t := by
    rw [List.getElem?_eq_getElem hil] at hk
    injection hk
  refine ⟨i, j', t, w1, w2, w3, hk, o5, w4, by simpa using hT.tl, ?_, ?_, ?_⟩
  · intro r v hr h0 hq
    have hri : (mget M v).toNat ≠ i := fun e => by
      obtain ⟨i2, _, t2, x1, x2, _, _, x5, x6⟩ := h.way h0 hq
      rw [x1, Int.toNat_natCast] at e
      subst e
      rw [w5] at x5
      injection x5 with x5
      subst x5
      have : v = at_ := x6.symm.trans w6
      subst this
      have := h.nd hq hT.atj
      omega
    rw [List.getElem?_set, if_neg (Ne.symm hri)]
    exact hT.keep (by omega) h0 hq
  · intro i2 t2 h2
    rcases set_get h2 with ⟨rfl, rfl⟩ | ⟨_, h3⟩
    · exact o4
    · exact hT.ends h3
  · intro v
    rw [List.count_set hil, hig]
    have hc := hT.cnt v
    have hpos : t = v → 0 < T.count v := fun e => by
      subst e
      exact List.count_pos_iff.2 (List.mem_of_getElem? hk)
    by_cases h1 : v = t
    · subst h1
      have := hpos rfl
      have h3 : ¬ v = at_ := fun e => o3 e.symm
      have h4 : (at_ == v) = false := by simp; exact fun e => h3 e.symm
      simp only [beq_self_eq_true, if_true, h4, Bool.false_eq_true, if_false, if_neg h3] at hc ⊢
      omega
    · have h2 : (t == v) = false := by simp; exact fun e => h1 e.symm
      by_cases h3 : v = at_
      · subst h3
        simp only [h2, Bool.false_eq_true, if_false, beq_self_eq_true, if_true, if_neg h1] at hc ⊢
        omega
      · have h4 : (at_ == v) = false := by simp; exact fun e => h3 e.symm
        simp only [h2, h4, Bool.false_eq_true, if_false, if_neg h1, if_neg h3] at hc ⊢
        omega
theorem turn_both (hg : GB P bars) (hp : PB P bars k m p) {g : TGraph} (hgp : g.Points = P) (hgb : g.Bars = bars) {a : Int} {q : List Int} {M : List (Int × Int)} {F : List Int} {S : List Bool} (h : BF P bars p a q M F S) {u : Int} {j : Nat} (hu : q[j]? = some u) (r1 : TPebbles) (x2 x4 : Int) (s1 : Int × List (Int × Int) × List Int) (hM : mput s1.2.1 u s1.1 = M) :
    ∃ T, loopM (m_spec_l4Shift_L1 g p F a u r1 x2 x4) BIG (u, p.Tails) = some (((r1.Free.set u.toNat (w64 (x2 - 1))).set a.toNat (w64 (x4 + 1))), T, r1.Placed) ∧
      loopM (m_impl_moveTo_L11 p a s1 u x2 x4) BIG (u, p.Tails) = some (((p.Free.set u.toNat (w64 (x2 - 1))).set a.toNat (w64 (x4 + 1))), T) ∧ TW p bars q M u 0 a T := by
  have hql := h.len
  have h8 := hg.p8
  have hjl := (List.getElem?_eq_some_iff.1 hu).1
  obtain ⟨r, r', e1, e2, T, rfl, rfl, hT⟩ := loop_inv2 (b := m_spec_l4Shift_L1 g p F a u r1 x2 x4) (b' := m_impl_moveTo_L11 p a s1 u x2 x4) (s := (u, p.Tails)) (s' := (u, p.Tails))
    (fun n s s' => ∃ (j' : Nat) (at_ : Int) (T : List Int), s = (at_, T) ∧ s' = (at_, T) ∧ j' + n ≤ j ∧ TW p bars q M u j' at_ T)
    (fun r r' => ∃ T, r = (((r1.Free.set u.toNat (w64 (x2 - 1))).set a.toNat (w64 (x4 + 1))), T, r1.Placed) ∧ r' = (((p.Free.set u.toNat (w64 (x2 - 1))).set a.toNat (w64 (x4 + 1))), T) ∧ TW p bars q M u 0 a T) (j + 1) (by omega)
    ⟨j, u, p.Tails, rfl, rfl, by omega, hu, rfl, fun _ _ _ => rfl, hp.ends, fun v => by omega⟩ (fun n s s' hn hs => by
      obtain ⟨j', at_, T, rfl, rfl, hj', hT⟩ := hs
      by_cases hat : at_ = a
      · subst hat
        have hj0 : j' = 0 := h.nd hT.atj h.first
        subst hj0
        refine .inr ⟨_, _, ?_, ?_, T, rfl, rfl, hT⟩
        · unfold m_spec_l4Shift_L1
          simp
        · unfold m_impl_moveTo_L11
          simp
      · obtain ⟨i, j2, t, w1, w2, w3, w4, w5, w6⟩ := hT.step hg hp h hat
        have hb : (at_ != a) = true := by simp; exact hat
        obtain ⟨e, hpe, hbe, hbe2⟩ := hp.bar hg w2
        have hpi : idx p.Placed (i : Int) = some e := idx_of hpe
        have hrng := h.rng hT.atj
        have hFl := h.fl
        have hFat : idx F at_ = some (i : Int) := by
          have hl : F[at_.toNat]? = some (F[at_.toNat]'(by omega)) := List.getElem?_eq_getElem (by omega)
          have := h.from_ hl (by rw [Int.toNat_of_nonneg hrng.1]; exact List.mem_of_getElem? hT.atj)
          rw [Int.toNat_of_nonneg hrng.1, w1] at this
          unfold idx
          rw [if_pos hrng.1, hl, this]
        have hTi : idx T (i : Int) = some t := idx_of w4
        refine .inl ⟨(t, T.set i at_), (t, T.set i at_), ?_, ?_, j2, t, T.set i at_, rfl, rfl, by omega, w6⟩
        · have ho : m_spec_l4Other (pbar bars p i) at_ = some t := by
            rw [other_S (P := P) _ _ h8 (hp.pbar_ok hg w2) ?_, w5]
            obtain ⟨_, _, _, o4, _⟩ := other_ok (hp.pbar_ok hg w2) (hT.ends w4)
            have hte := hT.ends w4
            unfold otherE at w5
            by_cases hA : (pbar bars p i).A = at_
            · exact .inl hA.symm
            · have : ((pbar bars p i).A == at_) = false := by simp [hA]
              rw [this, cond_false] at w5
              -- the other end of at_ is A: at_ is B
              obtain ⟨i3, _, t3, z1, z2, _, _, z5, z6⟩ := h.way (j := j') (by
                rcases Nat.eq_zero_or_pos j' with h0 | h0
                · subst h0
                  have := h.first.symm.trans hT.atj
                  injection this with this
                  exact absurd this.symm hat
                · exact h0) hT.atj
              rw [w1] at z1
              have : i3 = i := by omega
              subst this
              obtain ⟨_, _, _, o4', _⟩ := other_ok (hp.pbar_ok hg z2) (hp.ends z5)
              rw [z6] at o4'
              exact o4'
          unfold m_spec_l4Shift_L1
          simp only [hb, cond_true, hFat, hpi, hgb, hbe, ho, hTi, Option.bind_some, Int.toNat_natCast]
        · unfold m_impl_moveTo_L11
          simp only [hb, cond_true, hM, w1, hTi, Option.bind_some, Int.toNat_natCast]) (fun s s' hs => by
      obtain ⟨j', at_, T, rfl, rfl, hj', hT⟩ := hs
      omega)
  exact ⟨T, e1, e2, hT⟩
theorem PB.moved (hg : GB P bars) (hp : PB P bars k m p) {q : List Int} {M : List (Int × Int)} {u a : Int} {T : List Int} {fu fa : Int} (hT : TW p bars q M u 0 a T) (u0 : 0 ≤ u) (a0 : 0 ≤ a) (hua : u ≠ a) (hfu : p.Free[u.toNat]? = some fu) (hfa : p.Free[a.toNat]? = some fa) (hpos : 0 < fu) :
    PB P bars k m ⟨(p.Free.set u.toNat (fu - 1)).set a.toNat (fa + 1), T, p.Placed⟩ := by
  refine ⟨hp.k1, hp.k3, by simpa using hp.fl, hT.tl.trans hp.tl, hp.pl, hp.pr, hp.inc, hT.ends, ?_⟩
  intro v f hv
  change 0 ≤ f ∧ f + (T.count (v : Int) : Int) = k
  have hc := hT.cnt (v : Int)
  rcases set_get hv with ⟨h1, rfl⟩ | ⟨h1, h2⟩
  · have hva : (v : Int) = a := by omega
    have hf := hp.fr hfa
    rw [Int.toNat_of_nonneg a0] at hf
    rw [hva, if_neg (Ne.symm hua), if_pos rfl] at hc
    rw [hva]
    omega
  · rcases set_get h2 with ⟨h3, rfl⟩ | ⟨h3, h4⟩
    · have hvu : (v : Int) = u := by omega
      have hf := hp.fr hfu
      rw [Int.toNat_of_nonneg u0] at hf
      rw [hvu, if_pos rfl, if_neg hua] at hc
      rw [hvu]
      omega
    · have hf := hp.fr h4
      rw [if_neg (show ¬ (v : Int) = u by omega), if_neg (show ¬ (v : Int) = a by omega)] at hc
      omega
end
end Go.Proofs.Yteognanhfpbghaa
end
section
set_option linter.unusedVariables false
set_option linter.unusedSimpArgs false
set_option linter.unnecessarySimpa false
open Go Go.Fw
namespace Go.Proofs.Yteognanhfpbghaa
section
variable {P : Int} {bars : List TBar} {k : Int} {m : Nat} {p : TPebbles}
theorem l4Copy_eq (hg : GB P bars) (hp : PB P bars k m p) (hm : m ≤ 1000) : m_spec_l4Copy p = some p := by
  have h1 := hp.fl
  have h2 := hp.tl
  have h3 := hp.pl
  have h8 := hg.p8
  unfold m_spec_l4Copy
  rw [lim_ok (by simp; omega), lim_ok (by simp; omega), lim_ok (by simp; omega)]
  rfl
theorem copyPebbles_eq (hg : GB P bars) (hp : PB P bars k m p) (hm : m ≤ 1000) : m_impl_copyPebbles p = some p := by
  have h1 := hp.fl
  have h2 := hp.tl
  have h3 := hp.pl
  have h8 := hg.p8
  unfold m_impl_copyPebbles
  rw [copyInts_eq _ (by omega), copyInts_eq _ (by omega), copyInts_eq _ (by omega)]
  rfl
theorem PB.free_in (hp : PB P bars k m p) {v : Int} (v0 : 0 ≤ v) (v1 : v < P) : ∃ f, p.Free[v.toNat]? = some f ∧ idx p.Free v = some f ∧ 0 ≤ f ∧ f ≤ k := by
  have h1 := hp.fl
  have h2 : p.Free[v.toNat]? = some (p.Free[v.toNat]'(by omega)) := List.getElem?_eq_getElem (by omega)
  have h3 := hp.fr h2
  refine ⟨_, h2, ?_, h3.1, by omega⟩
  unfold idx
  rw [if_pos v0, h2]
structure Moved (P : Int) (bars : List TBar) (k : Int) (m : Nat) (p : TPebbles) (a b : Int) (p' : TPebbles) : Prop where
  pb : PB P bars k m p'
  placed : p'.Placed = p.Placed
  fa : ∀ {f : Int}, p.Free[a.toNat]? = some f → p'.Free[a.toNat]? = some (f + 1)
  fb : p'.Free[b.toNat]? = p.Free[b.toNat]?
theorem fromInit {g : TGraph} (h0 : 0 ≤ g.Points) (h8 : g.Points ≤ 8) : loopM (m_spec_l4Find_L1 g) BIG (0, List.replicate g.Points.toNat 0) = some (List.replicate g.Points.toNat (-1)) := by
  refine loopM_run (fun n => ((n : Int), List.replicate n (-1) ++ List.replicate (g.Points.toNat - n) 0)) g.Points.toNat (by omega) (by simp) (fun n hn => ?_) ?_
  · have hs := set_repl (List.replicate n (-1 : Int)) 0 (-1) n g.Points.toNat (by simp) hn
    have hi : idx (List.replicate n (-1 : Int) ++ List.replicate (g.Points.toNat - n) 0) (n : Int) = some 0 := idx_of (by rw [List.getElem?_append_right (by simp), List.length_replicate, Nat.sub_self, List.getElem?_replicate, if_pos (by omega)])
    unfold m_spec_l4Find_L1
    simp only [hi, Option.bind_some, Int.toNat_natCast, hs, w64_succ (show n ≤ 1099511627776 by omega)]
    rw [decide_eq_true (by omega), cond_true, ← List.replicate_succ']
  · unfold m_spec_l4Find_L1
    simp only [Nat.sub_self, List.replicate_zero, List.append_nil]
    rw [decide_eq_false (by omega)]
    rfl
theorem shift_both (hg : GB P bars) (hp : PB P bars k m p) (hm : m ≤ 1000) {g : TGraph} (hgp : g.Points = P) (hgb : g.Bars = bars) {a b : Int} (a0 : 0 ≤ a) (a1 : a < P) {q : List Int} {M : List (Int × Int)} {F : List Int} {S : List Bool} {u : Int} {j : Nat} (s1 : Int × List (Int × Int) × List Int) (hM : mput s1.2.1 u s1.1 = M) (h : BF P bars p a q M F S) (hu : q[j]? = some u) (hua : u ≠ a) (hub : u ≠ b) (hab : a ≠ b) (b0 : 0 ≤ b)
    {fu : Int} (hfu : p.Free[u.toNat]? = some fu) (hpos : 0 < fu) :
    ∃ p' fa, idx p.Free a = some fa ∧ m_spec_l4Shift g p F a u = some p' ∧ loopM (m_impl_moveTo_L11 p a s1 u fu fa) BIG (u, p.Tails) = some (p'.Free, p'.Tails) ∧ p'.Placed = p.Placed ∧ Moved P bars k m p a b p' := by
  obtain ⟨u0, u1⟩ := h.rng hu
  obtain ⟨fa, hfa, hia, fa0, fak⟩ := hp.free_in a0 a1
  have k3 := hp.k3
  have hfk : fu ≤ k := by have := hp.fr hfu; omega
  have hiu : idx p.Free u = some fu := by unfold idx; rw [if_pos u0, hfu]
  obtain ⟨T, e1, e2, hT⟩ := turn_both hg hp hgp hgb h hu p fu fa s1 hM
  rw [w64_small (n := fu - 1) (by omega) (by omega), w64_small (n := fa + 1) (by omega) (by omega)] at e1 e2
  have hne : u.toNat ≠ a.toNat := by omega
  have hia2 : ∀ x : Int, idx (p.Free.set u.toNat x) a = some fa := fun x => by
    unfold idx
    rw [if_pos a0, List.getElem?_set, if_neg hne, hfa]
  refine ⟨⟨(p.Free.set u.toNat (fu - 1)).set a.toNat (fa + 1), T, p.Placed⟩, fa, hia, ?_, e2, rfl, ⟨hp.moved hg hT u0 a0 hua hfu hfa hpos, rfl, fun {f} hf => ?_, ?_⟩⟩
  · unfold m_spec_l4Shift
    rw [l4Copy_eq hg hp hm]
    simp only [hiu, Option.bind_some, hia2, e1, w64_small (n := fu - 1) (show -4611686018427387904 ≤ fu - 1 by omega) (by omega)]
  · rw [hfa] at hf
    injection hf with hf
    subst hf
    have hl := (List.getElem?_eq_some_iff.1 hfa).1
    rw [List.getElem?_set, if_pos rfl, if_pos (by simpa using hl)]
  · show ((p.Free.set u.toNat (fu - 1)).set a.toNat (fa + 1))[b.toNat]? = _
    rw [List.getElem?_set, if_neg (by omega), List.getElem?_set, if_neg (by omega)]
def ZO (p : TPebbles) (a b : Int) (q : List Int) : Prop := ∀ v ∈ q, v ≠ a → v ≠ b → p.Free[v.toNat]? = some 0
def CL (bars : List TBar) (p : TPebbles) (v : Int) (m : Nat) (q : List Int) : Prop := ∀ (i : Nat) (t : Int), i < m → p.Tails[i]? = some t → t = v → otherE (pbar bars p i) t ∈ q
theorem CL.more {v u : Int} {m : Nat} {q : List Int} (h : CL bars p v m q) : CL bars p v m (q ++ [u]) := fun i t h1 h2 h3 => List.mem_append_left _ (h i t h1 h2 h3)
theorem CL.step {v t : Int} {j : Nat} {q : List Int} (h : CL bars p v j q) (hT : p.Tails[j]? = some t) (hx : t = v → otherE (pbar bars p j) t ∈ q) : CL bars p v (j + 1) q := fun i s h1 h2 h3 => by
  by_cases hij : i = j
  · subst hij
    rw [hT] at h2
    injection h2 with h2
    subst h2
    exact hx h3
  · exact h i s (by omega) h2 h3
structure Reach (P : Int) (bars : List TBar) (p : TPebbles) (a b : Int) (q : List Int) : Prop where
  fst : a ∈ q
  rng : ∀ v ∈ q, 0 ≤ v ∧ v < P
  zero : ZO p a b q
  clo : ∀ (i : Nat) (t : Int), p.Tails[i]? = some t → t ∈ q → otherE (pbar bars p i) t ∈ q
theorem find_both (hg : GB P bars) (hp : PB P bars k m p) (hm : m ≤ 1000) {g : TGraph} (hgp : g.Points = P) (hgb : g.Bars = bars) {a b : Int} (a0 : 0 ≤ a) (a1 : a < P) (b0 : 0 ≤ b) (b1 : b < P) (hab : a ≠ b) :
    (m_spec_l4Find g p a b = some (p, false) ∧ m_impl_moveTo bars p a b = some (false, p) ∧ ∃ q, Reach P bars p a b q) ∨ ∃ p', m_spec_l4Find g p a b = some (p', true) ∧ m_impl_moveTo bars p a b = some (true, p') ∧ Moved P bars k m p a b p' := by
  have h8 := hg.p8
  have hp1 := hg.p1
  have hpl := hp.pl
  have hptl := hp.tl
  have hstart := BF.start (bars := bars) (p := p) hg a0 a1 (F := List.replicate P.toNat (-1)) (by simp; omega) (fun {v f} hv => by
    rw [List.getElem?_replicate] at hv
    split at hv
    · injection hv with hv; exact hv.symm
    · cases hv)
  -- what a round over the bars gives
  have roundB : ∀ (n : Nat) (v : Int) (q : List Int) (M : List (Int × Int)) (F : List Int) (S : List Bool), BF P bars p a q M F S → q[n]? = some v → ZO p a b q → (∀ r w, r < n → q[r]? = some w → CL bars p w p.Placed.length q) →
      ∃ r r', loopM (m_spec_l4Find_L5 g p a b ((n : Int), F, q, S) v) BIG (0, F, q, S) = some r ∧ loopM (m_impl_moveTo_L10 bars p a b ((n : Int), M, q)) BIG (0, M, q) = some r' ∧
        ((∃ q' M' F' S', r = .inl ((n : Int), F', q', S') ∧ r' = .inl ((n : Int), M', q') ∧ BF P bars p a q' M' F' S' ∧ n < q'.length ∧ ZO p a b q' ∧ (∀ r w, r < n + 1 → q'[r]? = some w → CL bars p w p.Placed.length q')) ∨ ∃ p', r = .inr (p', true) ∧ r' = .inr (true, p') ∧ Moved P bars k m p a b p') := by
    intro n v q M F S hB hv hz hc
    refine loop_inv2 (fun j s s' => ∃ q' M' F' S', s = ((j : Int), F', q', S') ∧ s' = ((j : Int), M', q') ∧ BF P bars p a q' M' F' S' ∧ q'[n]? = some v ∧ ZO p a b q' ∧ CL bars p v j q' ∧ (∀ r w, r < n → q'[r]? = some w → CL bars p w p.Placed.length q')) _ p.Placed.length (by omega) ⟨q, M, F, S, rfl, rfl, hB, hv, hz, (fun i _ h => by omega), hc⟩ (fun j s s' hj hs => ?_) (fun s s' hs => ?_)
    · obtain ⟨q, M, F, S, rfl, rfl, hB, hv, hz, hcv, hc⟩ := hs
      obtain ⟨e, hpe, hbe, hbe2⟩ := hp.bar hg hj
      have hok := hp.pbar_ok hg hj
      have hpi : idx p.Placed (j : Int) = some e := idx_of hpe
      have hT : p.Tails[j]? = some (p.Tails[j]'(by omega)) := List.getElem?_eq_getElem (by omega)
      generalize p.Tails[j]'(by omega) = t at hT
      have hTi : idx p.Tails (j : Int) = some t := idx_of hT
      have hqi : idx q (n : Int) = some v := idx_of hv
      by_cases htv : t = v
      · subst htv
        have hends := hp.ends hT
        obtain ⟨u0, u1, une, _, _⟩ := other_ok hok hends
        have hoS := other_S (P := P) (pbar bars p j) t h8 hok hends
        have hoI := other_I (pbar bars p j) t
        generalize hu : otherE (pbar bars p j) t = u at u0 u1 une hoS hoI
        have hsl := hB.sl
        have hfl := hB.fl
        have hSu : S[u.toNat]? = some (S[u.toNat]'(by omega)) := List.getElem?_eq_getElem (by omega)
        generalize S[u.toNat]'(by omega) = su at hSu
        have hSi : idx S u = some su := by unfold idx; rw [if_pos u0, hSu]
        have hseen := hB.seen hSu
        rw [Int.toNat_of_nonneg u0] at hseen
        have hhas := hB.has u
        cases su with
        | true =>
          have hm1 : mhas M u = true := hhas.2 (hseen.1 rfl)
          refine .inl ⟨(((j + 1 : Nat) : Int), F, q, S), (((j + 1 : Nat) : Int), M, q), ?_, ?_, q, M, F, S, rfl, rfl, hB, hv, hz, hcv.step hT (fun _ => by rw [hu]; exact hseen.1 rfl), hc⟩
          · unfold m_spec_l4Find_L5
            simp only [hTi, hpi, hgb, hbe, hoS, hSi, Option.bind_some, w64_succ (show j ≤ 1099511627776 by omega), bne_self_eq_false, cond_false, cond_true]
            rw [decide_eq_true (by omega), cond_true]
          · unfold m_impl_moveTo_L10
            simp only [hTi, hpi, hqi, hbe, hoI, hm1, Option.bind_some, w64_succ (show j ≤ 1099511627776 by omega), bne_self_eq_false, cond_false, cond_true]
            rw [decide_eq_true (by omega), cond_true]
        | false =>
          have hnq : u ∉ q := fun h => by have := hseen.2 h; cases this
          have hm1 : mhas M u = false := by
            cases hb : mhas M u with
            | false => rfl
            | true => exact absurd (hhas.1 hb) hnq
          have hB2 := hB.more hg hp hj hv hT hu hnq
          obtain ⟨fu, hfu, hiu, fu0, fuk⟩ := hp.free_in u0 u1
          have hua : u ≠ a := fun e => hnq (e ▸ List.mem_of_getElem? hB.first)
          have hFu : idx F u = some ((F[u.toNat]?).getD 0) := idx_in 0 u0 (by omega)
          have hlast : (q ++ [u])[q.length]? = some u := by rw [List.getElem?_append_right (Nat.le_refl _), Nat.sub_self]; rfl
          have hqn : (q ++ [u])[n]? = some t := by rw [List.getElem?_append_left (List.getElem?_eq_some_iff.1 hv).1]; exact hv
          have hql := hB2.len
          by_cases hfound : u ≠ b ∧ 0 < fu
          · obtain ⟨hub, hpos⟩ := hfound
            obtain ⟨p', fa, hia, es, ei, epl, hmv⟩ := shift_both hg hp hm hgp hgb a0 a1 ((j : Int), M, q) rfl hB2 hlast hua hub hab b0 hfu hpos
            have hne : u.toNat ≠ a.toNat := by omega
            have hia2 : ∀ x : Int, idx (p.Free.set u.toNat x) a = some fa := fun x => by
              unfold idx at hia ⊢
              rw [if_pos a0] at hia ⊢
              rw [List.getElem?_set, if_neg hne, hia]
            have k3 := hp.k3
            refine .inr ⟨.inr (p', true), .inr (true, p'), ?_, ?_, .inr ⟨p', rfl, rfl, hmv⟩⟩
            · unfold m_spec_l4Find_L5
              simp only [hTi, hpi, hgb, hbe, hoS, hSi, hFu, hiu, es, Option.bind_some, bne_self_eq_false, cond_false, show (u != b) = true by simp [hub], decide_eq_true hpos, cond_true]
              rw [decide_eq_true (by omega), cond_true]
            · unfold m_impl_moveTo_L10
              simp only [hTi, hpi, hqi, hbe, hoI, hm1, hiu, hia2, ei, Option.bind_some, bne_self_eq_false, cond_false, show (u == b) = false by simp [hub], show (fu == 0) = false by simp; omega]
              rw [decide_eq_true (by omega), cond_true, ← epl]
          · refine .inl ⟨(((j + 1 : Nat) : Int), F.set u.toNat j, q ++ [u], S.set u.toNat true), (((j + 1 : Nat) : Int), mput M u j, q ++ [u]), ?_, ?_, _, _, _, _, rfl, rfl, hB2, hqn, ?_, hcv.more.step hT (fun _ => by rw [hu]; exact List.mem_append_right _ (List.mem_singleton.2 rfl)), ?_⟩
            rotate_left 2
            · intro w hw hwa hwb
              rcases List.mem_append.1 hw with h1 | h1
              · exact hz w h1 hwa hwb
              · rw [List.mem_singleton] at h1
                subst h1
                rw [hfu]
                have : ¬ 0 < fu := fun h => hfound ⟨hwb, h⟩
                congr 1
                omega
            · intro r w hr hw
              rw [List.getElem?_append_left (by have := (List.getElem?_eq_some_iff.1 hv).1; omega)] at hw
              exact (hc r w hr hw).more
            · unfold m_spec_l4Find_L5
              simp only [hTi, hpi, hgb, hbe, hoS, hSi, hFu, hiu, Option.bind_some, bne_self_eq_false, cond_false, w64_succ (show j ≤ 1099511627776 by omega), lim_ok (show q.length + ([u] : List Int).length ≤ 2147483648 by simp at hql ⊢; omega)]
              rw [decide_eq_true (by omega), cond_true]
              by_cases hub : u = b
              · rw [show (u != b) = false by simp [hub]]
                rfl
              · have : ¬ 0 < fu := fun h => hfound ⟨hub, h⟩
                rw [show (u != b) = true by simp [hub], decide_eq_false this]
                rfl
            · unfold m_impl_moveTo_L10
              simp only [hTi, hpi, hqi, hbe, hoI, hm1, hiu, Option.bind_some, bne_self_eq_false, cond_false, w64_succ (show j ≤ 1099511627776 by omega), lim_ok (show q.length + ([u] : List Int).length ≤ 2147483648 by simp at hql ⊢; omega)]
              rw [decide_eq_true (by omega), cond_true]
              by_cases hub : u = b
              · rw [show (u == b) = true by simp [hub]]
                rfl
              · have : ¬ 0 < fu := fun h => hfound ⟨hub, h⟩
                rw [show (u == b) = false by simp [hub], show (fu == 0) = true by simp; omega]
                rfl
      · have hne : (t != v) = true := by simp; exact htv
        refine .inl ⟨(((j + 1 : Nat) : Int), F, q, S), (((j + 1 : Nat) : Int), M, q), ?_, ?_, q, M, F, S, rfl, rfl, hB, hv, hz, hcv.step hT (fun h => absurd h htv), hc⟩
        · unfold m_spec_l4Find_L5
          simp only [hTi, Option.bind_some, hne, cond_true, w64_succ (show j ≤ 1099511627776 by omega)]
          rw [decide_eq_true (by omega), cond_true]
        · unfold m_impl_moveTo_L10
          simp only [hTi, hpi, hqi, Option.bind_some, hne, cond_true, w64_succ (show j ≤ 1099511627776 by omega)]
          rw [decide_eq_true (by omega), cond_true]
    · obtain ⟨q, M, F, S, rfl, rfl, hB, hv, hz, hcv, hc⟩ := hs
      refine ⟨.inl ((n : Int), F, q, S), .inl ((n : Int), M, q), by simp [m_spec_l4Find_L5], by simp [m_impl_moveTo_L10], .inl ⟨q, M, F, S, rfl, rfl, hB, (List.getElem?_eq_some_iff.1 hv).1, hz, fun r w hr hw => ?_⟩⟩
      by_cases hrn : r = n
      · subst hrn
        rw [hv] at hw
        injection hw with hw
        subst hw
        exact hcv
      · exact hc r w (by omega) hw
  -- the rounds over the points met
  have outer : ∃ r r', loopM (m_spec_l4Find_L4 g p a b) BIG (0, List.replicate P.toNat (-1), [a], (List.replicate P.toNat false).set a.toNat true) = some r ∧ loopM (m_impl_moveTo_L7 bars p a b) BIG (0, mput [] a (-1), [a]) = some r' ∧
      ((r = .inl () ∧ r' = .inl () ∧ ∃ q, Reach P bars p a b q) ∨ ∃ p', r = .inr (p', true) ∧ r' = .inr (true, p') ∧ Moved P bars k m p a b p') := by
    refine loop_inv2 (fun n s s' => ∃ q M F S, s = ((n : Int), F, q, S) ∧ s' = ((n : Int), M, q) ∧ BF P bars p a q M F S ∧ n ≤ q.length ∧ ZO p a b q ∧ (∀ r w, r < n → q[r]? = some w → CL bars p w p.Placed.length q)) _ (P.toNat + 1) (by omega) ⟨[a], _, _, _, rfl, rfl, hstart, Nat.zero_le _, (fun v hv ha _ => absurd (List.mem_singleton.1 hv) ha), (fun r w h => by omega)⟩ (fun n s s' hn hs => ?_) (fun s s' hs => ?_)
    · obtain ⟨q, M, F, S, rfl, rfl, hB, hnl, hz, hc⟩ := hs
      have hql := hB.len
      by_cases hlt : n < q.length
      · have hv := List.getElem?_eq_getElem hlt
        obtain ⟨r, r', e1, e2, hr⟩ := roundB n q[n] q M F S hB hv hz hc
        rcases hr with ⟨q', M', F', S', rfl, rfl, hB', hn', hz', hc'⟩ | ⟨p', rfl, rfl, hmv⟩
        · refine .inl ⟨(((n + 1 : Nat) : Int), F', q', S'), (((n + 1 : Nat) : Int), M', q'), ?_, ?_, q', M', F', S', rfl, rfl, hB', hn', hz', hc'⟩
          · unfold m_spec_l4Find_L4
            simp only [idx_of hv, e1, Option.bind_some, Sum.elim_inl, w64_succ (show n ≤ 1099511627776 by omega)]
            rw [decide_eq_true (by omega), cond_true]
          · unfold m_impl_moveTo_L7
            simp only [e2, Option.bind_some, Sum.elim_inl, w64_succ (show n ≤ 1099511627776 by omega)]
            rw [decide_eq_true (by omega), cond_true]
        · refine .inr ⟨.inr (p', true), .inr (true, p'), ?_, ?_, .inr ⟨p', rfl, rfl, hmv⟩⟩
          · unfold m_spec_l4Find_L4
            simp only [idx_of hv, e1, Option.bind_some, Sum.elim_inr]
            rw [decide_eq_true (by omega), cond_true]
          · unfold m_impl_moveTo_L7
            simp only [e2, Option.bind_some, Sum.elim_inr]
            rw [decide_eq_true (by omega), cond_true]
      · refine .inr ⟨.inl (), .inl (), ?_, ?_, .inl ⟨rfl, rfl, q, List.mem_of_getElem? hB.first, fun v hv => ?_, hz, fun i t ht htq => ?_⟩⟩
        rotate_left 2
        · obtain ⟨r, hr⟩ := List.getElem?_of_mem hv
          exact hB.rng hr
        · obtain ⟨r, hr⟩ := List.getElem?_of_mem htq
          have hrl := (List.getElem?_eq_some_iff.1 hr).1
          have hil := (List.getElem?_eq_some_iff.1 ht).1
          exact hc r t (by omega) hr i t (by omega) ht rfl
        · unfold m_spec_l4Find_L4
          simp only
          rw [decide_eq_false (by omega), cond_false]
        · unfold m_impl_moveTo_L7
          simp only
          rw [decide_eq_false (by omega), cond_false]
    · obtain ⟨q, M, F, S, rfl, rfl, hB, hnl, _, _⟩ := hs
      have hql := hB.len
      omega
  obtain ⟨r, r', e1, e2, hr⟩ := outer
  have hS : m_spec_l4Find g p a b = Sum.elim (fun _ => some (p, false)) (fun r => some r) r := by
    have hra : idx (List.replicate P.toNat false) a = some false := by
      unfold idx
      rw [if_pos a0, List.getElem?_replicate, if_pos (by omega)]
    have hfi := fromInit (g := g) (by omega) (by omega)
    rw [hgp] at hfi
    unfold m_spec_l4Find
    rw [hgp, lenOk_ok (by omega) (by omega), hfi, hra]
    simp only [Option.bind_some, e1]
  have hI : m_impl_moveTo bars p a b = Sum.elim (fun _ => some (false, p)) (fun r => some r) r' := by
    unfold m_impl_moveTo
    rw [e2]
    rfl
  rcases hr with ⟨rfl, rfl, hq⟩ | ⟨p', rfl, rfl, hmv⟩
  · exact .inl ⟨hS, hI, hq⟩
  · exact .inr ⟨p', hS, hI, hmv⟩
def two (p : TPebbles) (a b : Int) : Int := (p.Free[a.toNat]?).getD 0 + (p.Free[b.toNat]?).getD 0
theorem gather_both (hg : GB P bars) (hp : PB P bars k m p) (hm : m ≤ 1000) {g : TGraph} (hgp : g.Points = P) (hgb : g.Bars = bars) {a b : Int} (a0 : 0 ≤ a) (a1 : a < P) (b0 : 0 ≤ b) (b1 : b < P) (hab : a ≠ b) {want : Int} (hw : want ≤ 1000) :
    (∃ p', m_spec_l4Gather g p a b want = some (p', true) ∧ m_impl_gather bars p a b want = some (true, p') ∧ PB P bars k m p' ∧ p'.Placed = p.Placed ∧ want ≤ two p' a b) ∨ ∃ p', m_spec_l4Gather g p a b want = some (p', false) ∧ m_impl_gather bars p a b want = some (false, p') ∧ PB P bars k m p' ∧ p'.Placed = p.Placed ∧ two p' a b < want ∧ (∃ q, Reach P bars p' a b q) ∧ ∃ q, Reach P bars p' b a q := by
  have hwv : ∀ x : Int, 0 ≤ x → x ≤ k → w64 x = x := fun x h1 h2 => by have := hp.k3; exact w64_small (by omega) (by omega)
  have main : ∃ r r', loopM (m_spec_l4Gather_L1 g a b want) BIG (p.Free, p.Tails, p.Placed) = some r ∧ loopM (m_impl_gather_L1 bars a b want) BIG (p.Free, p.Tails, p.Placed) = some r' ∧
      ((∃ p', r = .inl (p'.Free, p'.Tails, p'.Placed) ∧ r' = .inl (p'.Free, p'.Tails, p'.Placed) ∧ PB P bars k m p' ∧ p'.Placed = p.Placed ∧ want ≤ two p' a b) ∨ ∃ p', r = .inr (p', false) ∧ r' = .inr (false, p') ∧ PB P bars k m p' ∧ p'.Placed = p.Placed ∧ two p' a b < want ∧ (∃ q, Reach P bars p' a b q) ∧ ∃ q, Reach P bars p' b a q) := by
    refine loop_inv2 (fun n s s' => ∃ p', s = (p'.Free, p'.Tails, p'.Placed) ∧ s' = (p'.Free, p'.Tails, p'.Placed) ∧ PB P bars k m p' ∧ p'.Placed = p.Placed ∧ (n : Int) ≤ two p' a b) _ 1001 (by omega) ⟨p, rfl, rfl, hp, rfl, ?_⟩ (fun n s s' hn hs => ?_) (fun s s' hs => ?_)
    · obtain ⟨fa, hfa, _, fa0, _⟩ := hp.free_in a0 a1
      obtain ⟨fb, hfb, _, fb0, _⟩ := hp.free_in b0 b1
      unfold two
      rw [hfa, hfb]
      simp only [Option.getD_some]
      omega
    · obtain ⟨p', rfl, rfl, hp', hpl, hn2⟩ := hs
      obtain ⟨fa, hfa, hia, fa0, fak⟩ := hp'.free_in a0 a1
      obtain ⟨fb, hfb, hib, fb0, fbk⟩ := hp'.free_in b0 b1
      have k3 := hp'.k3
      have htwo : two p' a b = fa + fb := by
        unfold two
        rw [hfa, hfb]
        rfl
      have hsum : w64 (fa + fb) = fa + fb := w64_small (by omega) (by omega)
      by_cases hlt : fa + fb < want
      · rcases find_both hg hp' hm hgp hgb a0 a1 b0 b1 hab with ⟨s1, i1, hq1⟩ | ⟨p2, s1, i1, hmv⟩
        · rcases find_both hg hp' hm hgp hgb b0 b1 a0 a1 (Ne.symm hab) with ⟨s2, i2, hq2⟩ | ⟨p2, s2, i2, hmv⟩
          · refine .inr ⟨.inr (p', false), .inr (false, p'), ?_, ?_, .inr ⟨p', rfl, rfl, hp', hpl, by omega, hq1, hq2⟩⟩
            · unfold m_spec_l4Gather_L1
              simp only [hia, hib, Option.bind_some, hsum, decide_eq_true hlt, cond_true, s1, s2, cond_false, Bool.not_false]
            · unfold m_impl_gather_L1
              simp only [hia, hib, Option.bind_some, hsum, decide_eq_true hlt, cond_true, i1, i2, Bool.not_false]
          · refine .inl ⟨(p2.Free, p2.Tails, p2.Placed), (p2.Free, p2.Tails, p2.Placed), ?_, ?_, p2, rfl, rfl, hmv.pb, hmv.placed.trans hpl, ?_⟩
            · unfold m_spec_l4Gather_L1
              simp only [hia, hib, Option.bind_some, hsum, decide_eq_true hlt, cond_true, s1, s2, cond_false, Bool.not_false, Bool.not_true]
            · unfold m_impl_gather_L1
              simp only [hia, hib, Option.bind_some, hsum, decide_eq_true hlt, cond_true, i1, i2, Bool.not_false, Bool.not_true, cond_false]
            · have h1 := hmv.fa hfb
              have h2 := hmv.fb
              rw [hfa] at h2
              unfold two
              rw [h1, h2]
              simp only [Option.getD_some]
              omega
        · refine .inl ⟨(p2.Free, p2.Tails, p2.Placed), (p2.Free, p2.Tails, p2.Placed), ?_, ?_, p2, rfl, rfl, hmv.pb, hmv.placed.trans hpl, ?_⟩
          · unfold m_spec_l4Gather_L1
            simp only [hia, hib, Option.bind_some, hsum, decide_eq_true hlt, cond_true, s1, cond_false, Bool.not_true]
          · unfold m_impl_gather_L1
            simp only [hia, hib, Option.bind_some, hsum, decide_eq_true hlt, cond_true, i1, Bool.not_true, cond_false]
          · have h1 := hmv.fa hfa
            have h2 := hmv.fb
            rw [hfb] at h2
            unfold two
            rw [h1, h2]
            simp only [Option.getD_some]
            omega
      · refine .inr ⟨.inl (p'.Free, p'.Tails, p'.Placed), .inl (p'.Free, p'.Tails, p'.Placed), ?_, ?_, .inl ⟨p', rfl, rfl, hp', hpl, by omega⟩⟩
        · unfold m_spec_l4Gather_L1
          simp only [hia, hib, Option.bind_some, hsum, decide_eq_false hlt, cond_false]
        · unfold m_impl_gather_L1
          simp only [hia, hib, Option.bind_some, hsum, decide_eq_false hlt, cond_false]
    · obtain ⟨p', rfl, rfl, hp', hpl, hn2⟩ := hs
      obtain ⟨fa, hfa, hia, fa0, fak⟩ := hp'.free_in a0 a1
      obtain ⟨fb, hfb, hib, fb0, fbk⟩ := hp'.free_in b0 b1
      have k3 := hp'.k3
      unfold two at hn2
      rw [hfa, hfb] at hn2
      simp only [Option.getD_some] at hn2
      omega
  obtain ⟨r, r', e1, e2, hr⟩ := main
  have hS : m_spec_l4Gather g p a b want = Sum.elim (fun b27 => some (TPebbles.mk b27.1 b27.2.1 b27.2.2, true)) (fun r => some r) r := by
    unfold m_spec_l4Gather
    rw [l4Copy_eq hg hp hm]
    simp only [Option.bind_some, e1]
  have hI : m_impl_gather bars p a b want = Sum.elim (fun b24 => some (true, TPebbles.mk b24.1 b24.2.1 b24.2.2)) (fun r => some r) r' := by
    unfold m_impl_gather
    rw [e2]
    rfl
  rcases hr with ⟨p', rfl, rfl, h1, h2, h3⟩ | ⟨p', rfl, rfl, h1⟩
  · exact .inl ⟨p', hS, hI, h1, h2, h3⟩
  · exact .inr ⟨p', hS, hI, h1⟩
end
end Go.Proofs.Yteognanhfpbghaa
end
section
set_option linter.unusedVariables false
set_option linter.unusedSimpArgs false
set_option linter.unnecessarySimpa false
open Go Go.Fw
namespace Go.Proofs.Yteognanhfpbghaa
theorem PB.weak {P : Int} {bars : List TBar} {k : Int} {m : Nat} {p : TPebbles} (h : PB P bars k m p) : PB P bars k (m + 1) p :=
  ⟨h.k1, h.k3, h.fl, h.tl, by have := h.pl; omega, fun hx => by have := h.pr hx; omega, h.inc, h.ends, h.fr⟩
theorem snoc_get {α : Type} {l : List α} {x y : α} {i : Nat} (h : (l ++ [x])[i]? = some y) : (i < l.length ∧ l[i]? = some y) ∨ (i = l.length ∧ y = x) := by
  rw [List.getElem?_append] at h
  split at h
  · exact .inl ⟨by assumption, h⟩
  · right
    have : i - l.length = 0 := by
      rcases Nat.eq_zero_or_pos (i - l.length) with h0 | h0
      · exact h0
      · rw [List.getElem?_eq_none (by simp; omega)] at h
        cases h
    rw [this] at h
    simp at h
    exact ⟨by omega, h.symm⟩
theorem PB.place {P : Int} {bars : List TBar} {k : Int} {m : Nat} {p : TPebbles} (hg : GB P bars) (hp : PB P bars k m p) (hml : m < bars.length) {x : TBar} (hx : bars[m]? = some x) {t f : Int} (ht : t = x.A ∨ t = x.B) (hf : p.Free[t.toNat]? = some f) (hpos : 0 < f) :
    PB P bars k (m + 1) ⟨p.Free.set t.toNat (f - 1), p.Tails ++ [t], p.Placed ++ [(m : Int)]⟩ := by
  have hpl := hp.pl
  have htl := hp.tl
  have t0 : 0 ≤ t := by
    rcases ht with rfl | rfl
    · exact hg.a0 hx
    · exact hg.b0 hx
  have hlast : ∀ {i : Nat} {v : Int}, (p.Placed ++ [(m : Int)])[i]? = some v → (i < p.Placed.length ∧ p.Placed[i]? = some v) ∨ (i = p.Placed.length ∧ v = (m : Int)) := fun h => snoc_get h
  refine ⟨hp.k1, hp.k3, by simpa using hp.fl, by simp [htl], by simp; omega, fun {i e} he => ?_, fun {i e e'} he he' => ?_, fun {i v} hv => ?_, fun {v w} hv => ?_⟩
  · rcases hlast he with ⟨_, h⟩ | ⟨_, rfl⟩
    · have := hp.pr h
      omega
    · omega
  · rcases hlast he' with ⟨h1, h2⟩ | ⟨h1, rfl⟩
    · rcases hlast he with ⟨_, h3⟩ | ⟨h3, _⟩
      · exact hp.inc h3 h2
      · omega
    · rcases hlast he with ⟨_, h3⟩ | ⟨h3, _⟩
      · have := hp.pr h3
        omega
      · omega
  · change (p.Tails ++ [t])[i]? = some v at hv
    rcases snoc_get hv with ⟨h1, h2⟩ | ⟨h1, rfl⟩
    · have := hp.ends h2
      have e : pbar bars ⟨p.Free.set t.toNat (f - 1), p.Tails ++ [t], p.Placed ++ [(m : Int)]⟩ i = pbar bars p i := by
        unfold pbar
        simp only
        rw [List.getElem?_append_left (by omega)]
      rw [e]
      exact this
    · have e : pbar bars ⟨p.Free.set v.toNat (f - 1), p.Tails ++ [v], p.Placed ++ [(m : Int)]⟩ i = x := by
        unfold pbar
        simp only
        rw [List.getElem?_append_right (by omega), h1, htl, Nat.sub_self]
        simp [hx]
      rw [e]
      exact ht
  · change 0 ≤ w ∧ w + ((p.Tails ++ [t]).count (v : Int) : Int) = k
    rw [List.count_append]
    rcases set_get hv with ⟨h1, rfl⟩ | ⟨h1, h2⟩
    · have hvt : (v : Int) = t := by omega
      have := hp.fr hf
      rw [Int.toNat_of_nonneg t0] at this
      rw [hvt]
      simp
      omega
    · have := hp.fr h2
      have h3 : ([t] : List Int).count (v : Int) = 0 := by
        rw [List.count_eq_zero]
        simp
        omega
      rw [h3]
      omega
theorem isRangeI_eq (k l : Int) : m_impl_IsRange k l = some ((decide (1 ≤ k) && decide (k ≤ 3)) && (decide (0 ≤ l) && decide (l ≤ 2 * k - 1))) := by
  unfold m_impl_IsRange
  rw [within_eq, within_eq]
  cases h : decide (1 ≤ k) && decide (k ≤ 3)
  · rfl
  · simp only [Bool.and_eq_true, decide_eq_true_eq] at h
    rw [w64_small (n := 2 * k) (by omega) (by omega), w64_small (by omega) (by omega)]
    rfl
theorem isRangeS_eq (k l : Int) : m_spec_IsRange k l = some ((decide (1 ≤ k) && decide (k ≤ 3)) && (decide (0 ≤ l) && decide (l ≤ 2 * k - 1))) := by
  unfold m_spec_IsRange
  rw [l1In_eq]
  cases h : decide (1 ≤ k) && decide (k ≤ 3)
  · rfl
  · simp only [Bool.and_eq_true, decide_eq_true_eq] at h
    rw [w64_small (n := 2 * k) (by omega) (by omega)]
    have : decide (l < 2 * k) = decide (l ≤ 2 * k - 1) := by rw [decide_eq_decide]; omega
    rw [this]
    cases decide (0 ≤ l) <;> rfl
def placeI (bars : List TBar) (l : Int) (p : TPebbles) (m : Nat) : TPebbles := match m_impl_place bars l p (m : Int) with
  | some (true, q) => q
  | _ => p
theorem place_both {P : Int} {bars : List TBar} {k l : Int} {m : Nat} {p : TPebbles} (hg : GB P bars) (hp : PB P bars k m p) (hml : m < bars.length) (hl : 0 ≤ l ∧ l ≤ 2 * k - 1) {g : TGraph} (hgp : g.Points = P) (hgb : g.Bars = bars) :
    PB P bars k (m + 1) (placeI bars l p m) ∧ (∃ ok q, m_impl_place bars l p (m : Int) = some (ok, q) ∧ placeI bars l p m = bif ok then q else p) ∧
      (m_spec_IsPebbles g k p = some true → m_spec_PlaceBar g k l p (m : Int) = some (placeI bars l p m, true) ∨ m_spec_PlaceBar g k l p (m : Int) = some (placeI bars l p m, false)) := by
  have hlen := hg.len
  have k3 := hp.k3
  have k1 := hp.k1
  have hx := List.getElem?_eq_getElem hml
  have hxi := idx_of (k := m) hx
  generalize bars[m] = x at hx hxi
  have hw : w64 (l + 1) = l + 1 := w64_small (by omega) (by omega)
  have hpre : m_spec_IsPebbles g k p = some true → ∀ M : Option (TPebbles × Bool), (((m_spec_IsPebbles g k p).bind fun r10 => bif (!r10) then some true else (m_spec_IsRange k l).bind fun r12 => bif (!r12) then some true else bif decide ((m : Int) < 0) then some true else bif decide ((g.Bars.length : Int) ≤ (m : Int)) then some true
      else bif decide (0 < (p.Placed.length : Int)) then (idx p.Placed (w64 ((p.Placed.length : Int) - 1))).bind fun x17 => some (decide ((m : Int) ≤ x17)) else some false : Option Bool).bind fun j9 => bif j9 then (m_spec_l4Copy p).bind fun r19 => some (r19, false) else M) = M := by
    intro h M
    have hpl := hp.pl
    rw [h, isRangeS_eq, decide_eq_true k1, decide_eq_true k3, decide_eq_true hl.1, decide_eq_true hl.2, decide_eq_false (show ¬ (m : Int) < 0 by omega), hgb, decide_eq_false (show ¬ (bars.length : Int) ≤ (m : Int) by omega)]
    simp only [Option.bind_some, Bool.and_self, Bool.not_true, cond_false]
    by_cases h0 : 0 < p.Placed.length
    · have hi : p.Placed[p.Placed.length - 1]? = some (p.Placed[p.Placed.length - 1]'(by omega)) := List.getElem?_eq_getElem (by omega)
      have hlt := hp.pr hi
      have e : w64 ((p.Placed.length : Int) - 1) = ((p.Placed.length - 1 : Nat) : Int) := by rw [w64_small (by omega) (by omega)]; omega
      rw [decide_eq_true (show 0 < (p.Placed.length : Int) by omega), e, idx_of hi]
      simp only [Option.bind_some, cond_true]
      rw [decide_eq_false (by omega)]
      rfl
    · rw [decide_eq_false (show ¬ 0 < (p.Placed.length : Int) by omega)]
      rfl
  rcases gather_both hg hp (by omega) hgp hgb (hg.a0 hx) (hg.ap hx) (hg.b0 hx) (hg.bp hx) (hg.ab hx) (want := l + 1) (by omega) with ⟨p', s1, i1, hp', hpl, htwo⟩ | ⟨p'', s1, i1, _⟩
  · obtain ⟨fa, hfa, hia, fa0, fak⟩ := hp'.free_in (hg.a0 hx) (hg.ap hx)
    obtain ⟨fb, hfb, hib, fb0, fbk⟩ := hp'.free_in (hg.b0 hx) (hg.bp hx)
    unfold two at htwo
    rw [hfa, hfb] at htwo
    simp only [Option.getD_some] at htwo
    have hpll := hp'.pl
    have htl := hp'.tl
    -- the tail and its pebbles
    obtain ⟨t, f, hte, htf, hti, hpos, hfk, htail⟩ : ∃ t f, (t = x.A ∨ t = x.B) ∧ p'.Free[t.toNat]? = some f ∧ idx p'.Free t = some f ∧ 0 < f ∧ f ≤ k ∧ (bif fa == 0 then some x.B else some x.A : Option Int) = some t := by
      by_cases h0 : fa = 0
      · exact ⟨x.B, fb, .inr rfl, hfb, hib, by omega, fbk, by simp [h0]⟩
      · have : (fa == 0) = false := by simp [h0]
        exact ⟨x.A, fa, .inl rfl, hfa, hia, by omega, fak, by simp [this]⟩
    have hI : m_impl_place bars l p (m : Int) = some (true, ⟨p'.Free.set t.toNat (f - 1), p'.Tails ++ [t], p'.Placed ++ [(m : Int)]⟩) := by
      unfold m_impl_place
      simp only [hxi, hw, i1, hia, htail, hti, Option.bind_some, Bool.not_true, cond_false, lim_ok (show p'.Tails.length + ([t] : List Int).length ≤ 2147483648 by simp; omega), lim_ok (show p'.Placed.length + ([(m : Int)] : List Int).length ≤ 2147483648 by simp; omega), w64_small (n := f - 1) (show -4611686018427387904 ≤ f - 1 by omega) (by omega)]
    have hpI : placeI bars l p m = ⟨p'.Free.set t.toNat (f - 1), p'.Tails ++ [t], p'.Placed ++ [(m : Int)]⟩ := by
      unfold placeI
      rw [hI]
    refine ⟨by rw [hpI]; exact hp'.place hg hml hx hte htf hpos, ⟨true, _, hI, hpI⟩, fun h => .inl ?_⟩
    rw [hpI]
    unfold m_spec_PlaceBar
    rw [hpre h]
    simp only [hgb, hxi, hw, s1, hia, htail, hti, Option.bind_some, Bool.not_true, cond_false, lim_ok (show p'.Tails.length + ([t] : List Int).length ≤ 2147483648 by simp; omega), lim_ok (show p'.Placed.length + ([(m : Int)] : List Int).length ≤ 2147483648 by simp; omega), w64_small (n := f - 1) (show -4611686018427387904 ≤ f - 1 by omega) (by omega)]
  · have hI : m_impl_place bars l p (m : Int) = some (false, p'') := by
      unfold m_impl_place
      simp only [hxi, hw, i1, Option.bind_some, Bool.not_false, cond_true]
    have hpI : placeI bars l p m = p := by
      unfold placeI
      rw [hI]
    refine ⟨by rw [hpI]; exact hp.weak, ⟨false, _, hI, hpI⟩, fun h => .inr ?_⟩
    rw [hpI]
    unfold m_spec_PlaceBar
    rw [hpre h]
    simp only [hgb, hxi, hw, s1, Option.bind_some, Bool.not_false, cond_true, l4Copy_eq hg hp (by omega)]
def played (P : Int) (bars : List TBar) (k l : Int) (n : Nat) : TPebbles := iter (fun m p => placeI bars l p m) n ⟨List.replicate P.toNat k, [], []⟩
theorem played_PB {P : Int} {bars : List TBar} {k l : Int} (hg : GB P bars) (k1 : 1 ≤ k) (k3 : k ≤ 3) (hl : 0 ≤ l ∧ l ≤ 2 * k - 1) : ∀ n, n ≤ bars.length → PB P bars k n (played P bars k l n)
  | 0, _ => by
    have := hg.p1
    refine ⟨k1, k3, by show ((List.replicate P.toNat k).length : Int) = P; simp; omega, rfl, Nat.le_refl _, (fun h => by cases h), (fun h => by cases h), (fun h => by cases h), fun {v f} hv => ?_⟩
    change (List.replicate P.toNat k)[v]? = some f at hv
    rw [List.getElem?_replicate] at hv
    split at hv
    · injection hv with hv
      subst hv
      show 0 ≤ k ∧ k + ((([] : List Int).count (v : Int) : Nat) : Int) = k
      simp
      omega
    · cases hv
  | n + 1, h => (place_both hg (played_PB hg k1 k3 hl n (by omega)) (by omega) hl (g := ⟨P, bars⟩) rfl rfl).1
theorem play_eq {P : Int} {bars : List TBar} {k l : Int} (hg : GB P bars) (k1 : 1 ≤ k) (k3 : k ≤ 3) (hl : 0 ≤ l ∧ l ≤ 2 * k - 1) : m_impl_play P bars k l = some (played P bars k l bars.length) := by
  have h1 := hg.p1
  have h8 := hg.p8
  have hlen := hg.len
  have e1 : loopM (m_impl_play_L1 P k) BIG (0, []) = some (List.replicate P.toNat k) := by
    refine loopM_run (fun n => ((n : Int), List.replicate n k)) P.toNat (by omega) rfl (fun n hn => ?_) ?_
    · unfold m_impl_play_L1
      simp only [w64_succ (show n ≤ 1099511627776 by omega)]
      rw [decide_eq_true (by omega), cond_true, lim_ok (by simp; omega), Option.bind_some, ← List.replicate_succ']
    · unfold m_impl_play_L1
      simp only
      rw [decide_eq_false (by omega)]
      rfl
  have e2 := fold_loop (b := m_impl_play_L2 bars l) (s := (0, List.replicate P.toNat k, [], [])) (fun n (p : TPebbles) => ((n : Int), p.Free, p.Tails, p.Placed)) (fun m p => placeI bars l p m) (fun n p => n ≤ bars.length ∧ PB P bars k n p) (fun p => (p.Free, p.Tails, p.Placed)) bars.length ⟨List.replicate P.toNat k, [], []⟩ (by omega) rfl ⟨Nat.zero_le _, played_PB hg k1 k3 hl 0 (Nat.zero_le _)⟩ (fun n p hn hp => by
    obtain ⟨hpb, ⟨ok, q, hI, hpI⟩, _⟩ := place_both hg hp.2 hn hl (g := ⟨P, bars⟩) rfl rfl
    refine ⟨?_, by omega, hpb⟩
    unfold m_impl_play_L2
    simp only [copyPebbles_eq hg hp.2 (by omega), hI, Option.bind_some, w64_succ (show n ≤ 1099511627776 by omega)]
    rw [decide_eq_true (by omega), cond_true, hpI]
    cases ok <;> rfl) (fun p hp => by simp [m_impl_play_L2])
  unfold m_impl_play
  rw [e1, Option.bind_some, e2.1]
  rfl
theorem l4Tail_eq {P : Int} {bars : List TBar} {k : Int} {m : Nat} {p : TPebbles} (hg : GB P bars) (hp : PB P bars k m p) (hm : m ≤ 1000) (v : Int) : m_spec_l4Tail p v = some (p.Tails.count v : Int) := by
  have htl := hp.tl
  have hpl := hp.pl
  have := fold_loop (b := m_spec_l4Tail_L1 p v) (s := (0, 0)) (fun n (c : Int) => (c, (n : Int))) (fun n c => match p.Tails[n]? with | some t => bif t == v then c + 1 else c | none => c) (fun n c => c = ((p.Tails.take n).count v : Int)) id p.Tails.length 0 (by omega) rfl (by simp) (fun n c hn hc => by
    have ht := List.getElem?_eq_getElem hn
    have htk : p.Tails.take (n + 1) = p.Tails.take n ++ [p.Tails[n]] := by rw [List.take_add_one, ht]; rfl
    have hcl := List.count_le_length (a := v) (l := p.Tails.take n)
    have hlt : (p.Tails.take n).length = n := by simp; omega
    rw [ht]
    constructor
    · unfold m_spec_l4Tail_L1
      simp only [idx_of ht, Option.bind_some, w64_succ (show n ≤ 1099511627776 by omega)]
      rw [decide_eq_true (by omega), cond_true, w64_small (n := c + 1) (by omega) (by omega)]
      cases p.Tails[n] == v <;> rfl
    · show (bif p.Tails[n] == v then c + 1 else c) = _
      rw [htk, List.count_append, List.count_singleton]
      cases p.Tails[n] == v
      · simp [hc]
      · simp [hc]) (fun c hc => by simp [m_spec_l4Tail_L1])
  unfold m_spec_l4Tail
  rw [this.1, Option.bind_some]
  have h2 := this.2
  rw [List.take_length] at h2
  rw [← h2]
  rfl
theorem isPebbles_eq {g : TGraph} {k : Int} {m : Nat} {p : TPebbles} (hv : vG g = true) (hp : PB g.Points g.Bars k m p) (hm : m ≤ 1000) : m_spec_IsPebbles g k p = some true := by
  have hV := vG_VG hv
  have hg := hV.gb
  have k1 := hp.k1
  have k3 := hp.k3
  have hfl := hp.fl
  have htl := hp.tl
  have hpl := hp.pl
  have h1 := hV.p1
  have h8 := hV.p8
  have e1 : loopM (m_spec_IsPebbles_L1 g p) BIG 0 = some (.inl ()) := by
    refine count_loop p.Placed.length (by omega) (fun i hi => ?_) (by simp [m_spec_IsPebbles_L1])
    obtain ⟨e, hpe, hbe, _⟩ := hp.bar hg hi
    obtain ⟨e0, e1, _⟩ := hp.pr hpe
    have hT : p.Tails[i]? = some (p.Tails[i]'(by omega)) := List.getElem?_eq_getElem (by omega)
    have hends := hp.ends hT
    generalize p.Tails[i]'(by omega) = t at hT hends
    unfold m_spec_IsPebbles_L1
    simp only [idx_of hpe, idx_of hT, hbe, Option.bind_some]
    rw [decide_eq_true (show (i : Int) < (p.Placed.length : Int) by omega), decide_eq_false (show ¬ e < 0 by omega), decide_eq_false (show ¬ (g.Bars.length : Int) ≤ e by omega)]
    have hne : ((bif t != (pbar g.Bars p i).A then some (t != (pbar g.Bars p i).B) else some false) : Option Bool) = some false := by
      rcases hends with h | h
      · rw [h]; simp
      · by_cases h2 : t = (pbar g.Bars p i).A
        · rw [h2]; simp
        · have : (t != (pbar g.Bars p i).A) = true := by simp [h2]
          rw [this, ← h]
          simp
    by_cases h0 : 0 < i
    · have hpe' : p.Placed[i - 1]? = some (p.Placed[i - 1]'(by omega)) := List.getElem?_eq_getElem (by omega)
      have hinc := hp.inc hpe' (by rw [Nat.sub_add_cancel h0]; exact hpe)
      have ew : w64 ((i : Int) - 1) = ((i - 1 : Nat) : Int) := by rw [w64_small (by omega) (by omega)]; omega
      rw [decide_eq_true (show (0 : Int) < (i : Int) by omega), ew, idx_of hpe']
      simp only [Option.bind_some, cond_true, cond_false]
      rw [decide_eq_false (show ¬ e ≤ p.Placed[i - 1]'(by omega) by omega), cond_false, hne]
      rfl
    · rw [decide_eq_false (show ¬ (0 : Int) < (i : Int) by omega)]
      simp only [Option.bind_some, cond_true, cond_false]
      rw [hne]
      rfl
  have e2 : loopM (m_spec_IsPebbles_L2 g k p) BIG 0 = some (.inl ()) := by
    refine count_loop g.Points.toNat (by omega) (fun i hi => ?_) (by
      unfold m_spec_IsPebbles_L2
      rw [decide_eq_false (by omega)]
      rfl)
    obtain ⟨f, hf, hif, f0, fk⟩ := hp.free_in (v := (i : Int)) (by omega) (by omega)
    rw [Int.toNat_natCast] at hf
    have hfr := hp.fr hf
    unfold m_spec_IsPebbles_L2
    simp only [hif, l4Tail_eq hg hp hm, Option.bind_some]
    rw [decide_eq_true (show (i : Int) < g.Points by omega), decide_eq_false (show ¬ f < 0 by omega), w64_small (by omega) (by omega), hfr.2]
    simp
  unfold m_spec_IsPebbles
  rw [isGraphS_eq g hV.sm, hv, l1In_eq, decide_eq_true k1, decide_eq_true k3, e1, e2]
  have q1 : ((p.Free.length : Int) != g.Points) = false := by simp [hfl]
  have q2 : ((p.Tails.length : Int) != (p.Placed.length : Int)) = false := by simp [htl]
  rw [q1, q2]
  rfl
def runP (g : TGraph) (k l : Int) : TPebbles × Bool := bif vG g && ((decide (1 ≤ k) && decide (k ≤ 3)) && (decide (0 ≤ l) && decide (l ≤ 2 * k - 1))) then (played g.Points g.Bars k l g.Bars.length, true) else (⟨[], [], []⟩, false)
theorem runI_eq (g : TGraph) (h : SM g.Bars.length) (k l : Int) : m_impl_RunPebbles g k l = some (runP g k l) := by
  unfold m_impl_RunPebbles runP
  rw [isGraphI_eq g h, isRangeI_eq]
  cases hv : vG g
  · rfl
  · cases hr : (decide (1 ≤ k) && decide (k ≤ 3)) && (decide (0 ≤ l) && decide (l ≤ 2 * k - 1))
    · rfl
    · simp only [Bool.and_eq_true, decide_eq_true_eq] at hr
      simp only [Option.bind_some, Bool.not_true, cond_false, Bool.and_self, cond_true, play_eq (vG_VG hv).gb hr.1.1 hr.1.2 hr.2]
theorem newS_eq (g : TGraph) (h : SM g.Bars.length) (k : Int) : m_spec_NewPebbles g k = some (bif vG g && (decide (1 ≤ k) && decide (k ≤ 3)) then (⟨List.replicate g.Points.toNat k, [], []⟩, true) else (⟨[], [], []⟩, false)) := by
  unfold m_spec_NewPebbles
  rw [isGraphS_eq g h, l1In_eq]
  cases hv : vG g
  · rfl
  · cases hr : decide (1 ≤ k) && decide (k ≤ 3)
    · rfl
    · have h1 := (vG_VG hv).p1
      have h8 := (vG_VG hv).p8
      have e1 : loopM (m_spec_NewPebbles_L1 g k) BIG (0, []) = some (List.replicate g.Points.toNat k) := by
        refine loopM_run (fun n => ((n : Int), List.replicate n k)) g.Points.toNat (by omega) rfl (fun n hn => ?_) ?_
        · unfold m_spec_NewPebbles_L1
          simp only [w64_succ (show n ≤ 1099511627776 by omega)]
          rw [decide_eq_true (by omega), cond_true, lim_ok (by simp; omega), Option.bind_some, ← List.replicate_succ']
        · unfold m_spec_NewPebbles_L1
          simp only
          rw [decide_eq_false (by omega)]
          rfl
      rw [e1]
      rfl
theorem runS_eq (g : TGraph) (h : SM g.Bars.length) (k l : Int) : m_spec_RunPebbles g k l = some (runP g k l) := by
  unfold m_spec_RunPebbles runP
  rw [newS_eq g h, isRangeS_eq]
  cases hv : vG g
  · rfl
  · have hV := vG_VG hv
    have hg := hV.gb
    have hlen := hg.len
    cases hk : decide (1 ≤ k) && decide (k ≤ 3)
    · rfl
    · cases hl : decide (0 ≤ l) && decide (l ≤ 2 * k - 1)
      · rfl
      · simp only [Bool.and_eq_true, decide_eq_true_eq] at hk hl
        have e2 := fold_loop (b := m_spec_RunPebbles_L1 g k l) (s := (0, List.replicate g.Points.toNat k, [], [])) (fun n (p : TPebbles) => ((n : Int), p.Free, p.Tails, p.Placed)) (fun m p => placeI g.Bars l p m) (fun n p => n ≤ g.Bars.length ∧ PB g.Points g.Bars k n p) (fun p => (p.Free, p.Tails, p.Placed)) g.Bars.length ⟨List.replicate g.Points.toNat k, [], []⟩ (by omega) rfl ⟨Nat.zero_le _, played_PB hg hk.1 hk.2 hl 0 (Nat.zero_le _)⟩ (fun n p hn hp => by
          obtain ⟨hpb, _, hS⟩ := place_both hg hp.2 hn hl (g := g) rfl rfl
          refine ⟨?_, by omega, hpb⟩
          have hS := hS (isPebbles_eq hv hp.2 (by omega))
          unfold m_spec_RunPebbles_L1
          rw [decide_eq_true (show ((n : Int), p.Free, p.Tails, p.Placed).1 < (g.Bars.length : Int) by simp only; omega), cond_true]
          simp only [w64_succ (show n ≤ 1099511627776 by omega)]
          rcases hS with hS | hS
          · rw [show TPebbles.mk p.Free p.Tails p.Placed = p from rfl, hS]
            rfl
          · rw [show TPebbles.mk p.Free p.Tails p.Placed = p from rfl, hS]
            rfl) (fun p hp => by simp [m_spec_RunPebbles_L1])
        simp only [Option.bind_some, Bool.and_self, Bool.not_true, cond_false, cond_true, e2.1]
        rfl
def rk (g : TGraph) (k l : Int) : Int := bif (runP g k l).2 then ((runP g k l).1.Placed.length : Int) else -1
theorem rankI_eq (g : TGraph) (h : SM g.Bars.length) (k l : Int) : m_impl_RankOf g k l = some (rk g k l) := by
  unfold m_impl_RankOf rk
  rw [runI_eq g h]
  simp only [Option.bind_some]
  cases (runP g k l).2 <;> rfl
theorem rankS_eq (g : TGraph) (h : SM g.Bars.length) (k l : Int) : m_spec_RankOf g k l = some (rk g k l) := by
  unfold m_spec_RankOf rk
  rw [runS_eq g h]
  simp only [Option.bind_some]
  cases (runP g k l).2 <;> rfl
def dropBar (g : TGraph) (k : Nat) : TGraph := ⟨g.Points, g.Bars.take k ++ g.Bars.drop (k + 1)⟩
theorem dropBar_sm {g : TGraph} (h : SM g.Bars.length) (k : Nat) : SM (dropBar g k).Bars.length := by
  unfold dropBar
  simp only [List.length_append, List.length_take, List.length_drop]
  omega
theorem removeI_eq {g : TGraph} (hv : vG g = true) {k : Nat} (hk : k < g.Bars.length) : m_impl_RemoveBar g (k : Int) = some (dropBar g k, true) := by
  have hV := vG_VG hv
  have hl := hV.len
  have e1 : w64 ((k : Int) + 1) = ((k + 1 : Nat) : Int) := w64_succ (by omega)
  have s1 : slc g.Bars 0 (k : Int) = some ((g.Bars.take k).drop 0) := by unfold slc; rw [if_pos (by omega)]; rfl
  have s2 : slc g.Bars ((k + 1 : Nat) : Int) (g.Bars.length : Int) = some ((g.Bars.take g.Bars.length).drop (k + 1)) := by unfold slc; rw [if_pos (by omega)]; rfl
  unfold m_impl_RemoveBar
  rw [copyGraph_eq g hV.sm, isGraphI_eq g hV.sm, hv, within_eq, w64_small (n := (g.Bars.length : Int) - 1) (by omega) (by omega), decide_eq_true (show (0 : Int) ≤ (k : Int) by omega), decide_eq_true (show (k : Int) ≤ (g.Bars.length : Int) - 1 by omega)]
  simp only [Option.bind_some, Bool.not_true, Bool.and_self, cond_false, e1, s1, s2, Int.toNat_natCast]
  rw [lim_ok (by omega), same_ok (by omega), same_ok (by omega)]
  simp only [Option.bind_some, dropBar]
  rw [Nat.sub_zero, List.take_of_length_le (l := g.Bars.drop (k + 1)) (by simp)]
theorem removeS_eq {g : TGraph} (hv : vG g = true) {k : Nat} (hk : k < g.Bars.length) : m_spec_RemoveBar g (k : Int) = some (dropBar g k, true) := by
  have hV := vG_VG hv
  have hl := hV.len
  have e1 : w64 ((k : Int) + 1) = ((k + 1 : Nat) : Int) := w64_succ (by omega)
  have s1 : slc g.Bars 0 (k : Int) = some ((g.Bars.take k).drop 0) := by unfold slc; rw [if_pos (by omega)]; rfl
  have s2 : slc g.Bars ((k + 1 : Nat) : Int) (g.Bars.length : Int) = some ((g.Bars.take g.Bars.length).drop (k + 1)) := by unfold slc; rw [if_pos (by omega)]; rfl
  unfold m_spec_RemoveBar
  rw [isGraphS_eq g hV.sm, hv, decide_eq_false (show ¬ (k : Int) < 0 by omega), decide_eq_false (show ¬ (g.Bars.length : Int) ≤ (k : Int) by omega)]
  simp only [Option.bind_some, Bool.not_true, cond_false, e1, s1, s2, Int.toNat_natCast]
  rw [lim_ok (by simp; omega), Option.bind_some, lim_ok (by simp; omega)]
  simp only [Option.bind_some, dropBar, List.nil_append, List.drop_zero, List.take_length]
theorem rk_neg {g : TGraph} {k l : Int} (h : vG g = false) : rk g k l = -1 := by
  unfold rk runP
  rw [h]
  rfl
def bridges (g : TGraph) (k l : Int) : List Int := bif decide (rk g k l < 0) then [] else pieces (fun e => bif decide (rk (dropBar g e) k l < rk g k l) then [(e : Int)] else []) g.Bars.length
theorem bridgesI_eq (g : TGraph) (h : SM g.Bars.length) (k l : Int) : m_impl_BridgesOf g k l = some (bridges g k l) := by
  unfold m_impl_BridgesOf bridges
  rw [rankI_eq g h]
  simp only [Option.bind_some]
  cases hr : decide (rk g k l < 0)
  · have hv : vG g = true := by
      cases hv : vG g
      · rw [rk_neg hv] at hr; cases hr
      · rfl
    have hl := (vG_VG hv).len
    have := app_loop (b := m_impl_BridgesOf_L1 g k l (rk g k l)) (s := (0, [])) (fun n out => ((n : Int), out)) (fun e => bif decide (rk (dropBar g e) k l < rk g k l) then [(e : Int)] else []) id 1 g.Bars.length [] (by omega) rfl (fun e he => by cases decide (rk (dropBar g e) k l < rk g k l) <;> simp) (fun e out he ho => by
      simp only [List.length_nil, Nat.zero_add, Nat.one_mul] at ho
      unfold m_impl_BridgesOf_L1
      simp only [removeI_eq hv he, rankI_eq _ (dropBar_sm h e), Option.bind_some, w64_succ (show e ≤ 1099511627776 by omega), lim_ok (show out.length + ([(e : Int)] : List Int).length ≤ 2147483648 by simp; omega)]
      rw [decide_eq_true (by omega), cond_true]
      cases decide (rk (dropBar g e) k l < rk g k l) <;> simp) (fun out => by simp [m_impl_BridgesOf_L1])
    rw [cond_false, this]
    rfl
  · rfl
theorem bridgesS_eq (g : TGraph) (h : SM g.Bars.length) (k l : Int) : m_spec_BridgesOf g k l = some (bridges g k l) := by
  unfold m_spec_BridgesOf bridges
  rw [rankS_eq g h]
  simp only [Option.bind_some]
  cases hr : decide (rk g k l < 0)
  · have hv : vG g = true := by
      cases hv : vG g
      · rw [rk_neg hv] at hr; cases hr
      · rfl
    have hl := (vG_VG hv).len
    have hr2 : decide (0 ≤ rk g k l) = true := by
      rw [decide_eq_false_iff_not] at hr
      rw [decide_eq_true_eq]
      omega
    have := app_loop (b := m_spec_BridgesOf_L1 g k l (rk g k l)) (s := (0, [])) (fun n out => ((n : Int), out)) (fun e => bif decide (rk (dropBar g e) k l < rk g k l) then [(e : Int)] else []) id 1 g.Bars.length [] (by omega) rfl (fun e he => by cases decide (rk (dropBar g e) k l < rk g k l) <;> simp) (fun e out he ho => by
      simp only [List.length_nil, Nat.zero_add, Nat.one_mul] at ho
      unfold m_spec_BridgesOf_L1
      simp only [removeS_eq hv he, rankS_eq _ (dropBar_sm h e), Option.bind_some, w64_succ (show e ≤ 1099511627776 by omega), lim_ok (show out.length + ([(e : Int)] : List Int).length ≤ 2147483648 by simp; omega), hr2]
      rw [decide_eq_true (by omega), cond_true]
      cases decide (rk (dropBar g e) k l < rk g k l) <;> simp) (fun out => by simp [m_spec_BridgesOf_L1])
    rw [this]
    rfl
  · have hr2 : decide (0 ≤ rk g k l) = false := by
      rw [decide_eq_true_eq] at hr
      rw [decide_eq_false_iff_not]
      omega
    have e : loopM (m_spec_BridgesOf_L1 g k l (rk g k l)) BIG (0, []) = some [] := loopM_run (fun _ => (0, [])) 0 (by omega) rfl (fun k hk => by omega) (by
      unfold m_spec_BridgesOf_L1
      rw [hr2]
      cases decide ((0 : Int) < (g.Bars.length : Int)) <;> rfl)
    rw [e]
    rfl
theorem fragileI_eq (g : TGraph) (h : SM g.Bars.length) : m_impl_FragileBars g = some (bridges g 2 3) := by unfold m_impl_FragileBars; rw [bridgesI_eq g h]; rfl
theorem fragileS_eq (g : TGraph) (h : SM g.Bars.length) : m_spec_FragileBars g = some (bridges g 2 3) := by unfold m_spec_FragileBars; rw [bridgesS_eq g h]; rfl
def freedom (g : TGraph) : Int := bif vG g then w64 ((if 0 < w64 (w64 (2 * g.Points) - 3) then w64 (w64 (2 * g.Points) - 3) else 0) - rk g 2 3) else -1
theorem freedomI_eq (g : TGraph) (h : SM g.Bars.length) : m_impl_FreedomOf g = some (freedom g) := by
  unfold m_impl_FreedomOf freedom
  rw [isGraphI_eq g h, rankI_eq g h]
  cases vG g <;> rfl
theorem freedomS_eq (g : TGraph) (h : SM g.Bars.length) : m_spec_FreedomOf g = some (freedom g) := by
  unfold m_spec_FreedomOf freedom
  rw [isGraphS_eq g h, rankS_eq g h]
  cases vG g <;> rfl
def rigid (g : TGraph) : Bool := freedom g == 0
theorem rigidI_eq (g : TGraph) (h : SM g.Bars.length) : m_impl_IsRigid g = some (rigid g) := by unfold m_impl_IsRigid; rw [freedomI_eq g h]; rfl
theorem rigidS_eq (g : TGraph) (h : SM g.Bars.length) : m_spec_IsRigid g = some (rigid g) := by unfold m_spec_IsRigid; rw [freedomS_eq g h]; rfl
def redRigid (g : TGraph) : Bool := rigid g && ((bridges g 2 3).length : Int) == 0
theorem redRigidI_eq (g : TGraph) (h : SM g.Bars.length) : m_impl_IsRedundantlyRigid g = some (redRigid g) := by
  unfold m_impl_IsRedundantlyRigid redRigid
  rw [rigidI_eq g h, fragileI_eq g h]
  cases rigid g <;> rfl
theorem redRigidS_eq (g : TGraph) (h : SM g.Bars.length) : m_spec_IsRedundantlyRigid g = some (redRigid g) := by
  unfold m_spec_IsRedundantlyRigid redRigid
  rw [rigidS_eq g h, fragileS_eq g h]
  cases rigid g <;> rfl
def only (g : TGraph) (keep : List Int) : TGraph := ⟨g.Points, pieces (fun k => match g.Bars[k]? with | some x => bif hasI keep k then [x] else [] | none => []) g.Bars.length⟩
end Go.Proofs.Yteognanhfpbghaa
end
section
set_option linter.unusedVariables false
set_option linter.unusedSimpArgs false
set_option linter.unnecessarySimpa false
namespace Go.Sp
def su (f : Nat → Nat) : Nat → Nat
  | 0 => 0
  | n + 1 => su f n + f n
theorem su_congr {f g : Nat → Nat} : ∀ n, (∀ i, i < n → f i = g i) → su f n = su g n
  | 0, _ => rfl
  | n + 1, h => by
    show su f n + f n = su g n + g n
    rw [su_congr n fun i hi => h i (by omega), h n (by omega)]
theorem su_le {f g : Nat → Nat} : ∀ n, (∀ i, i < n → f i ≤ g i) → su f n ≤ su g n
  | 0, _ => Nat.le_refl _
  | n + 1, h => by
    have h1 := su_le n fun i hi => h i (by omega)
    have h2 := h n (by omega)
    show su f n + f n ≤ su g n + g n
    omega
theorem su_add (f g : Nat → Nat) : ∀ n, su (fun i => f i + g i) n = su f n + su g n
  | 0 => rfl
  | n + 1 => by
    show su (fun i => f i + g i) n + (f n + g n) = (su f n + f n) + (su g n + g n)
    rw [su_add f g n]
    omega
theorem su_zero {f : Nat → Nat} : ∀ n, (∀ i, i < n → f i = 0) → su f n = 0
  | 0, _ => rfl
  | n + 1, h => by
    show su f n + f n = 0
    rw [su_zero n fun i hi => h i (by omega), h n (by omega)]
theorem su_bump {f g : Nat → Nat} {j c : Nat} : ∀ n, j < n → g j = f j + c → (∀ i, i < n → i ≠ j → g i = f i) → su g n = su f n + c
  | 0, hj, _, _ => by omega
  | n + 1, hj, h1, h2 => by
    show su g n + g n = su f n + f n + c
    by_cases hjn : j = n
    · subst hjn
      rw [su_congr j fun i hi => h2 i (by omega) (by omega), h1]
      omega
    · rw [su_bump n (by omega) h1 fun i hi hne => h2 i (by omega) hne, h2 n (by omega) (fun e => hjn e.symm)]
      omega
theorem su_lt {f g : Nat → Nat} {j : Nat} : ∀ n, (∀ i, i < n → f i ≤ g i) → j < n → f j < g j → su f n < su g n
  | 0, _, hj, _ => by omega
  | n + 1, h, hj, h1 => by
    show su f n + f n < su g n + g n
    by_cases hjn : j = n
    · subst hjn
      have := su_le j fun i hi => h i (by omega)
      omega
    · have := su_lt n (fun i hi => h i (by omega)) (by omega : j < n) h1
      have := h n (by omega)
      omega
theorem su_pos {f : Nat → Nat} : ∀ n, 0 < su f n → ∃ i, i < n ∧ 0 < f i
  | 0, h => by simp [su] at h
  | n + 1, h => by
    change 0 < su f n + f n at h
    by_cases h1 : 0 < f n
    · exact ⟨n, by omega, h1⟩
    · obtain ⟨i, hi, h2⟩ := su_pos n (by omega : 0 < su f n)
      exact ⟨i, by omega, h2⟩
theorem su_one {f : Nat → Nat} {j : Nat} {n : Nat} (hj : j < n) : f j ≤ su f n := by
  have : su (fun i => if i = j then f j else 0) n = 0 + f j := by
    have := su_bump (f := fun _ => 0) (g := fun i => if i = j then f j else 0) (c := f j) n hj (by simp) (fun i _ hne => by simp [hne])
    rw [this, su_zero n fun _ _ => rfl]
  have h2 := su_le (f := fun i => if i = j then f j else 0) (g := f) n fun i _ => by
    show (if i = j then f j else 0) ≤ f i
    split
    · rename_i h; subst h; exact Nat.le_refl _
    · exact Nat.zero_le _
  omega
def inn (X : Nat → Bool) (i : Nat) : Bool := X (i / 8) && X (i % 8)
def size (X : Nat → Bool) : Nat := su (fun v => if X v then 1 else 0) 8
def span (I : Nat → Nat) (X : Nat → Bool) : Nat := su (fun i => if inn X i then I i else 0) 64
def card (I : Nat → Nat) : Nat := su I 64
def cap (X Y : Nat → Bool) (v : Nat) : Bool := X v && Y v
def cup (X Y : Nat → Bool) (v : Nat) : Bool := X v || Y v
def add1 (I : Nat → Nat) (e i : Nat) : Nat := if i = e then I i + 1 else I i
def sub1 (I : Nat → Nat) (e i : Nat) : Nat := if i = e then I i - 1 else I i
theorem inn_cap (X Y : Nat → Bool) (i : Nat) : inn (cap X Y) i = (inn X i && inn Y i) := by
  unfold inn cap
  cases X (i / 8) <;> cases X (i % 8) <;> cases Y (i / 8) <;> cases Y (i % 8) <;> rfl
theorem inn_cup {X Y : Nat → Bool} {i : Nat} (h : inn X i = true ∨ inn Y i = true) : inn (cup X Y) i = true := by
  unfold inn cup at *
  revert h
  cases X (i / 8) <;> cases X (i % 8) <;> cases Y (i / 8) <;> cases Y (i % 8) <;> simp
theorem size_cc (X Y : Nat → Bool) : size (cap X Y) + size (cup X Y) = size X + size Y := by
  unfold size
  rw [← su_add, ← su_add]
  refine su_congr 8 fun v _ => ?_
  unfold cap cup
  cases X v <;> cases Y v <;> rfl
theorem span_cc (I : Nat → Nat) (X Y : Nat → Bool) : span I X + span I Y ≤ span I (cap X Y) + span I (cup X Y) := by
  unfold span
  rw [← su_add, ← su_add]
  refine su_le 64 fun i _ => ?_
  show (if inn X i then I i else 0) + (if inn Y i then I i else 0) ≤ (if inn (cap X Y) i then I i else 0) + (if inn (cup X Y) i then I i else 0)
  rw [inn_cap]
  cases hx : inn X i <;> cases hy : inn Y i
  · simp
  · rw [inn_cup (.inr hy)]; simp
  · rw [inn_cup (.inl hx)]; simp
  · rw [inn_cup (.inl hx)]; simp
theorem size_two {X : Nat → Bool} {a b : Nat} (ha : a < 8) (hb : b < 8) (hab : a ≠ b) (xa : X a = true) (xb : X b = true) : 2 ≤ size X := by
  unfold size
  have h1 : su (fun v => if v = a then 1 else 0) 8 = 1 := by
    have := su_bump (f := fun _ => 0) (g := fun v => if v = a then 1 else 0) (c := 1) 8 ha (by simp) (fun i _ hne => by simp [hne])
    rw [this, su_zero 8 fun _ _ => rfl]
  have h2 : su (fun v => if v = b then 1 else 0) 8 = 1 := by
    have := su_bump (f := fun _ => 0) (g := fun v => if v = b then 1 else 0) (c := 1) 8 hb (by simp) (fun i _ hne => by simp [hne])
    rw [this, su_zero 8 fun _ _ => rfl]
  have h3 := su_le (f := fun v => (if v = a then 1 else 0) + (if v = b then 1 else 0)) (g := fun v => if X v then 1 else 0) 8 fun v _ => by
    show (if v = a then 1 else 0) + (if v = b then 1 else 0) ≤ (if X v then 1 else 0)
    by_cases h1 : v = a
    · subst h1
      rw [if_pos rfl, if_neg hab, xa]
      simp
    · by_cases h2 : v = b
      · subst h2
        rw [if_neg h1, if_pos rfl, xb]
        simp
      · rw [if_neg h1, if_neg h2]
        exact Nat.zero_le _
  rw [su_add, h1, h2] at h3
  exact h3
theorem size_inn {X : Nat → Bool} {i : Nat} (hi : i < 64) (hne : i / 8 ≠ i % 8) (h : inn X i = true) : 2 ≤ size X := by
  unfold inn at h
  rw [Bool.and_eq_true] at h
  exact size_two (by omega) (by omega) hne h.1 h.2
theorem span_add1 (I : Nat → Nat) {e : Nat} (he : e < 64) (X : Nat → Bool) : span (add1 I e) X = span I X + if inn X e then 1 else 0 := by
  unfold span
  refine su_bump (j := e) 64 he ?_ (fun i _ hne => ?_)
  · show (if inn X e then add1 I e e else 0) = (if inn X e then I e else 0) + _
    unfold add1
    cases inn X e <;> simp
  · show (if inn X i then add1 I e i else 0) = (if inn X i then I i else 0)
    unfold add1
    rw [if_neg hne]
theorem span_sub1 {I : Nat → Nat} {e : Nat} (he : e < 64) (hp : 0 < I e) (X : Nat → Bool) : span (sub1 I e) X + (if inn X e then 1 else 0) = span I X := by
  have h : span I X = span (add1 (sub1 I e) e) X := by
    unfold span
    refine su_congr 64 fun i _ => ?_
    have : add1 (sub1 I e) e i = I i := by
      unfold add1 sub1
      by_cases h : i = e
      · subst h
        simp
        omega
      · simp [h]
    rw [this]
  rw [h, span_add1 _ he]
theorem card_add1 (I : Nat → Nat) {e : Nat} (he : e < 64) : card (add1 I e) = card I + 1 :=
  su_bump (j := e) 64 he (by simp [add1]) (fun i _ hne => by simp [add1, hne])
theorem card_sub1 {I : Nat → Nat} {e : Nat} (he : e < 64) (hp : 0 < I e) : card (sub1 I e) + 1 = card I :=
  (su_bump (f := sub1 I e) (g := I) (j := e) 64 he (by simp [sub1]; omega) (fun i _ hne => by simp [sub1, hne])).symm
theorem span_mono {I J : Nat → Nat} (h : ∀ i, i < 64 → I i ≤ J i) (X : Nat → Bool) : span I X ≤ span J X :=
  su_le 64 fun i hi => by
    show (if inn X i then I i else 0) ≤ (if inn X i then J i else 0)
    split
    · exact h i hi
    · exact Nat.le_refl _
theorem span_congr {I J : Nat → Nat} (h : ∀ i, i < 64 → I i = J i) (X : Nat → Bool) : span I X = span J X :=
  su_congr 64 fun i hi => by rw [h i hi]
structure Sparse (k l : Nat) (I : Nat → Nat) : Prop where
  sp : ∀ X, 0 < span I X → span I X + l ≤ k * size X
  ll : ∀ i, i < 64 → 0 < I i → i / 8 ≠ i % 8
def tight (k l : Nat) (I : Nat → Nat) (X : Nat → Bool) : Prop := span I X + l = k * size X
section
variable {k l : Nat} {I J : Nat → Nat}
theorem Sparse.congr (h : Sparse k l I) (e : ∀ i, i < 64 → I i = J i) : Sparse k l J :=
  ⟨fun X hX => by rw [← span_congr e X] at hX ⊢; exact h.sp X hX, fun i hi hp => h.ll i hi (by rw [e i hi]; exact hp)⟩
theorem Sparse.sub (h : Sparse k l I) (e : ∀ i, i < 64 → J i ≤ I i) : Sparse k l J :=
  ⟨fun X hX => by
    have h1 := span_mono e X
    have := h.sp X (by omega)
    omega, fun i hi hp => h.ll i hi (by have := e i hi; omega)⟩
theorem Sparse.bound (hl : l < 2 * k) (h : Sparse k l I) {X : Nat → Bool} (h2 : 2 ≤ size X) : span I X + l ≤ k * size X := by
  by_cases h0 : 0 < span I X
  · exact h.sp X h0
  · have : 2 * k ≤ k * size X := by rw [Nat.mul_comm]; exact Nat.mul_le_mul_left _ h2
    omega
theorem tight_cc (hl : l < 2 * k) (h : Sparse k l I) {X Y : Nat → Bool} (hX : tight k l I X) (hY : tight k l I Y) (h2 : 2 ≤ size (cap X Y)) : tight k l I (cap X Y) ∧ tight k l I (cup X Y) := by
  have h1 := size_cc X Y
  have h3 := span_cc I X Y
  have hsz : size (cap X Y) ≤ size (cup X Y) := su_le 8 fun v _ => by
    show (if cap X Y v then 1 else 0) ≤ (if cup X Y v then 1 else 0)
    unfold cap cup
    cases X v <;> cases Y v <;> simp
  have h4 := h.bound hl h2
  have h5 := h.bound hl (X := cup X Y) (by omega)
  unfold tight at *
  have h6 : k * size (cap X Y) + k * size (cup X Y) = k * size X + k * size Y := by rw [← Nat.mul_add, ← Nat.mul_add, h1]
  omega
theorem not_add (hl : l < 2 * k) (h : Sparse k l I) {e : Nat} (he : e < 64) (hne : e / 8 ≠ e % 8) (hn : ¬ Sparse k l (add1 I e)) : ∃ X, inn X e = true ∧ tight k l I X := by
  apply Classical.byContradiction
  intro hno
  refine hn ⟨fun X hX => ?_, fun i hi hp => ?_⟩
  · rw [span_add1 I he] at hX ⊢
    cases hx : inn X e with
    | false =>
      rw [hx] at hX
      simp only [Bool.false_eq_true, if_false, Nat.add_zero] at hX ⊢
      exact h.sp X hX
    | true =>
      have h2 := size_inn he hne hx
      have h3 := h.bound hl h2
      by_cases ht : tight k l I X
      · exact absurd ⟨X, hx, ht⟩ hno
      · unfold tight at ht
        simp only [if_true]
        omega
  · unfold add1 at hp
    by_cases hie : i = e
    · rw [hie]; exact hne
    · rw [if_neg hie] at hp
      exact h.ll i hi hp
theorem tight_no {e : Nat} (he : e < 64) {X : Nat → Bool} (hx : inn X e = true) (ht : k * size X ≤ span I X + l) : ¬ Sparse k l (add1 I e) := fun h => by
  have := h.sp X (by rw [span_add1 I he, hx]; simp)
  rw [span_add1 I he, hx] at this
  simp only [if_true] at this
  omega
theorem least_tight {e : Nat} : ∀ n, (∃ X, size X ≤ n ∧ inn X e = true ∧ tight k l I X) → ∃ X, inn X e = true ∧ tight k l I X ∧ ∀ Y, inn Y e = true → tight k l I Y → size X ≤ size Y
  | 0, ⟨X, h0, h1, h2⟩ => ⟨X, h1, h2, fun Y _ _ => by omega⟩
  | n + 1, ⟨X, h0, h1, h2⟩ => by
    by_cases h : ∃ Y, size Y ≤ n ∧ inn Y e = true ∧ tight k l I Y
    · exact least_tight n h
    · refine ⟨X, h1, h2, fun Y h3 h4 => ?_⟩
      apply Classical.byContradiction
      intro h5
      exact h ⟨Y, by omega, h3, h4⟩
theorem cap_less {X Y : Nat → Bool} {f : Nat} (hf : f < 64) (hX : inn X f = true) (hY : inn Y f = false) : size (cap X Y) < size X := by
  unfold inn at hX hY
  rw [Bool.and_eq_true] at hX
  have : ∃ v, v < 8 ∧ X v = true ∧ Y v = false := by
    cases h1 : Y (f / 8) with
    | false => exact ⟨f / 8, by omega, hX.1, h1⟩
    | true =>
      rw [h1, Bool.true_and] at hY
      exact ⟨f % 8, by omega, hX.2, hY⟩
  obtain ⟨v, hv, h1, h2⟩ := this
  refine su_lt 8 (fun v _ => ?_) hv ?_
  · show (if cap X Y v then 1 else 0) ≤ (if X v then 1 else 0)
    unfold cap
    cases X v <;> cases Y v <;> simp
  · show (if cap X Y v then 1 else 0) < (if X v then 1 else 0)
    unfold cap
    rw [h1, h2]
    simp
theorem exch (hl : l < 2 * k) : ∀ n (I J : Nat → Nat), Sparse k l I → Sparse k l J → su (fun i => J i - I i) 64 ≤ n → card I < card J → ∃ e, e < 64 ∧ I e < J e ∧ Sparse k l (add1 I e) := by
  intro n
  induction n with
  | zero =>
    intro I J hI hJ hn hc
    have : card J ≤ card I := su_le 64 fun i hi => by
      have : J i - I i ≤ su (fun i => J i - I i) 64 := su_one (f := fun i => J i - I i) hi
      omega
    omega
  | succ n ih =>
    intro I J hI hJ hn hc
    apply Classical.byContradiction
    intro hno
    have hnot : ∀ e, e < 64 → I e < J e → ¬ Sparse k l (add1 I e) := fun e h1 h2 h3 => hno ⟨e, h1, h2, h3⟩
    -- a bar of J more
    have : ∃ e, e < 64 ∧ I e < J e := by
      apply Classical.byContradiction
      intro hx
      have : card J ≤ card I := su_le 64 fun i hi => by
        apply Classical.byContradiction
        intro h
        exact hx ⟨i, hi, by omega⟩
      omega
    obtain ⟨e, he, hle⟩ := this
    have hne := hJ.ll e he (by omega)
    obtain ⟨X0, hx0, ht0⟩ := not_add hl hI he hne (hnot e he hle)
    obtain ⟨X, hx, ht, hmin⟩ := least_tight (size X0) ⟨X0, Nat.le_refl _, hx0, ht0⟩
    -- a bar of I more, in X
    have : ∃ f, f < 64 ∧ inn X f = true ∧ J f < I f := by
      apply Classical.byContradiction
      intro hno2
      have h1 : span I X < span J X := su_lt (j := e) 64 (fun i hi => by
        show (if inn X i then I i else 0) ≤ (if inn X i then J i else 0)
        cases hxi : inn X i with
        | false => exact Nat.le_refl _
        | true =>
          simp only [if_true]
          apply Classical.byContradiction
          intro h
          exact hno2 ⟨i, hi, hxi, by omega⟩) he (by
        show (if inn X e then I e else 0) < (if inn X e then J e else 0)
        rw [hx]
        exact hle)
      have h2 := hJ.sp X (by omega)
      unfold tight at ht
      omega
    obtain ⟨f, hf, hxf, hlf⟩ := this
    have hfe : f ≠ e := fun h => by subst h; omega
    have hfne := hI.ll f hf (by omega)
    have hpf : 0 < add1 I e f := by unfold add1; rw [if_neg hfe]; omega
    -- the exchange
    have hspan : ∀ Y, span (sub1 (add1 I e) f) Y + (if inn Y f then 1 else 0) = span I Y + (if inn Y e then 1 else 0) := fun Y => by
      rw [span_sub1 hf hpf, span_add1 I he]
    have hI' : Sparse k l (sub1 (add1 I e) f) := by
      refine ⟨fun Y hY => ?_, fun i hi hp => ?_⟩
      · have hs := hspan Y
        obtain ⟨i, hi, hpi⟩ := su_pos 64 hY
        have hyi : inn Y i = true := by
          cases h : inn Y i with
          | true => rfl
          | false => rw [h] at hpi; simp at hpi
        have hine : i / 8 ≠ i % 8 := by
          rw [hyi] at hpi
          simp only [if_true] at hpi
          unfold sub1 add1 at hpi
          by_cases hie : i = e
          · rw [hie]; exact hne
          · by_cases hif : i = f
            · rw [hif]; exact hfne
            · rw [if_neg hif, if_neg hie] at hpi
              exact hI.ll i hi hpi
        have h2 := size_inn hi hine hyi
        have hb := hI.bound hl h2
        cases hye : inn Y e with
        | false =>
          rw [hye] at hs
          simp only [Bool.false_eq_true, if_false] at hs
          omega
        | true =>
          cases hyf : inn Y f with
          | true =>
            rw [hye, hyf] at hs
            simp only [if_true] at hs
            omega
          | false =>
            rw [hye, hyf] at hs
            simp only [if_true, Bool.false_eq_true, if_false] at hs
            by_cases hty : tight k l I Y
            · have hc2 : inn (cap X Y) e = true := by rw [inn_cap, hx, hye]; rfl
              have h3 := size_inn he hne hc2
              have h4 := (tight_cc hl hI ht hty h3).1
              have h5 := hmin _ hc2 h4
              have h6 := cap_less hf hxf hyf
              omega
            · unfold tight at hty
              omega
      · unfold sub1 add1 at hp
        by_cases hie : i = e
        · rw [hie]; exact hne
        · by_cases hif : i = f
          · rw [hif]; exact hfne
          · rw [if_neg hif, if_neg hie] at hp
            exact hI.ll i hi hp
    have hcard : card (sub1 (add1 I e) f) = card I := by
      have h1 := card_sub1 hf hpf
      have h2 := card_add1 I he
      omega
    have hdist : su (fun i => J i - sub1 (add1 I e) f i) 64 ≤ n := by
      have h1 := su_bump (f := fun i => J i - sub1 (add1 I e) f i) (g := fun i => J i - I i) (j := e) (c := 1) 64 he (by
        show J e - I e = J e - sub1 (add1 I e) f e + 1
        unfold sub1 add1
        rw [if_neg (Ne.symm hfe), if_pos rfl]
        omega) (fun i _ hie => by
        show J i - I i = J i - sub1 (add1 I e) f i
        unfold sub1 add1
        by_cases hif : i = f
        · subst hif
          rw [if_pos rfl, if_neg hie]
          omega
        · rw [if_neg hif, if_neg hie])
      omega
    obtain ⟨e', he', hle', hs'⟩ := ih _ J hI' hJ hdist (by omega)
    have hef : e' ≠ f := fun h => by
      subst h
      unfold sub1 add1 at hle'
      rw [if_pos rfl, if_neg hfe] at hle'
      omega
    have hlI : I e' < J e' := by
      unfold sub1 add1 at hle'
      rw [if_neg hef] at hle'
      by_cases h : e' = e
      · rw [if_pos h] at hle'
        omega
      · rw [if_neg h] at hle'
        exact hle'
    obtain ⟨X', hx', ht'⟩ := not_add hl hI he' (hJ.ll e' he' (by omega)) (hnot e' he' hlI)
    cases hxf' : inn X' f with
    | false =>
      have hs := hspan X'
      rw [hxf'] at hs
      simp only [Bool.false_eq_true, if_false] at hs
      refine tight_no he' hx' ?_ hs'
      unfold tight at ht'
      omega
    | true =>
      have hc2 : inn (cap X X') f = true := by rw [inn_cap, hxf, hxf']; rfl
      have h4 := (tight_cc hl hI ht ht' (size_inn hf hfne hc2)).2
      have hs := hspan (cup X X')
      rw [inn_cup (.inl hx), inn_cup (.inl hxf)] at hs
      simp only [if_true] at hs
      refine tight_no (X := cup X X') he' (inn_cup (.inr hx')) ?_ hs'
      unfold tight at h4
      omega
structure IsRank (k l : Nat) (M : Nat → Nat) (r : Nat) : Prop where
  ex : ∃ I, (∀ i, i < 64 → I i ≤ M i) ∧ Sparse k l I ∧ card I = r
  mx : ∀ J, (∀ i, i < 64 → J i ≤ M i) → Sparse k l J → card J ≤ r
variable {M N : Nat → Nat} {r s : Nat}
theorem IsRank.mono (h : IsRank k l M r) (h2 : IsRank k l N s) (hMN : ∀ i, i < 64 → M i ≤ N i) : r ≤ s := by
  obtain ⟨I, h3, h4, h5⟩ := h.ex
  have := h2.mx I (fun i hi => Nat.le_trans (h3 i hi) (hMN i hi)) h4
  omega
theorem IsRank.of_max (hl : l < 2 * k) (hI : Sparse k l I) (h1 : ∀ i, i < 64 → I i ≤ M i) (h2 : ∀ e, e < 64 → I e < M e → ¬ Sparse k l (add1 I e)) : IsRank k l M (card I) :=
  ⟨⟨I, h1, hI, rfl⟩, fun J hJ hs => by
    apply Classical.byContradiction
    intro h
    obtain ⟨e, he, hlt, hsp⟩ := exch hl _ I J hI hs (Nat.le_refl _) (by omega)
    exact h2 e he (Nat.lt_of_lt_of_le hlt (hJ e he)) hsp⟩
theorem IsRank.extend (hl : l < 2 * k) (h : IsRank k l M r) : ∀ n (I : Nat → Nat), Sparse k l I → (∀ i, i < 64 → I i ≤ M i) → card I + n = r → ∃ I', (∀ i, i < 64 → I i ≤ I' i) ∧ (∀ i, i < 64 → I' i ≤ M i) ∧ Sparse k l I' ∧ card I' = r := by
  intro n
  induction n with
  | zero => intro I hI h1 h2; exact ⟨I, fun _ _ => Nat.le_refl _, h1, hI, by omega⟩
  | succ n ih =>
    intro I hI h1 h2
    obtain ⟨B, b1, b2, b3⟩ := h.ex
    obtain ⟨e, he, hlt, hsp⟩ := exch hl _ I B hI b2 (Nat.le_refl _) (by omega)
    obtain ⟨I', c1, c2, c3, c4⟩ := ih (add1 I e) hsp (fun i hi => by
      unfold add1
      by_cases hie : i = e
      · rw [if_pos hie]
        subst hie
        have := b1 i hi
        omega
      · rw [if_neg hie]
        exact h1 i hi) (by rw [card_add1 I he]; omega)
    refine ⟨I', fun i hi => ?_, c2, c3, c4⟩
    have := c1 i hi
    unfold add1 at this
    split at this <;> omega
theorem IsRank.fill (hl : l < 2 * k) (h : IsRank k l M r) (hI : Sparse k l I) (h1 : ∀ i, i < 64 → I i ≤ M i) {S : Nat → Bool} (ht : tight k l I S) (hMN : ∀ i, i < 64 → M i ≤ N i) (hS : ∀ i, i < 64 → M i < N i → inn S i = true) : IsRank k l N r := by
  have hc := h.mx I h1 hI
  obtain ⟨I', c1, c2, c3, c4⟩ := h.extend hl (r - card I) I hI h1 (by omega)
  have : IsRank k l N (card I') := IsRank.of_max hl c3 (fun i hi => Nat.le_trans (c2 i hi) (hMN i hi)) fun e he hlt => by
    by_cases hM : I' e < M e
    · intro hsp
      have := h.mx (add1 I' e) (fun i hi => by
        unfold add1
        by_cases hie : i = e
        · rw [if_pos hie]; subst hie; omega
        · rw [if_neg hie]; exact c2 i hi) hsp
      rw [card_add1 I' he] at this
      omega
    · have hin := hS e he (by have := c2 e he; omega)
      refine tight_no he hin ?_
      have := span_mono c1 S
      unfold tight at ht
      omega
  rw [c4] at this
  exact this
theorem IsRank.add (h : IsRank k l M r) {e : Nat} (he : e < 64) (h2 : IsRank k l (add1 M e) s) : r ≤ s ∧ s ≤ r + 1 := by
  refine ⟨h.mono h2 fun i hi => by unfold add1; split <;> omega, ?_⟩
  obtain ⟨I, h3, h4, h5⟩ := h2.ex
  by_cases hle : I e ≤ M e
  · have := h.mx I (fun i hi => by
      have := h3 i hi
      unfold add1 at this
      by_cases hie : i = e
      · subst hie; exact hle
      · rw [if_neg hie] at this; exact this) h4
    omega
  · have hp : 0 < I e := by omega
    have := h.mx (sub1 I e) (fun i hi => by
      have := h3 i hi
      unfold add1 at this
      unfold sub1
      by_cases hie : i = e
      · rw [if_pos hie] at this ⊢; omega
      · rw [if_neg hie] at this ⊢; exact this) (h4.sub fun i hi => by unfold sub1; split <;> omega)
    have := card_sub1 he hp
    omega
theorem IsRank.le_in (h : IsRank k l M r) {X : Nat → Bool} (hX : ∀ i, i < 64 → 0 < M i → inn X i = true) (hr : 0 < r) : r + l ≤ k * size X := by
  obtain ⟨I, h3, h4, h5⟩ := h.ex
  have : span I X = card I := su_congr 64 fun i hi => by
    show (if inn X i then I i else 0) = I i
    cases hx : inn X i with
    | true => rfl
    | false =>
      have : ¬ 0 < M i := fun hp => by rw [hX i hi hp] at hx; cases hx
      have := h3 i hi
      simp only [Bool.false_eq_true, if_false]
      omega
  have h6 := h4.sp X (by omega)
  omega
theorem IsRank.split (h : IsRank k l M r) {A B : Nat → Nat} {a b : Nat} (hA : IsRank k l A a) (hB : IsRank k l B b) (hM : ∀ i, i < 64 → M i ≤ A i + B i) : r ≤ a + b := by
  obtain ⟨I, h3, h4, h5⟩ := h.ex
  have h6 := hA.mx (fun i => min (I i) (A i)) (fun i _ => Nat.min_le_right _ _) (h4.sub fun i _ => Nat.min_le_left _ _)
  have h7 := hB.mx (fun i => I i - A i) (fun i hi => by have := h3 i hi; have := hM i hi; omega) (h4.sub fun i _ => Nat.sub_le _ _)
  have h8 : card I = card (fun i => min (I i) (A i)) + card (fun i => I i - A i) := by
    unfold card
    rw [← su_add]
    exact su_congr 64 fun i _ => by omega
  omega
end
end Go.Sp
end
section
set_option linter.unusedVariables false
set_option linter.unusedSimpArgs false
set_option linter.unnecessarySimpa false
open Go Go.Fw Go.Sp
namespace Go.Proofs.Yteognanhfpbghaa
def codeB (x : TBar) : Nat := x.A.toNat * 8 + x.B.toNat
def mult : List TBar → Nat → Nat
  | [], _ => 0
  | x :: L, i => add1 (mult L) (codeB x) i
structure OkB (x : TBar) : Prop where
  a0 : 0 ≤ x.A
  a8 : x.A < 8
  b0 : 0 ≤ x.B
  b8 : x.B < 8
  ab : x.A ≠ x.B
theorem OkB.lt {x : TBar} (h : OkB x) : codeB x < 64 := by
  have := h.a0; have := h.a8; have := h.b0; have := h.b8
  unfold codeB
  omega
theorem OkB.dm {x : TBar} (h : OkB x) : codeB x / 8 = x.A.toNat ∧ codeB x % 8 = x.B.toNat := by
  have := h.a0; have := h.a8; have := h.b0; have := h.b8
  unfold codeB
  omega
theorem OkB.ne {x : TBar} (h : OkB x) : codeB x / 8 ≠ codeB x % 8 := by
  have := h.a0; have := h.a8; have := h.b0; have := h.b8; have := h.ab
  rw [h.dm.1, h.dm.2]
  omega
theorem OkB.inn {x : TBar} (h : OkB x) (X : Nat → Bool) : Sp.inn X (codeB x) = (X x.A.toNat && X x.B.toNat) := by
  unfold Sp.inn
  rw [h.dm.1, h.dm.2]
theorem mult_append (L L' : List TBar) (i : Nat) : mult (L ++ L') i = mult L i + mult L' i := by
  induction L with
  | nil => simp [mult]
  | cons x L ih =>
    simp only [List.cons_append, mult, add1]
    split <;> omega
theorem mult_snoc (L : List TBar) (x : TBar) (i : Nat) : mult (L ++ [x]) i = add1 (mult L) (codeB x) i := by
  rw [mult_append]
  simp only [mult, add1]
  split <;> omega
theorem mult_pos {L : List TBar} {i : Nat} (h : 0 < mult L i) : ∃ x ∈ L, codeB x = i := by
  induction L with
  | nil => simp [mult] at h
  | cons x L ih =>
    by_cases hi : i = codeB x
    · exact ⟨x, List.mem_cons_self .., hi.symm⟩
    · simp only [mult, add1, if_neg hi] at h
      obtain ⟨y, h1, h2⟩ := ih h
      exact ⟨y, List.mem_cons_of_mem _ h1, h2⟩
theorem mult_mem {L : List TBar} {x : TBar} (h : x ∈ L) : 0 < mult L (codeB x) := by
  induction L with
  | nil => cases h
  | cons y L ih =>
    simp only [mult, add1]
    rcases List.mem_cons.1 h with rfl | h1
    · simp
    · have := ih h1
      split <;> omega
theorem card_mult {L : List TBar} (h : ∀ x ∈ L, OkB x) : card (mult L) = L.length := by
  induction L with
  | nil => exact su_zero 64 fun _ _ => rfl
  | cons x L ih =>
    show card (add1 (mult L) (codeB x)) = L.length + 1
    rw [card_add1 _ (h x (List.mem_cons_self ..)).lt, ih fun y hy => h y (List.mem_cons_of_mem _ hy)]
theorem span_mult {L : List TBar} (h : ∀ x ∈ L, OkB x) (X : Nat → Bool) : span (mult L) X = L.countP fun x => X x.A.toNat && X x.B.toNat := by
  induction L with
  | nil =>
    refine su_zero 64 fun i _ => ?_
    show (if inn X i then 0 else 0) = 0
    split <;> rfl
  | cons x L ih =>
    have hx := h x (List.mem_cons_self ..)
    show span (add1 (mult L) (codeB x)) X = _
    rw [span_add1 _ hx.lt, hx.inn, ih fun y hy => h y (List.mem_cons_of_mem _ hy), List.countP_cons]
theorem su_mul (c : Nat) (f : Nat → Nat) : ∀ n, su (fun i => c * f i) n = c * su f n
  | 0 => by simp [su]
  | n + 1 => by
    show su (fun i => c * f i) n + c * f n = c * (su f n + f n)
    rw [su_mul c f n, Nat.mul_add]
theorem su_at (f : Nat → Nat) {j n : Nat} (hj : j < n) : su (fun i => if i = j then f j else 0) n = f j := by
  have := su_bump (f := fun _ => 0) (g := fun i => if i = j then f j else 0) (c := f j) n hj (by simp) (fun i _ hne => by simp [hne])
  rw [this, su_zero n fun _ _ => rfl]
  omega
theorem su_pair (f : Nat → Nat) {a b n : Nat} (ha : a < n) (hb : b < n) (hab : a ≠ b) : f a + f b ≤ su f n := by
  have h3 := su_le (f := fun v => (if v = a then f a else 0) + (if v = b then f b else 0)) (g := f) n fun v _ => by
    show (if v = a then f a else 0) + (if v = b then f b else 0) ≤ f v
    by_cases h1 : v = a
    · subst h1
      rw [if_pos rfl, if_neg hab]
      exact Nat.le_refl _
    · by_cases h2 : v = b
      · subst h2
        rw [if_neg h1, if_pos rfl]
        omega
      · rw [if_neg h1, if_neg h2]
        exact Nat.zero_le _
  rw [su_add, su_at f ha, su_at f hb] at h3
  exact h3
theorem tails_sum (X : Nat → Bool) : ∀ T : List Int, (∀ t ∈ T, 0 ≤ t ∧ t < 8) → su (fun v => if X v then T.count (v : Int) else 0) 8 = T.countP fun t => X t.toNat
  | [], _ => by
    refine su_zero 8 fun v _ => ?_
    show (if X v then ([] : List Int).count (v : Int) else 0) = 0
    split <;> rfl
  | t :: T, h => by
    have ht := h t (List.mem_cons_self ..)
    rw [List.countP_cons, ← tails_sum X T fun s hs => h s (List.mem_cons_of_mem _ hs)]
    refine su_bump (j := t.toNat) 8 (by omega) ?_ (fun i _ hne => ?_)
    · show (if X t.toNat then (t :: T).count ((t.toNat : Nat) : Int) else 0) = _
      rw [Int.toNat_of_nonneg ht.1, List.count_cons_self]
      cases X t.toNat <;> simp
    · show (if X i then (t :: T).count (i : Int) else 0) = (if X i then T.count (i : Int) else 0)
      rw [List.count_cons_of_ne (by omega)]
theorem countP_le2 {α β : Type} {p : α → Bool} {q : β → Bool} : ∀ (L : List α) (T : List β), L.length = T.length → (∀ (i : Nat) x t, L[i]? = some x → T[i]? = some t → p x = true → q t = true) → L.countP p ≤ T.countP q
  | [], _, _, _ => by simp
  | x :: L, [], h, _ => by simp at h
  | x :: L, t :: T, h, hh => by
    have h1 := countP_le2 L T (by simpa using h) fun i x t hx ht => hh (i + 1) x t (by simpa using hx) (by simpa using ht)
    have h2 := hh 0 x t rfl rfl
    rw [List.countP_cons, List.countP_cons]
    cases hp : p x with
    | false => simp; split <;> omega
    | true => rw [h2 hp]; simp; exact h1
section
variable {P : Int} {bars : List TBar} {k : Int} {m : Nat} {p : TPebbles}
def plc (bars : List TBar) (p : TPebbles) : List TBar := (List.range p.Placed.length).map (pbar bars p)
theorem GB.ok (hg : GB P bars) {i : Nat} {x : TBar} (h : bars[i]? = some x) : OkB x := by
  have := hg.p8
  exact ⟨hg.a0 h, by have := hg.ap h; omega, hg.b0 h, by have := hg.bp h; omega, hg.ab h⟩
theorem GB.okm (hg : GB P bars) : ∀ x ∈ bars, OkB x := fun x hx => by
  obtain ⟨i, hi⟩ := List.getElem?_of_mem hx
  exact hg.ok hi
theorem plc_len : (plc bars p).length = p.Placed.length := by simp [plc]
theorem plc_get {i : Nat} {x : TBar} (h : (plc bars p)[i]? = some x) : i < p.Placed.length ∧ x = pbar bars p i := by
  unfold plc at h
  rw [List.getElem?_map] at h
  cases hr : (List.range p.Placed.length)[i]? with
  | none => rw [hr] at h; cases h
  | some j =>
    rw [hr] at h
    have hj := List.getElem?_eq_some_iff.1 hr
    obtain ⟨h1, h2⟩ := hj
    simp at h1 h2 h
    subst h2
    exact ⟨h1, h.symm⟩
theorem PB.plc_ok (hg : GB P bars) (hp : PB P bars k m p) : ∀ x ∈ plc bars p, OkB x := fun x hx => by
  obtain ⟨i, hi⟩ := List.getElem?_of_mem hx
  obtain ⟨h1, rfl⟩ := plc_get hi
  obtain ⟨_, _, _, h2⟩ := hp.bar hg h1
  exact hg.ok h2
theorem plc_congr {p' : TPebbles} (h : p'.Placed = p.Placed) : plc bars p' = plc bars p := by
  unfold plc
  rw [h]
  refine List.map_congr_left fun i _ => ?_
  unfold pbar
  rw [h]
theorem plc_snoc {F T : List Int} {x : TBar} (hx : bars[m]? = some x) : plc bars ⟨F, T, p.Placed ++ [(m : Int)]⟩ = plc bars p ++ [x] := by
  unfold plc
  simp only [List.length_append, List.length_singleton]
  rw [List.range_succ, List.map_append]
  congr 1
  · refine List.map_congr_left fun i hi => ?_
    rw [List.mem_range] at hi
    unfold pbar
    simp only
    rw [List.getElem?_append_left hi]
  · simp only [List.map_cons, List.map_nil]
    unfold pbar
    simp only
    rw [List.getElem?_append_right (Nat.le_refl _), Nat.sub_self]
    simp [hx]
theorem PB.tail_in (hg : GB P bars) (hp : PB P bars k m p) {i : Nat} {t : Int} (h : p.Tails[i]? = some t) : i < p.Placed.length ∧ 0 ≤ t ∧ t < P := by
  have hi := (List.getElem?_eq_some_iff.1 h).1
  have htl := hp.tl
  have := hp.pbar_ok hg (i := i) (by omega)
  rcases hp.ends h with rfl | rfl
  · exact ⟨by omega, by omega, by omega⟩
  · exact ⟨by omega, by omega, by omega⟩
def inP (P : Int) (X : Nat → Bool) (v : Nat) : Bool := X v && decide ((v : Int) < P)
def freeOf (p : TPebbles) (v : Nat) : Nat := ((p.Free[v]?).getD 0).toNat
theorem PB.sum (hg : GB P bars) (hp : PB P bars k m p) (X : Nat → Bool) : su (fun v => if inP P X v then freeOf p v else 0) 8 + p.Tails.countP (fun t => X t.toNat) = k.toNat * size (inP P X) := by
  have h8 := hg.p8
  rw [← tails_sum X p.Tails fun t ht => by
    obtain ⟨i, hi⟩ := List.getElem?_of_mem ht
    have := hp.tail_in hg hi
    omega]
  unfold size
  rw [← su_mul, ← su_add]
  refine su_congr 8 fun v hv => ?_
  show (if inP P X v then freeOf p v else 0) + (if X v then p.Tails.count (v : Int) else 0) = k.toNat * (if inP P X v then 1 else 0)
  unfold inP
  cases hx : X v with
  | false => simp
  | true =>
    by_cases hvP : (v : Int) < P
    · obtain ⟨f, hf, _, f0, fk⟩ := hp.free_in (v := (v : Int)) (by omega) hvP
      rw [Int.toNat_natCast] at hf
      have := hp.fr hf
      unfold freeOf
      rw [hf, decide_eq_true hvP]
      simp
      omega
    · have : p.Tails.count (v : Int) = 0 := by
        rw [List.count_eq_zero]
        intro hm
        obtain ⟨i, hi⟩ := List.getElem?_of_mem hm
        have := hp.tail_in hg hi
        omega
      rw [this, decide_eq_false hvP]
      simp
theorem size_inP (X : Nat → Bool) : size (inP P X) ≤ size X := su_le 8 fun v _ => by
  show (if inP P X v then 1 else 0) ≤ (if X v then 1 else 0)
  unfold inP
  cases X v <;> simp
  split <;> omega
theorem PB.span_tails (hg : GB P bars) (hp : PB P bars k m p) (X : Nat → Bool) : span (mult (plc bars p)) X ≤ p.Tails.countP fun t => X t.toNat := by
  rw [span_mult (hp.plc_ok hg)]
  refine countP_le2 _ _ (by rw [plc_len, hp.tl]) fun i x t hx ht h => ?_
  obtain ⟨h1, rfl⟩ := plc_get hx
  rw [Bool.and_eq_true] at h
  rcases hp.ends ht with rfl | rfl
  · exact h.1
  · exact h.2
theorem PB.tails_span (hg : GB P bars) (hp : PB P bars k m p) {X : Nat → Bool} (hc : ∀ (i : Nat) (t : Int), p.Tails[i]? = some t → X t.toNat = true → X (otherE (pbar bars p i) t).toNat = true) : p.Tails.countP (fun t => X t.toNat) ≤ span (mult (plc bars p)) X := by
  rw [span_mult (hp.plc_ok hg)]
  refine countP_le2 _ _ (by rw [plc_len, hp.tl]) fun i t x ht hx h => ?_
  obtain ⟨h1, rfl⟩ := plc_get hx
  have h2 := hc i t ht h
  have h3 := hp.pbar_ok hg h1
  rw [Bool.and_eq_true]
  unfold otherE at h2
  rcases hp.ends ht with rfl | rfl
  · simp only [beq_self_eq_true, cond_true] at h2
    exact ⟨h, h2⟩
  · have e : ((pbar bars p i).A == (pbar bars p i).B) = false := by simp; exact h3.2.2.1
    rw [e, cond_false] at h2
    exact ⟨h2, h⟩
theorem PB.span_le (hg : GB P bars) (hp : PB P bars k m p) {a b : Int} (a0 : 0 ≤ a) (a1 : a < P) (b0 : 0 ≤ b) (b1 : b < P) (hab : a ≠ b) {X : Nat → Bool} (xa : X a.toNat = true) (xb : X b.toNat = true) : span (mult (plc bars p)) X + (two p a b).toNat ≤ k.toNat * size X := by
  have h8 := hg.p8
  have h1 := hp.sum hg X
  have h2 := hp.span_tails hg X
  have h3 : k.toNat * size (inP P X) ≤ k.toNat * size X := Nat.mul_le_mul_left _ (size_inP X)
  have h4 := su_pair (fun v => if inP P X v then freeOf p v else 0) (a := a.toNat) (b := b.toNat) (n := 8) (by omega) (by omega) (by omega)
  have ia : inP P X a.toNat = true := by unfold inP; rw [xa]; simp; omega
  have ib : inP P X b.toNat = true := by unfold inP; rw [xb]; simp; omega
  simp only [ia, ib, if_true] at h4
  obtain ⟨fa, ha, _, fa0, _⟩ := hp.free_in a0 a1
  obtain ⟨fb, hb, _, fb0, _⟩ := hp.free_in b0 b1
  unfold freeOf at h1 h4
  unfold two
  rw [ha, hb] at h4 ⊢
  simp only [Option.getD_some] at h4 ⊢
  omega
theorem PB.blocked (hg : GB P bars) (hp : PB P bars k m p) {a b : Int} (hab : a ≠ b) {q q' : List Int} (hq : Reach P bars p a b q) (hq' : Reach P bars p b a q') : ∃ X : Nat → Bool, X a.toNat = true ∧ X b.toNat = true ∧ k.toNat * size X ≤ span (mult (plc bars p)) X + (two p a b).toNat := by
  have h8 := hg.p8
  obtain ⟨a0, a1⟩ := hq.rng a hq.fst
  obtain ⟨b0, b1⟩ := hq'.rng b hq'.fst
  have hX : ∀ v : Int, 0 ≤ v → (decide (((v.toNat : Nat) : Int) ∈ q ∨ ((v.toNat : Nat) : Int) ∈ q') = true ↔ (v ∈ q ∨ v ∈ q')) := fun v hv => by rw [decide_eq_true_eq, Int.toNat_of_nonneg hv]
  refine ⟨fun v => decide ((v : Int) ∈ q ∨ (v : Int) ∈ q'), (hX a a0).2 (.inl hq.fst), (hX b b0).2 (.inr hq'.fst), ?_⟩
  generalize hXd : (fun v : Nat => decide ((v : Int) ∈ q ∨ (v : Int) ∈ q')) = X
  have hXe : ∀ v : Nat, X v = true ↔ ((v : Int) ∈ q ∨ (v : Int) ∈ q') := fun v => by rw [← hXd]; exact decide_eq_true_iff
  have hin : ∀ v, inP P X v = X v := fun v => by
    unfold inP
    cases hx : X v with
    | false => rfl
    | true =>
      have : (v : Int) < P := by
        rcases (hXe v).1 hx with h | h
        · exact (hq.rng _ h).2
        · exact (hq'.rng _ h).2
      simp [this]
  have h1 := hp.sum hg X
  rw [show inP P X = X from funext hin] at h1
  have h2 := hp.tails_span hg (X := X) fun i t ht hx => by
    obtain ⟨hi, t0, t1⟩ := hp.tail_in hg ht
    have ho := (other_ok (hp.pbar_ok hg hi) (hp.ends ht)).1
    rw [hXe, Int.toNat_of_nonneg t0] at hx
    rw [hXe, Int.toNat_of_nonneg ho]
    rcases hx with h | h
    · exact .inl (hq.clo i t ht h)
    · exact .inr (hq'.clo i t ht h)
  have h3 := su_le (f := fun v => if X v then freeOf p v else 0) (g := fun v => (if v = a.toNat then freeOf p a.toNat else 0) + (if v = b.toNat then freeOf p b.toNat else 0)) 8 fun v _ => by
    show (if X v then freeOf p v else 0) ≤ (if v = a.toNat then freeOf p a.toNat else 0) + (if v = b.toNat then freeOf p b.toNat else 0)
    by_cases hva : v = a.toNat
    · subst hva
      rw [if_pos rfl]
      split <;> omega
    · by_cases hvb : v = b.toNat
      · subst hvb
        rw [if_pos rfl]
        split <;> omega
      · rw [if_neg hva, if_neg hvb]
        cases hx : X v with
        | false => simp
        | true =>
          have h0 : p.Free[v]? = some 0 := by
            rcases (hXe v).1 hx with h | h
            · have := hq.zero _ h (by omega) (by omega)
              rwa [Int.toNat_natCast] at this
            · have := hq'.zero _ h (by omega) (by omega)
              rwa [Int.toNat_natCast] at this
          unfold freeOf
          rw [h0]
          simp
  rw [su_add, su_at (freeOf p) (show a.toNat < 8 by omega), su_at (freeOf p) (show b.toNat < 8 by omega)] at h3
  obtain ⟨fa, ha, _, fa0, _⟩ := hp.free_in a0 a1
  obtain ⟨fb, hb, _, fb0, _⟩ := hp.free_in b0 b1
  unfold freeOf at h3 h1
  unfold two
  rw [ha, hb] at h3 ⊢
  simp only [Option.getD_some] at h3 ⊢
  omega
theorem place_info {l : Int} (hg : GB P bars) (hp : PB P bars k m p) (hml : m < bars.length) (hl : 0 ≤ l ∧ l ≤ 2 * k - 1) {x : TBar} (hx : bars[m]? = some x) :
    (∃ p' F T, PB P bars k m p' ∧ p'.Placed = p.Placed ∧ l + 1 ≤ two p' x.A x.B ∧ placeI bars l p m = ⟨F, T, p.Placed ++ [(m : Int)]⟩) ∨
      (placeI bars l p m = p ∧ ∃ p' q q', PB P bars k m p' ∧ p'.Placed = p.Placed ∧ two p' x.A x.B < l + 1 ∧ Reach P bars p' x.A x.B q ∧ Reach P bars p' x.B x.A q') := by
  have hlen := hg.len
  have k3 := hp.k3
  have k1 := hp.k1
  have hxi := idx_of (k := m) hx
  have hw : w64 (l + 1) = l + 1 := w64_small (by omega) (by omega)
  rcases gather_both hg hp (by omega) (g := ⟨P, bars⟩) rfl rfl (hg.a0 hx) (hg.ap hx) (hg.b0 hx) (hg.bp hx) (hg.ab hx) (want := l + 1) (by omega) with ⟨p', s1, i1, hp', hpl, htwo⟩ | ⟨p', s1, i1, hp', hpl, hlt, ⟨q, hq⟩, q', hq'⟩
  · obtain ⟨fa, hfa, hia, fa0, fak⟩ := hp'.free_in (hg.a0 hx) (hg.ap hx)
    obtain ⟨fb, hfb, hib, fb0, fbk⟩ := hp'.free_in (hg.b0 hx) (hg.bp hx)
    have htwo2 := htwo
    unfold two at htwo
    rw [hfa, hfb] at htwo
    simp only [Option.getD_some] at htwo
    have hpll := hp'.pl
    have htl := hp'.tl
    obtain ⟨t, f, hte, htf, hti, hpos, hfk, htail⟩ : ∃ t f, (t = x.A ∨ t = x.B) ∧ p'.Free[t.toNat]? = some f ∧ idx p'.Free t = some f ∧ 0 < f ∧ f ≤ k ∧ (bif fa == 0 then some x.B else some x.A : Option Int) = some t := by
      by_cases h0 : fa = 0
      · exact ⟨x.B, fb, .inr rfl, hfb, hib, by omega, fbk, by simp [h0]⟩
      · have : (fa == 0) = false := by simp [h0]
        exact ⟨x.A, fa, .inl rfl, hfa, hia, by omega, fak, by simp [this]⟩
    have hI : m_impl_place bars l p (m : Int) = some (true, ⟨p'.Free.set t.toNat (f - 1), p'.Tails ++ [t], p'.Placed ++ [(m : Int)]⟩) := by
      unfold m_impl_place
      simp only [hxi, hw, i1, hia, htail, hti, Option.bind_some, Bool.not_true, cond_false, lim_ok (show p'.Tails.length + ([t] : List Int).length ≤ 2147483648 by simp; omega), lim_ok (show p'.Placed.length + ([(m : Int)] : List Int).length ≤ 2147483648 by simp; omega), w64_small (n := f - 1) (show -4611686018427387904 ≤ f - 1 by omega) (by omega)]
    refine .inl ⟨p', p'.Free.set t.toNat (f - 1), p'.Tails ++ [t], hp', hpl, htwo2, ?_⟩
    unfold placeI
    rw [hI, ← hpl]
  · have hI : m_impl_place bars l p (m : Int) = some (false, p') := by
      unfold m_impl_place
      simp only [hxi, hw, i1, Option.bind_some, Bool.not_false, cond_true]
    refine .inr ⟨?_, p', q, q', hp', hpl, hlt, hq, hq'⟩
    unfold placeI
    rw [hI]
structure Game (bars : List TBar) (k l : Int) (m : Nat) (p : TPebbles) : Prop where
  sp : Sparse k.toNat l.toNat (mult (plc bars p))
  rej : ∃ R : List TBar, (∀ i, mult (bars.take m) i = mult (plc bars p) i + mult R i) ∧ ∀ x ∈ R, OkB x ∧ ∃ X, Sp.inn X (codeB x) = true ∧ k.toNat * size X ≤ span (mult (plc bars p)) X + l.toNat
theorem sparse_nil {a b : Nat} : Sparse a b (mult []) := ⟨fun X hX => by
  have : span (mult []) X = 0 := span_mult (L := []) (fun _ h => by cases h) X
  omega, fun i _ h => by simp [mult] at h⟩
theorem played_game {l : Int} (hg : GB P bars) (k1 : 1 ≤ k) (k3 : k ≤ 3) (hl : 0 ≤ l ∧ l ≤ 2 * k - 1) : ∀ n, n ≤ bars.length → Game bars k l n (played P bars k l n)
  | 0, _ => ⟨sparse_nil, [], fun i => by simp [played, iter, plc, mult], fun x h => by cases h⟩
  | n + 1, h => by
    have hG := played_game hg k1 k3 hl n (by omega)
    have hp := played_PB hg k1 k3 hl n (by omega)
    have hx := List.getElem?_eq_getElem (show n < bars.length by omega)
    generalize bars[n] = x at hx
    have hok := hg.ok hx
    have htk : bars.take (n + 1) = bars.take n ++ [x] := by rw [List.take_add_one, hx]; rfl
    show Game bars k l (n + 1) (placeI bars l (played P bars k l n) n)
    obtain ⟨R, hR1, hR2⟩ := hG.rej
    rcases place_info hg hp (by omega) hl hx with ⟨p', F, T, hp', hpl, htwo, he⟩ | ⟨he, p', q, q', hp', hpl, hlt, hq, hq'⟩
    · rw [he]
      have hplc : plc bars ⟨F, T, (played P bars k l n).Placed ++ [(n : Int)]⟩ = plc bars (played P bars k l n) ++ [x] := plc_snoc hx
      have hm : ∀ i, i < 64 → add1 (mult (plc bars (played P bars k l n))) (codeB x) i = mult (plc bars ⟨F, T, (played P bars k l n).Placed ++ [(n : Int)]⟩) i := fun i _ => by rw [hplc, mult_snoc]
      refine ⟨Sparse.congr ⟨fun X hX => ?_, fun i hi h0 => ?_⟩ hm, R, fun i => ?_, fun y hy => ?_⟩
      · rw [span_add1 _ hok.lt] at hX ⊢
        cases hin : Sp.inn X (codeB x) with
        | false =>
          rw [hin] at hX
          simp only [Bool.false_eq_true, if_false, Nat.add_zero] at hX ⊢
          exact hG.sp.sp X hX
        | true =>
          rw [hok.inn, Bool.and_eq_true] at hin
          have := hp'.span_le hg (hg.a0 hx) (hg.ap hx) (hg.b0 hx) (hg.bp hx) (hg.ab hx) (X := X) hin.1 hin.2
          rw [plc_congr hpl] at this
          simp only [if_true]
          omega
      · unfold add1 at h0
        by_cases hie : i = codeB x
        · rw [hie]; exact hok.ne
        · rw [if_neg hie] at h0
          exact hG.sp.ll i hi h0
      · rw [htk, mult_append, hplc, mult_append, hR1]
        omega
      · obtain ⟨h1, X, h2, h3⟩ := hR2 y hy
        refine ⟨h1, X, h2, ?_⟩
        rw [hplc]
        have := span_mono (I := mult (plc bars (played P bars k l n))) (J := mult (plc bars (played P bars k l n) ++ [x])) (fun i _ => by rw [mult_append]; omega) X
        omega
    · rw [he]
      refine ⟨hG.sp, R ++ [x], fun i => ?_, fun y hy => ?_⟩
      · rw [htk, mult_append, mult_append, hR1]
        omega
      · rcases List.mem_append.1 hy with hy | hy
        · exact hR2 y hy
        · rw [List.mem_singleton] at hy
          subst hy
          obtain ⟨X, xa, xb, hX⟩ := hp'.blocked hg hok.ab hq hq'
          refine ⟨hok, X, by rw [hok.inn, xa, xb]; rfl, ?_⟩
          rw [plc_congr hpl] at hX
          omega
theorem played_rank {l : Int} (hg : GB P bars) (k1 : 1 ≤ k) (k3 : k ≤ 3) (hl : 0 ≤ l ∧ l ≤ 2 * k - 1) : IsRank k.toNat l.toNat (mult bars) (played P bars k l bars.length).Placed.length := by
  have hG := played_game hg k1 k3 hl bars.length (Nat.le_refl _)
  have hp := played_PB hg k1 k3 hl bars.length (Nat.le_refl _)
  obtain ⟨R, hR1, hR2⟩ := hG.rej
  rw [List.take_length] at hR1
  have := IsRank.of_max (M := mult bars) (by omega) hG.sp (fun i _ => by rw [hR1]; omega) fun e he hlt => by
    rw [hR1] at hlt
    obtain ⟨x, hx, rfl⟩ := mult_pos (L := R) (i := e) (by omega)
    obtain ⟨h1, X, h2, h3⟩ := hR2 x hx
    exact tight_no he h2 h3
  rw [card_mult (hp.plc_ok hg), plc_len] at this
  exact this
end
end Go.Proofs.Yteognanhfpbghaa
end
section
set_option linter.unusedVariables false
set_option linter.unusedSimpArgs false
set_option linter.unnecessarySimpa false
open Go Go.Fw Go.Sp
namespace Go.Proofs.Yteognanhfpbghaa
def insB (x : TBar) : List TBar → List TBar
  | [] => [x]
  | y :: L => bif barGt y x then x :: y :: L else y :: insB x L
theorem insB_perm (x : TBar) : ∀ L, (insB x L).Perm (x :: L)
  | [] => List.Perm.refl _
  | y :: L => by
    unfold insB
    cases barGt y x with
    | true => exact List.Perm.refl _
    | false => exact ((insB_perm x L).cons y).trans (List.Perm.swap ..)
theorem insB_len (x : TBar) (L : List TBar) : (insB x L).length = L.length + 1 := (insB_perm x L).length_eq
theorem insB_split (x : TBar) : ∀ L : List TBar, (∃ j, j < L.length ∧ insB x L = L.take j ++ x :: L.drop j ∧ (∀ (i : Nat) (y : TBar), i < j → L[i]? = some y → barGt y x = false) ∧ ∀ y : TBar, L[j]? = some y → barGt y x = true) ∨ (insB x L = L ++ [x] ∧ ∀ (i : Nat) (y : TBar), L[i]? = some y → barGt y x = false)
  | [] => .inr ⟨rfl, fun i y h => by simp at h⟩
  | y :: L => by
    unfold insB
    cases hy : barGt y x with
    | true => exact .inl ⟨0, by simp, by simp, (fun i z h => by omega), fun z hz => by simp at hz; subst hz; exact hy⟩
    | false =>
      rcases insB_split x L with ⟨j, h1, h2, h3, h4⟩ | ⟨h1, h2⟩
      · refine .inl ⟨j + 1, by simpa using h1, by simp [h2], fun i z hi hz => ?_, fun z hz => h4 z (by simpa using hz)⟩
        cases i with
        | zero => simp at hz; subst hz; exact hy
        | succ i => exact h3 i z (by omega) (by simpa using hz)
      · refine .inr ⟨by simp [h1], fun i z hz => ?_⟩
        cases i with
        | zero => simp at hz; subst hz; exact hy
        | succ i => exact h2 i z (by simpa using hz)
theorem l2Put_eq (g : TGraph) (x : TBar) (h : g.Bars.length ≤ 1048576) : m_spec_l2Put g x = some ⟨g.Points, insB x g.Bars⟩ := by
  have hb : ∀ (k : Nat) (pl : Bool) (out : List TBar), k < g.Bars.length → out.length ≤ k + 1 → ∀ y, g.Bars[k]? = some y → m_spec_l2Put_L1 g x (pl, (k : Int), out) = some (.inl (bif !pl && barGt y x then (true, ((k + 1 : Nat) : Int), out ++ [x] ++ [y]) else (pl, ((k + 1 : Nat) : Int), out ++ [y]))) := fun k pl out hk ho y hy => by
    unfold m_spec_l2Put_L1
    simp only
    rw [decide_eq_true (show (k : Int) < (g.Bars.length : Int) by omega), cond_true]
    simp only [idx_of hy, l2After_eq, Option.bind_some, w64_succ (show k ≤ 1099511627776 by omega), Bool.not_not]
    rw [lim_ok (show out.length + [x].length ≤ 2147483648 by simp; omega)]
    cases pl with
    | true =>
      simp only [Bool.not_true, cond_false, Option.bind_some, Bool.false_and]
      rw [lim_ok (by simp; omega)]
      rfl
    | false =>
      cases barGt y x with
      | true =>
        simp only [Bool.not_false, cond_true, Option.bind_some, Bool.true_and]
        rw [lim_ok (by simp; omega)]
        rfl
      | false =>
        simp only [Bool.not_false, cond_true, Option.bind_some, Bool.and_false, cond_false]
        rw [lim_ok (by simp; omega)]
        rfl
  have he : ∀ (pl : Bool) (out : List TBar), m_spec_l2Put_L1 g x (pl, (g.Bars.length : Int), out) = some (.inr (pl, out)) := fun pl out => by
    unfold m_spec_l2Put_L1
    rw [decide_eq_false (by simp only; omega)]
    rfl
  unfold m_spec_l2Put
  rcases insB_split x g.Bars with ⟨j, h1, h2, h3, h4⟩ | ⟨h1, h2⟩
  · have hL : loopM (m_spec_l2Put_L1 g x) BIG (false, 0, []) = some (true, g.Bars.take j ++ x :: g.Bars.drop j) := by
      refine loopM_run (fun k => (decide (j < k), (k : Int), if j < k then g.Bars.take j ++ x :: (g.Bars.drop j).take (k - j) else g.Bars.take k)) g.Bars.length (by omega) (by simp) (fun k hk => ?_) ?_
      · have hy := List.getElem?_eq_getElem hk
        have htk : ∀ m, k = j + m → (g.Bars.drop j).take (m + 1) = (g.Bars.drop j).take m ++ [g.Bars[k]] := fun m hm => by
          subst hm
          rw [List.take_add_one, List.getElem?_drop, hy]
          rfl
        by_cases hjk : j < k
        · rw [decide_eq_true hjk, if_pos hjk, hb k true _ hk (by simp; omega) _ hy]
          simp only [Bool.not_true, Bool.false_and, cond_false]
          rw [decide_eq_true (show j < k + 1 by omega), if_pos (show j < k + 1 by omega), show k + 1 - j = (k - j) + 1 by omega, htk (k - j) (by omega)]
          simp
        · rw [decide_eq_false hjk, if_neg hjk, hb k false _ hk (by simp; omega) _ hy]
          by_cases hkj : k = j
          · subst hkj
            rw [h4 _ hy]
            simp only [Bool.not_false, Bool.true_and, cond_true]
            rw [decide_eq_true (show k < k + 1 by omega), if_pos (show k < k + 1 by omega), Nat.add_sub_cancel_left, htk 0 (by omega)]
            simp
          · rw [h3 k _ (by omega) hy]
            simp only [Bool.not_false, Bool.and_false, cond_false]
            rw [decide_eq_false (show ¬ j < k + 1 by omega), if_neg (show ¬ j < k + 1 by omega), take_get hk]
      · rw [decide_eq_true h1, if_pos h1, he, List.take_of_length_le (l := g.Bars.drop j) (by simp)]
    rw [hL, h2]
    rfl
  · have hL : loopM (m_spec_l2Put_L1 g x) BIG (false, 0, []) = some (false, g.Bars) := by
      refine loopM_run (fun k => (false, (k : Int), g.Bars.take k)) g.Bars.length (by omega) (by simp) (fun k hk => ?_) (by rw [he, List.take_length])
      have hy := List.getElem?_eq_getElem hk
      rw [hb k false _ hk (by simp; omega) _ hy, h2 k _ hy, take_get hk]
      rfl
    rw [hL, h1]
    simp only [Option.bind_some, Bool.not_false, cond_true]
    rw [lim_ok (by simp; omega)]
    rfl
def pr (P : Int) (L : List TBar) : Nat := (played P L 2 3 L.length).Placed.length
theorem pr_rank {P : Int} {L : List TBar} (hg : GB P L) : IsRank 2 3 (mult L) (pr P L) := played_rank hg (k := 2) (l := 3) (by omega) (by omega) (by omega)
theorem pr_le {P : Int} {L : List TBar} (hg : GB P L) : pr P L ≤ L.length := (played_PB hg (k := 2) (l := 3) (by omega) (by omega) (by omega) L.length (Nat.le_refl _)).pl
theorem GB.congr {P : Int} {L L' : List TBar} (h : GB P L) (h2 : ∀ x ∈ L', x ∈ L) (hl : L'.length ≤ 1000) : GB P L' := by
  have hm : ∀ {k : Nat} {x : TBar}, L'[k]? = some x → ∃ j, L[j]? = some x := fun hk => List.getElem?_of_mem (h2 _ (List.mem_of_getElem? hk))
  exact ⟨h.p1, h.p8, hl, fun hk => (hm hk).elim fun _ hj => h.a0 hj, fun hk => (hm hk).elim fun _ hj => h.ab hj, fun hk => (hm hk).elim fun _ hj => h.b0 hj, fun hk => (hm hk).elim fun _ hj => h.ap hj, fun hk => (hm hk).elim fun _ hj => h.bp hj⟩
structure InB (P : Int) (x : TBar) : Prop where
  a0 : 0 ≤ x.A
  ab : x.A ≠ x.B
  b0 : 0 ≤ x.B
  ap : x.A < P
  bp : x.B < P
theorem GB.of {P : Int} {L : List TBar} (p1 : 1 ≤ P) (p8 : P ≤ 8) (hl : L.length ≤ 1000) (h : ∀ x ∈ L, InB P x) : GB P L :=
  ⟨p1, p8, hl, fun hk => (h _ (List.mem_of_getElem? hk)).a0, fun hk => (h _ (List.mem_of_getElem? hk)).ab, fun hk => (h _ (List.mem_of_getElem? hk)).b0, fun hk => (h _ (List.mem_of_getElem? hk)).ap, fun hk => (h _ (List.mem_of_getElem? hk)).bp⟩
theorem GB.inb {P : Int} {L : List TBar} (h : GB P L) : ∀ x ∈ L, InB P x := fun x hx => by
  obtain ⟨j, hj⟩ := List.getElem?_of_mem hx
  exact ⟨h.a0 hj, h.ab hj, h.b0 hj, h.ap hj, h.bp hj⟩
def nrm (a b : Int) : TBar := ⟨if b < a then b else a, if a < b then b else a⟩
theorem GB.ins {P : Int} {L : List TBar} (h : GB P L) {x : TBar} (hx : InB P x) (hl : L.length ≤ 999) : GB P (insB x L) := GB.of h.p1 h.p8 (by rw [insB_len]; omega) fun y hy => by
  rcases List.mem_cons.1 ((insB_perm x L).mem_iff.1 hy) with h1 | h1
  · subst h1; exact hx
  · exact h.inb y h1
end Go.Proofs.Yteognanhfpbghaa
end
section
set_option linter.unusedVariables false
set_option linter.unusedSimpArgs false
set_option linter.unnecessarySimpa false
open Go Go.Fw Go.Sp
namespace Go.Proofs.Yteognanhfpbghaa
def leS (S T : List Bool) : Prop := ∀ i : Nat, S[i]? = some true → T[i]? = some true
theorem leS_set {S : List Bool} {j : Nat} (hj : j < S.length) : leS S (S.set j true) := fun i h => by
  rw [List.getElem?_set]
  by_cases hi : j = i
  · rw [if_pos hi, if_pos (hi ▸ hj)]
  · rw [if_neg hi]; exact h
theorem leS_spread {g : TGraph} (hV : VG g) (k : Nat) {S : List Bool} (hS : (S.length : Int) = g.Points) : leS S (spreadB g k S) := by
  unfold spreadB
  cases hx : g.Bars[k]? with
  | none => exact fun i h => h
  | some x =>
    have a0 := hV.a0 hx
    have ab := hV.ab hx
    have bp := hV.bp hx
    simp only
    cases h : (S[x.A.toNat]?).getD false || (S[x.B.toNat]?).getD false with
    | false => exact fun i h => h
    | true => exact fun i hi => leS_set (j := x.B.toNat) (by rw [List.length_set]; omega) i (leS_set (j := x.A.toNat) (by omega) i hi)
theorem leS_iter {g : TGraph} (hV : VG g) {S : List Bool} (hS : (S.length : Int) = g.Points) (a : Nat) : ∀ d, leS (iter (spreadB g) a S) (iter (spreadB g) (a + d) S)
  | 0 => fun i h => h
  | d + 1 => fun i h => leS_spread hV (a + d) (by rw [iter_len]; exact hS) i (leS_iter hV hS a d i h)
theorem leS_anti {S T : List Bool} (hl : S.length = T.length) (h1 : leS S T) (h2 : leS T S) : S = T := by
  apply List.ext_getElem?
  intro i
  cases hs : S[i]? with
  | none =>
    rw [List.getElem?_eq_none_iff] at hs
    exact (List.getElem?_eq_none_iff.2 (by omega)).symm
  | some b =>
    have hi := (List.getElem?_eq_some_iff.1 hs).1
    have ht : T[i]? = some (T[i]'(by omega)) := List.getElem?_eq_getElem (by omega)
    cases b with
    | true => exact (h1 i hs).symm
    | false =>
      cases hb : T[i]'(by omega) with
      | false => rw [ht, hb]
      | true => rw [hb] at ht; rw [h2 i ht] at hs; cases hs
theorem fix_bar {g : TGraph} (hV : VG g) {T : List Bool} (hT : (T.length : Int) = g.Points) (h : pass g T = T) {x : TBar} (hx : x ∈ g.Bars) : T[x.A.toNat]? = T[x.B.toNat]? := by
  obtain ⟨k, hk, rfl⟩ := List.getElem_of_mem hx
  have hx' := List.getElem?_eq_getElem hk
  generalize g.Bars[k] = x at hx' ⊢
  have a0 := hV.a0 hx'
  have ab := hV.ab hx'
  have bp := hV.bp hx'
  have e : ∀ j, j ≤ g.Bars.length → iter (spreadB g) j T = T := fun j hj => by
    refine (leS_anti (iter_len g T j).symm ?_ ?_).symm
    · have := leS_iter hV hT 0 j
      rw [Nat.zero_add] at this
      exact this
    · have := leS_iter hV hT j (g.Bars.length - j)
      rw [show j + (g.Bars.length - j) = g.Bars.length by omega] at this
      unfold pass at h
      rw [h] at this
      exact this
  have e2 : spreadB g k T = T := by
    have h1 := e (k + 1) (by omega)
    have h2 := e k (by omega)
    have : iter (spreadB g) (k + 1) T = spreadB g k (iter (spreadB g) k T) := rfl
    rw [this, h2] at h1
    exact h1
  unfold spreadB at e2
  rw [hx'] at e2
  obtain ⟨p, hp, _⟩ := seen_get hT a0 (show x.A < g.Points by omega)
  obtain ⟨q, hq, _⟩ := seen_get hT (show 0 ≤ x.B by omega) bp
  cases hc : (T[x.A.toNat]?).getD false || (T[x.B.toNat]?).getD false with
  | false =>
    rw [hp, hq] at hc
    rw [hp, hq]
    cases p <;> cases q <;> first | rfl | cases hc
  | true =>
    simp only [hc, cond_true] at e2
    rw [← e2, List.getElem?_set, List.getElem?_set, if_neg (by omega), List.getElem?_set, if_pos rfl, if_pos (by omega), if_pos rfl, if_pos (by rw [List.length_set]; omega)]
theorem reached_fix {g : TGraph} (hV : VG g) {v : Nat} (hv : (v : Int) < g.Points) : pass g (reached g v) = reached g v := by
  have h0 := start0_len hV v
  have hp := hV.p1
  have key : ∀ n, pass g (passes g n (start0 g v)) = passes g n (start0 g v) ∨ n + 1 ≤ (passes g n (start0 g v)).count true := by
    intro n
    induction n with
    | zero =>
      refine .inr (List.count_pos_iff.2 (List.mem_of_getElem? (i := v) ?_))
      show (start0 g v)[v]? = some true
      unfold start0
      rw [List.getElem?_set, if_pos rfl, if_pos (by simp; omega)]
    | succ n ih =>
      have hs : passes g (n + 1) (start0 g v) = pass g (passes g n (start0 g v)) := rfl
      rcases ih with ih | ih
      · rw [hs, ih]; exact .inl ih
      · obtain ⟨again, _, h1, h2⟩ := passI hV (S := passes g n (start0 g v)) (by rw [passes_len]; exact h0)
        cases again with
        | false => rw [hs, h1 rfl]; exact .inl (h1 rfl)
        | true => rw [hs]; have := h2 rfl; exact .inr (by omega)
  rcases key g.Points.toNat with h | h
  · exact h
  · have h1 : (passes g g.Points.toNat (start0 g v)).count true ≤ (passes g g.Points.toNat (start0 g v)).length := List.count_le_length
    rw [passes_len] at h1
    omega
theorem leS_passes {g : TGraph} (hV : VG g) {S : List Bool} (hS : (S.length : Int) = g.Points) : ∀ n, leS S (passes g n S)
  | 0 => fun i h => h
  | n + 1 => fun i h => by
    have := leS_iter hV (S := passes g n S) (by rw [passes_len]; exact hS) 0 g.Bars.length i (leS_passes hV hS n i h)
    rw [Nat.zero_add] at this
    exact this
theorem reached_self {g : TGraph} (hV : VG g) {v : Nat} (hv : (v : Int) < g.Points) : (reached g v)[v]? = some true := by
  have h0 := start0_len hV v
  refine leS_passes hV h0 _ v ?_
  unfold start0
  rw [List.getElem?_set, if_pos rfl, if_pos (by simp; omega)]
theorem listed_all {T : List Bool} : ∀ n, (∀ w, w < n → (T[w]?).getD false = true) → (pieces (fun k => bif (T[k]?).getD false then [(k : Int)] else []) n).length = n
  | 0, _ => rfl
  | n + 1, h => by
    show (pieces _ n ++ (bif (T[n]?).getD false then [(n : Int)] else [])).length = _
    rw [h n (by omega), List.length_append, listed_all n fun w hw => h w (by omega)]
    rfl
theorem not_conn {g : TGraph} (hv : vG g = true) (h : conn g = false) : ∃ w : Nat, (w : Int) < g.Points ∧ (reached g 0)[w]? = some false := by
  have hV := vG_VG hv
  have hl := reached_len hV 0
  apply Classical.byContradiction
  intro hn
  have hall : ∀ w, w < (reached g 0).length → ((reached g 0)[w]?).getD false = true := fun w hw => by
    have hw' := List.getElem?_eq_getElem hw
    cases hb : (reached g 0)[w] with
    | true => rw [hw', hb]; rfl
    | false => rw [hb] at hw'; exact (hn ⟨w, by omega, hw'⟩).elim
  unfold conn listed at h
  rw [hv, listed_all _ hall, Bool.true_and] at h
  rw [hl] at h
  simp at h
theorem names_step (S : List Int) (v : Nat) : (names S (v + 1)).2 = (names S v).2 + (bif hasI S v then 0 else 1) := by
  show (nameStep S v (names S v)).2 = _
  unfold nameStep
  cases hasI S v <;> rfl
theorem names_get (S : List Int) : ∀ n v : Nat, v < n → (names S n).1[v]? = some (bif hasI S v then -1 else ((names S v).2 : Int))
  | 0, _, h => by omega
  | n + 1, v, h => by
    have e : names S (n + 1) = nameStep S n (names S n) := rfl
    have hl := (names_len S n).1
    rw [e]
    unfold nameStep
    by_cases hv : v = n
    · subst hv
      cases hasI S v
      · simp only [cond_false]; rw [List.getElem?_append_right (by omega), hl, Nat.sub_self]; rfl
      · simp only [cond_true]; rw [List.getElem?_append_right (by omega), hl, Nat.sub_self]; rfl
    · have ih := names_get S n v (by omega)
      cases hasI S n
      · simp only [cond_false]; rw [List.getElem?_append_left (by omega)]; exact ih
      · simp only [cond_true]; rw [List.getElem?_append_left (by omega)]; exact ih
theorem names_mono (S : List Int) (a : Nat) : ∀ d, (names S a).2 ≤ (names S (a + d)).2
  | 0 => Nat.le_refl _
  | d + 1 => by
    have := names_mono S a d
    have h := names_step S (a + d)
    show _ ≤ (names S (a + d + 1)).2
    omega
theorem names_lt {S : List Int} {a b : Nat} (h : a < b) (ha : hasI S a = false) : (names S a).2 < (names S b).2 := by
  have h1 := names_mono S (a + 1) (b - (a + 1))
  rw [show a + 1 + (b - (a + 1)) = b by omega, names_step, ha] at h1
  simp only [cond_false] at h1
  omega
theorem names_le {S : List Int} {a b : Nat} (h : a ≤ b) : (names S a).2 ≤ (names S b).2 := by
  have h1 := names_mono S a (b - a)
  rw [show a + (b - a) = b by omega] at h1
  exact h1
theorem names_surj (S : List Int) : ∀ n w : Nat, w < (names S n).2 → ∃ v, v < n ∧ hasI S (v : Int) = false ∧ (names S v).2 = w
  | 0, w, h => absurd h (Nat.not_lt_zero w)
  | n + 1, w, h => by
    by_cases hw : w < (names S n).2
    · obtain ⟨v, h1, h2, h3⟩ := names_surj S n w hw
      exact ⟨v, by omega, h2, h3⟩
    · rw [names_step] at h
      cases hc : hasI S (n : Int) with
      | true => rw [hc] at h; simp only [cond_true] at h; omega
      | false => rw [hc] at h; simp only [cond_false] at h; exact ⟨n, by omega, hc, by omega⟩
theorem names_size (S : List Int) (P : Nat) : ∀ n, su (fun v => if decide (v < P) && !hasI S (v : Int) then 1 else 0) n = (names S (min n P)).2
  | 0 => by rw [Nat.zero_min]; rfl
  | n + 1 => by
    have ih := names_size S P n
    show su _ n + (if decide (n < P) && !hasI S (n : Int) then 1 else 0) = _
    rw [ih]
    by_cases h : n < P
    · rw [show min n P = n by omega, show min (n + 1) P = n + 1 by omega, names_step, decide_eq_true h]
      cases hasI S (n : Int) <;> rfl
    · rw [show min n P = P by omega, show min (n + 1) P = P by omega, decide_eq_false h]
      rfl
theorem barGt_iff (x y : TBar) : barGt x y = false ↔ x.A < y.A ∨ (x.A = y.A ∧ x.B ≤ y.B) := by
  unfold barGt
  simp only [Bool.or_eq_false_iff, Bool.and_eq_false_iff, decide_eq_false_iff_not, beq_eq_false_iff_ne]
  omega
theorem VG.pair {g : TGraph} (h : VG g) : g.Bars.Pairwise fun x y => barGt x y = false := by
  rw [List.pairwise_iff_getElem]
  intro i j hi hj hij
  obtain ⟨d, rfl⟩ : ∃ d, j = i + 1 + d := ⟨j - (i + 1), by omega⟩
  clear hij
  induction d with
  | zero => exact h.srt (List.getElem?_eq_getElem hi) (List.getElem?_eq_getElem hj)
  | succ d ih =>
    have h1 := (barGt_iff _ _).1 (ih (by omega))
    have h2 := (barGt_iff _ _).1 (h.srt (k := i + 1 + d) (List.getElem?_eq_getElem (by omega)) (List.getElem?_eq_getElem hj))
    exact (barGt_iff _ _).2 (by omega)
theorem vG_mk {g : TGraph} (p1 : 1 ≤ g.Points) (p8 : g.Points ≤ 8) (hl : g.Bars.length ≤ 24) (hb : ∀ x ∈ g.Bars, 0 ≤ x.A ∧ x.A < x.B ∧ x.B < g.Points) (hs : g.Bars.Pairwise fun x y => barGt x y = false) : vG g = true := by
  unfold vG
  rw [decide_eq_true p1, decide_eq_true p8, decide_eq_false (by omega)]
  have : (List.range' 0 g.Bars.length).any (badBar g) = false := any_range_false.2 fun k _ hk => by
    have hk : k < g.Bars.length := by omega
    have hx := List.getElem?_eq_getElem hk
    obtain ⟨h1, h2, h3⟩ := hb _ (List.getElem_mem hk)
    unfold badBar
    rw [hx]
    simp only
    rw [decide_eq_false (by omega), decide_eq_false (by omega), decide_eq_false (by omega)]
    by_cases hk0 : 0 < k
    · have hy : g.Bars[k - 1]? = some (g.Bars[k - 1]'(by omega)) := List.getElem?_eq_getElem (by omega)
      have := List.pairwise_iff_getElem.1 hs (k - 1) k (by omega) hk (by omega)
      rw [decide_eq_true hk0, hy]
      simp only [this]
      rfl
    · rw [decide_eq_false hk0]; rfl
  rw [this]
  rfl
theorem pieces_flat {α β : Type} (f : α → List β) (L : List α) : ∀ n, n ≤ L.length → pieces (fun k => match L[k]? with | some x => f x | none => []) n = (L.take n).flatMap f
  | 0, _ => by simp [pieces]
  | n + 1, h => by
    have hx := List.getElem?_eq_getElem (show n < L.length by omega)
    show pieces _ n ++ _ = _
    rw [pieces_flat f L n (by omega), List.take_add_one, List.flatMap_append, hx]
    simp [hx]
theorem barsN_flat (g : TGraph) (l : List Int) : barsN g l = g.Bars.flatMap (barN l) := by
  have := pieces_flat (barN l) g.Bars _ (Nat.le_refl _)
  rw [List.take_length] at this
  unfold barsN
  rw [← this]
  exact pieces_congr _ fun k hk => by simp only [List.getElem?_eq_getElem hk]
theorem barN_mem {l : List Int} {x y : TBar} (h : y ∈ barN l x) : 0 ≤ nm l x.A ∧ 0 ≤ nm l x.B ∧ y = ⟨nm l x.A, nm l x.B⟩ := by
  unfold barN at h
  cases hc : decide (0 ≤ nm l x.A) && decide (0 ≤ nm l x.B) with
  | false => rw [hc] at h; cases h
  | true =>
    rw [hc] at h
    simp only [Bool.and_eq_true, decide_eq_true_eq] at hc
    exact ⟨hc.1, hc.2, by simpa using h⟩
theorem cnt8_nat {g : TGraph} (h : VG g) : cnt8 g.Points = g.Points.toNat := by have := cnt8_VG h; omega
theorem nm_get {S : List Int} {n : Nat} {v : Int} (h0 : 0 ≤ v) (h1 : v.toNat < n) : nm (names S n).1 v = bif hasI S (v.toNat : Int) then -1 else ((names S v.toNat).2 : Int) := by
  unfold nm
  rw [names_get S n v.toNat h1]
  rfl
theorem nm_kept {S : List Int} {n : Nat} {v : Int} (h0 : 0 ≤ v) (h1 : v.toNat < n) (h : 0 ≤ nm (names S n).1 v) : hasI S (v.toNat : Int) = false ∧ nm (names S n).1 v = ((names S v.toNat).2 : Int) := by
  rw [nm_get h0 h1] at h ⊢
  cases hc : hasI S (v.toNat : Int) with
  | true => rw [hc] at h; simp at h
  | false => exact ⟨rfl, rfl⟩
theorem wo_vG {g : TGraph} (hv : vG g = true) (S : List Int) (h1 : 1 ≤ (wo g S).Points) : vG (wo g S) = true := by
  have hV := vG_VG hv
  have p1 := hV.p1
  have p8 := hV.p8
  have hn := names_len S (cnt8 g.Points)
  have hc := cnt8_nat hV
  have hw : (wo g S).Points = ((names S g.Points.toNat).2 : Int) := by unfold wo; rw [hc]
  have hb : (wo g S).Bars = g.Bars.flatMap (barN (names S g.Points.toNat).1) := by unfold wo; rw [hv, hc]; exact barsN_flat _ _
  have hin : ∀ x ∈ g.Bars, 0 ≤ x.A ∧ x.A < x.B ∧ x.B < g.Points := fun x hx => by
    obtain ⟨k, hk, rfl⟩ := List.getElem_of_mem hx
    have := List.getElem?_eq_getElem hk
    exact ⟨hV.a0 this, hV.ab this, hV.bp this⟩
  refine vG_mk h1 (by rw [hw, ← hc]; omega) ?_ ?_ ?_
  · have := barsN_len g (names S g.Points.toNat).1
    have := hV.len
    rw [hb, ← barsN_flat]
    omega
  · intro y hy
    rw [hb] at hy
    obtain ⟨x, hx, hy⟩ := List.mem_flatMap.1 hy
    obtain ⟨i1, i2, i3⟩ := hin x hx
    obtain ⟨b1, b2, rfl⟩ := barN_mem hy
    obtain ⟨k1, e1⟩ := nm_kept i1 (show x.A.toNat < g.Points.toNat by omega) b1
    obtain ⟨k2, e2⟩ := nm_kept (show 0 ≤ x.B by omega) (show x.B.toNat < g.Points.toNat by omega) b2
    have l1 := names_lt (show x.A.toNat < x.B.toNat by omega) k1
    have l2 := names_lt (show x.B.toNat < g.Points.toNat by omega) k2
    rw [hw]
    simp only [e1, e2]
    omega
  · rw [hb, List.pairwise_flatMap]
    refine ⟨fun x hx => ?_, hV.pair.imp_of_mem fun {x y} hx hy hxy => ?_⟩
    · have := barN_len (names S g.Points.toNat).1 x
      generalize barN (names S g.Points.toNat).1 x = l at this
      match l, this with
      | [], _ => exact .nil
      | [a], _ => exact List.pairwise_singleton _ _
    · intro p hp q hq
      obtain ⟨i1, i2, i3⟩ := hin x hx
      obtain ⟨j1, j2, j3⟩ := hin y hy
      obtain ⟨b1, b2, rfl⟩ := barN_mem hp
      obtain ⟨c1, c2, rfl⟩ := barN_mem hq
      obtain ⟨_, e1⟩ := nm_kept i1 (show x.A.toNat < g.Points.toNat by omega) b1
      obtain ⟨_, e2⟩ := nm_kept (show 0 ≤ x.B by omega) (show x.B.toNat < g.Points.toNat by omega) b2
      obtain ⟨k3, e3⟩ := nm_kept j1 (show y.A.toNat < g.Points.toNat by omega) c1
      obtain ⟨_, e4⟩ := nm_kept (show 0 ≤ y.B by omega) (show y.B.toNat < g.Points.toNat by omega) c2
      obtain ⟨k1, _⟩ := nm_kept i1 (show x.A.toNat < g.Points.toNat by omega) b1
      rw [barGt_iff] at hxy ⊢
      simp only [e1, e2, e3, e4]
      rcases hxy with h | ⟨h, h'⟩
      · have := names_lt (show x.A.toNat < y.A.toNat by omega) k1
        omega
      · have := names_le (S := S) (show x.B.toNat ≤ y.B.toNat by omega)
        rw [h]
        omega
theorem sep_rank {P : Int} {L : List TBar} (hg : GB P L) {X1 X2 : Nat → Bool} (h : ∀ x ∈ L, (X1 x.A.toNat && X1 x.B.toNat) = true ∨ (X2 x.A.toNat && X2 x.B.toNat) = true)
    (s1 : size X1 + 1 ≤ P.toNat) (s2 : size X2 + 1 ≤ P.toNat) (s : size X1 + size X2 ≤ P.toNat + 1) (hP : 2 ≤ P.toNat) : pr P L + 4 ≤ 2 * P.toNat := by
  obtain ⟨I, h3, h4, h5⟩ := (pr_rank hg).ex
  have hc : card I ≤ span I X1 + span I X2 := by
    unfold card span
    rw [← su_add]
    refine su_le 64 fun i hi => ?_
    by_cases h0 : I i = 0
    · rw [h0]; exact Nat.zero_le _
    · have := h3 i hi
      obtain ⟨x, hx, rfl⟩ := mult_pos (L := L) (i := i) (by omega)
      have ho := hg.okm x hx
      rw [ho.inn, ho.inn]
      rcases h x hx with h | h
      · rw [h]; simp
      · rw [h]; simp
  have a1 := h4.sp X1
  have a2 := h4.sp X2
  omega
theorem su_below (P : Nat) : ∀ n, su (fun v => if decide (v < P) then 1 else 0) n = min n P
  | 0 => by rw [Nat.zero_min]; rfl
  | n + 1 => by
    show su _ n + (if decide (n < P) then 1 else 0) = _
    rw [su_below P n]
    by_cases h : n < P
    · rw [decide_eq_true h]; simp only [if_true]; omega
    · rw [decide_eq_false h]; simp only [Bool.false_eq_true, if_false]; omega
theorem size_below {P : Nat} (h : P ≤ 8) : size (fun v => decide (v < P)) = P := by
  unfold size
  rw [su_below]
  omega
theorem size_miss {P : Nat} (h : P ≤ 8) {X : Nat → Bool} (hX : ∀ v, X v = true → v < P) {v0 : Nat} (h0 : v0 < P) (hv : X v0 = false) : size X + 1 ≤ P := by
  have : size X < size (fun v => decide (v < P)) := su_lt (j := v0) 8 (fun v _ => by
    cases hx : X v with
    | false => simp
    | true => simp only [decide_eq_true (hX v hx)]; exact Nat.le_refl _) (by omega) (by simp only [hv, decide_eq_true h0]; decide)
  rw [size_below h] at this
  exact this
theorem three_ifs (p h t : Bool) : ((if (p && (h || t)) = true then 1 else 0) + (if (p && (h || !t)) = true then 1 else 0) + (if (p && !h) = true then 1 else 0) : Nat) = (if p = true then 1 else 0) + (if p = true then 1 else 0) := by
  cases p <;> cases h <;> cases t <;> rfl
theorem whole {g : TGraph} (hv : vG g = true) {S : List Int} (hP : 3 ≤ g.Points) (hc : g.Points.toNat ≤ (names S g.Points.toNat).2 + 1) (hr : 2 * g.Points - 3 ≤ (pr g.Points g.Bars : Int)) : conn (wo g S) = true := by
  cases hcn : conn (wo g S) with
  | true => rfl
  | false =>
    exfalso
    have hV := vG_VG hv
    have p8 := hV.p8
    have hn := names_len S g.Points.toNat
    have hcn8 := cnt8_nat hV
    have hw : (wo g S).Points = ((names S g.Points.toNat).2 : Int) := by unfold wo; rw [hcn8]
    have hb : (wo g S).Bars = g.Bars.flatMap (barN (names S g.Points.toNat).1) := by unfold wo; rw [hv, hcn8]; exact barsN_flat _ _
    have hvw : vG (wo g S) = true := wo_vG hv S (by rw [hw]; omega)
    have hVw := vG_VG hvw
    obtain ⟨w, w1, w2⟩ := not_conn hvw hcn
    have t0 := reached_self hVw (v := 0) (by rw [hw]; omega)
    have hfix := reached_fix hVw (v := 0) (by rw [hw]; omega)
    have hTl := reached_len hVw 0
    generalize reached (wo g S) 0 = T at w2 t0 hfix hTl
    rw [hw] at w1
    have hgb := hV.gb
    let T1 : Nat → Bool := fun v => (T[(names S v).2]?).getD false
    let X1 : Nat → Bool := fun v => decide (v < g.Points.toNat) && (hasI S (v : Int) || T1 v)
    let X2 : Nat → Bool := fun v => decide (v < g.Points.toNat) && (hasI S (v : Int) || !T1 v)
    obtain ⟨v0, a1, a2, a3⟩ := names_surj S g.Points.toNat w (by omega)
    obtain ⟨v1, b1, b2, b3⟩ := names_surj S g.Points.toNat 0 (by omega)
    have s1 : size X1 + 1 ≤ g.Points.toNat := size_miss (by omega) (fun v h => by
      simp only [X1, Bool.and_eq_true, decide_eq_true_eq] at h; exact h.1) a1 (by simp [X1, T1, a2, a3, w2])
    have s2 : size X2 + 1 ≤ g.Points.toNat := size_miss (by omega) (fun v h => by
      simp only [X2, Bool.and_eq_true, decide_eq_true_eq] at h; exact h.1) b1 (by simp [X2, T1, b2, b3, t0])
    have hsum : size X1 + size X2 + (names S g.Points.toNat).2 = 2 * g.Points.toNat := by
      have e1 := names_size S g.Points.toNat 8
      rw [show min 8 g.Points.toNat = g.Points.toNat by omega] at e1
      have e2 := su_below g.Points.toNat 8
      rw [show min 8 g.Points.toNat = g.Points.toNat by omega] at e2
      rw [← e1]
      unfold size
      rw [← su_add, ← su_add]
      have e3 : 2 * g.Points.toNat = su (fun v => if decide (v < g.Points.toNat) then 1 else 0) 8 + su (fun v => if decide (v < g.Points.toNat) then 1 else 0) 8 := by rw [e2]; omega
      rw [e3, ← su_add]
      refine su_congr 8 fun v _ => ?_
      exact three_ifs _ _ _
    have hbars : ∀ x ∈ g.Bars, (X1 x.A.toNat && X1 x.B.toNat) = true ∨ (X2 x.A.toNat && X2 x.B.toNat) = true := fun x hx => by
      obtain ⟨k, hk, rfl⟩ := List.getElem_of_mem hx
      have hx' := List.getElem?_eq_getElem hk
      generalize g.Bars[k] = x at hx' hx ⊢
      have a0 := hV.a0 hx'
      have ab := hV.ab hx'
      have bp := hV.bp hx'
      have dA : decide (x.A.toNat < g.Points.toNat) = true := decide_eq_true (by omega)
      have dB : decide (x.B.toNat < g.Points.toNat) = true := decide_eq_true (by omega)
      simp only [X1, X2, dA, dB, Bool.true_and]
      cases hA : hasI S (x.A.toNat : Int) with
      | true => cases hasI S (x.B.toNat : Int) <;> cases T1 x.B.toNat <;> simp
      | false =>
        cases hB : hasI S (x.B.toNat : Int) with
        | true => cases T1 x.A.toNat <;> simp
        | false =>
          have eA := nm_get (S := S) (n := g.Points.toNat) a0 (by omega)
          have eB := nm_get (S := S) (n := g.Points.toNat) (show 0 ≤ x.B by omega) (by omega)
          rw [hA] at eA
          rw [hB] at eB
          simp only [cond_false] at eA eB
          have hy : TBar.mk ((names S x.A.toNat).2 : Int) ((names S x.B.toNat).2 : Int) ∈ (wo g S).Bars := by
            rw [hb]
            refine List.mem_flatMap.2 ⟨x, hx, ?_⟩
            unfold barN
            rw [eA, eB, decide_eq_true (Int.natCast_nonneg _), decide_eq_true (Int.natCast_nonneg _)]
            exact List.mem_singleton.2 rfl
          have := fix_bar hVw hTl hfix hy
          simp only [Int.toNat_natCast] at this
          have e : T1 x.A.toNat = T1 x.B.toNat := by show (T[_]?).getD false = (T[_]?).getD false; rw [this]
          rw [e]
          cases T1 x.B.toNat <;> simp
    have := sep_rank hgb hbars s1 s2 (by omega) (by omega)
    omega
theorem rk_pr {g : TGraph} (hv : vG g = true) : rk g 2 3 = (pr g.Points g.Bars : Int) := by
  unfold rk runP
  rw [hv]
  rfl
theorem rigid_pr {g : TGraph} (hr : rigid g = true) (hP : 2 ≤ g.Points) : vG g = true ∧ (pr g.Points g.Bars : Int) = 2 * g.Points - 3 := by
  unfold rigid freedom at hr
  cases hv : vG g with
  | false => rw [hv] at hr; cases hr
  | true =>
    have hV := vG_VG hv
    have p8 := hV.p8
    have hl := hV.len
    have hle := pr_le hV.gb
    refine ⟨rfl, ?_⟩
    rw [hv, rk_pr hv] at hr
    simp only [cond_true, beq_iff_eq] at hr
    rw [w64_small (n := 2 * g.Points) (by omega) (by omega), w64_small (n := 2 * g.Points - 3) (by omega) (by omega), if_pos (by omega), w64_small (by omega) (by omega)] at hr
    omega
theorem pieces_none {α : Type} {f : Nat → List α} : ∀ n, (∀ k, f k = []) → pieces f n = []
  | 0, _ => rfl
  | n + 1, h => by
    show pieces f n ++ f n = []
    rw [pieces_none n h, h]
    rfl
theorem no_cuts {g : TGraph} (hr : rigid g = true) (hP : 3 ≤ g.Points) {k : Int} (hk : k ≤ 1) : cuts g k = [] := by
  obtain ⟨hv, hpr⟩ := rigid_pr hr (by omega)
  unfold cuts
  cases hc : vG g && (decide (0 ≤ k) && decide (k ≤ 3)) with
  | false => rfl
  | true =>
    refine pieces_none _ fun mask => ?_
    have : isCut g k mask = false := by
      unfold isCut
      cases hl : (((maskSet (mask : Int) g.Points.toNat).length : Int) == k) with
      | false => rfl
      | true =>
        rw [beq_iff_eq] at hl
        have hm := names_mask (mask : Int) g.Points.toNat g.Points.toNat (Nat.le_refl _)
        rw [whole hv hP (S := maskSet (mask : Int) g.Points.toNat) (by omega) (by omega)]
        simp
    rw [this]
    rfl
theorem rigid_two {g : TGraph} (hr : rigid g = true) (hP : 3 ≤ g.Points) : kconn g 2 = true := by
  obtain ⟨hv, _⟩ := rigid_pr hr (by omega)
  unfold kconn
  have : (List.range' 0 (2 : Int).toNat).any (fun i => decide (0 < ((cuts g (i : Int)).length : Int))) = false := any_range_false.2 fun k _ hk => by
    rw [no_cuts hr hP (by simp at hk; omega)]
    rfl
  rw [this, hv, decide_eq_false (show ¬ g.Points ≤ 2 by omega)]
  rfl
theorem rigid_connOf {g : TGraph} (hr : rigid g = true) (hP : 3 ≤ g.Points) : decide (connOf g < 2) = false := by
  unfold connOf
  rw [rigid_two hr hP]
  cases kconn g 3 <;> rfl
theorem kconn_mono {g : TGraph} {k : Int} (h : kconn g k = true) (hk : 2 ≤ k) : kconn g (k - 1) = true := by
  unfold kconn at h ⊢
  simp only [Bool.and_eq_true, Bool.not_eq_true', decide_eq_true_eq, decide_eq_false_iff_not] at h ⊢
  obtain ⟨⟨h1, ⟨h2, h3⟩, h4⟩, h5⟩ := h
  refine ⟨⟨h1, ⟨by omega, by omega⟩, by omega⟩, ?_⟩
  rw [any_range_false] at h5 ⊢
  exact fun i h0 hi => h5 i h0 (by omega)
end Go.Proofs.Yteognanhfpbghaa
end
section
set_option linter.unusedVariables false
set_option linter.unusedSimpArgs false
set_option linter.unnecessarySimpa false
open Go Go.Fw
namespace Go.Proofs.Yteognanhfpbghaa
def twinAt (g : TGraph) (k : Nat) : Bool := match g.Bars[k - 1]?, g.Bars[k]? with
  | some x, some y => eqI [x.A, x.B] [y.A, y.B]
  | _, _ => false
def twins (g : TGraph) : Bool := (List.range' 1 (max 1 g.Bars.length - 1)).any (twinAt g)
theorem twinsI_eq (g : TGraph) (h : SM g.Bars.length) : m_impl_hasDoubles g = some (twins g) := by
  have e : loopM (m_impl_hasDoubles_L1 g) BIG ((1 : Nat) : Int) = some (bif (List.range' 1 (max 1 g.Bars.length - 1)).any (twinAt g) then .inr true else .inl ()) := by
    refine any_loop (twinAt g) true 1 (max 1 g.Bars.length) (by omega) (by omega) (fun k hk0 hk => ?_) ?_
    · have hk' : k < g.Bars.length := by omega
      have e1 : w64 ((k : Int) - 1) = ((k - 1 : Nat) : Int) := by rw [w64_small (by omega) (by omega)]; omega
      unfold m_impl_hasDoubles_L1 twinAt
      rw [decide_eq_true (by omega), cond_true, e1, idx_at (show k - 1 < g.Bars.length by omega), idx_at hk', List.getElem?_eq_getElem hk', List.getElem?_eq_getElem (show k - 1 < g.Bars.length by omega)]
      simp only [Option.bind_some]
    · unfold m_impl_hasDoubles_L1
      rw [decide_eq_false (by omega)]
      rfl
  unfold m_impl_hasDoubles twins
  rw [show (1 : Int) = ((1 : Nat) : Int) from rfl, e]
  cases (List.range' 1 (max 1 g.Bars.length - 1)).any (twinAt g) <;> rfl
theorem simpleS_eq (g : TGraph) (h : SM g.Bars.length) : m_spec_l17Simple g = some (!twins g && vG g) := by
  have e : loopM (m_spec_l17Simple_L1 g) BIG ((1 : Nat) : Int) = some (bif (List.range' 1 (max 1 g.Bars.length - 1)).any (twinAt g) then .inr false else .inl ()) := by
    refine any_loop (twinAt g) false 1 (max 1 g.Bars.length) (by omega) (by omega) (fun k hk0 hk => ?_) ?_
    · have hk' : k < g.Bars.length := by omega
      have e1 : w64 ((k : Int) - 1) = ((k - 1 : Nat) : Int) := by rw [w64_small (by omega) (by omega)]; omega
      unfold m_spec_l17Simple_L1 twinAt
      rw [decide_eq_true (by omega), cond_true, e1, idx_at (show k - 1 < g.Bars.length by omega), idx_at hk', List.getElem?_eq_getElem hk', List.getElem?_eq_getElem (show k - 1 < g.Bars.length by omega)]
      simp only [Option.bind_some]
    · unfold m_spec_l17Simple_L1
      rw [decide_eq_false (by omega)]
      rfl
  unfold m_spec_l17Simple twins
  rw [show (1 : Int) = ((1 : Nat) : Int) from rfl, e]
  cases (List.range' 1 (max 1 g.Bars.length - 1)).any (twinAt g)
  · simp only [cond_false, Option.bind_some, Sum.elim_inl, isGraphS_eq g h, Bool.not_false, Bool.true_and]
  · rfl
theorem twins_ne {g : TGraph} (h : twins g = false) {k : Nat} {x y : TBar} (hx : g.Bars[k]? = some x) (hy : g.Bars[k + 1]? = some y) : ¬ (x.A = y.A ∧ x.B = y.B) := by
  unfold twins at h
  rw [any_range_false] at h
  have hk : k + 1 < g.Bars.length := (List.getElem?_eq_some_iff.1 hy).1
  have := h (k + 1) (by omega) (by omega)
  unfold twinAt at this
  rw [Nat.add_sub_cancel, hx, hy] at this
  simp only [eqI_eq, decide_eq_false_iff_not, List.cons.injEq, and_true] at this
  exact this
def cnt (g : TGraph) (a b : Int) : Int := (m_impl_CountBar g a b).getD 0
theorem cnt_eq (g : TGraph) (h : SM g.Bars.length) (a b : Int) : m_impl_CountBar g a b = some (cnt g a b) ∧ (cnt g a b = 0 ↔ ∀ x ∈ g.Bars, ¬ (x.A = a ∧ x.B = b) ∧ ¬ (x.A = b ∧ x.B = a)) := by
  obtain ⟨r, hr, hq⟩ := loop_inv (b := m_impl_CountBar_L1 g a b) (s := (0, 0)) (fun k s => s.2 = (k : Int) ∧ 0 ≤ s.1 ∧ s.1 ≤ k ∧ (s.1 = 0 ↔ ∀ x ∈ g.Bars.take k, ¬ (x.A = a ∧ x.B = b) ∧ ¬ (x.A = b ∧ x.B = a))) (fun r => r = 0 ↔ ∀ x ∈ g.Bars, ¬ (x.A = a ∧ x.B = b) ∧ ¬ (x.A = b ∧ x.B = a)) g.Bars.length (by omega) ⟨rfl, by omega, by omega, by simp⟩ (fun k s hk hs => by
    refine .inl ?_
    obtain ⟨c, i⟩ := s
    obtain ⟨h1, h2, h3, h4⟩ := hs
    simp only at h1 h2 h3 h4
    subst h1
    have ht : g.Bars.take (k + 1) = g.Bars.take k ++ [g.Bars[k]] := by rw [List.take_succ_eq_append_getElem hk]
    have hw : w64 (c + 1) = c + 1 := w64_small (by omega) (by omega)
    have key : ∀ (j : Bool), (j = true ↔ (g.Bars[k].A = a ∧ g.Bars[k].B = b) ∨ (g.Bars[k].A = b ∧ g.Bars[k].B = a)) → ((bif j then c + 1 else c) = 0 ↔ ∀ x ∈ g.Bars.take (k + 1), ¬ (x.A = a ∧ x.B = b) ∧ ¬ (x.A = b ∧ x.B = a)) := fun j hj => by
      rw [ht]
      simp only [List.mem_append, List.mem_singleton, or_imp, forall_and, forall_eq]
      simp only [forall_and] at h4
      cases j
      · simp only [cond_false, h4]
        have : ¬ ((g.Bars[k].A = a ∧ g.Bars[k].B = b) ∨ (g.Bars[k].A = b ∧ g.Bars[k].B = a)) := fun hh => by have := hj.2 hh; cases this
        rw [not_or] at this
        exact ⟨fun ⟨p, q⟩ => ⟨⟨p, this.1⟩, ⟨q, this.2⟩⟩, fun ⟨p, q⟩ => ⟨p.1, q.1⟩⟩
      · have := hj.1 rfl
        simp only [cond_true]
        constructor
        · intro hc; omega
        · rintro ⟨⟨_, p⟩, ⟨_, q⟩⟩
          rcases this with t | t
          · exact absurd t p
          · exact absurd t q
    unfold m_impl_CountBar_L1
    simp only [idx_at hk, Option.bind_some]
    rw [decide_eq_true (by omega), cond_true, hw]
    by_cases q1 : g.Bars[k].A = a
    · by_cases q2 : g.Bars[k].B = b
      · refine ⟨(c + 1, w64 ((k : Int) + 1)), by simp only [beq_iff_eq.2 q1, beq_iff_eq.2 q2]; rfl, w64_succ (by omega), by simp only; omega, by simp only; omega, ?_⟩
        exact key true (by simp [q1, q2])
      · by_cases q3 : g.Bars[k].A = b
        · by_cases q4 : g.Bars[k].B = a
          · refine ⟨(c + 1, w64 ((k : Int) + 1)), by simp only [beq_iff_eq.2 q1, beq_eq_false_iff_ne.2 q2, beq_iff_eq.2 q3, beq_iff_eq.2 q4]; rfl, w64_succ (by omega), by simp only; omega, by simp only; omega, ?_⟩
            exact key true (by simp [q3, q4])
          · refine ⟨(c, w64 ((k : Int) + 1)), by simp only [beq_iff_eq.2 q1, beq_eq_false_iff_ne.2 q2, beq_iff_eq.2 q3, beq_eq_false_iff_ne.2 q4]; rfl, w64_succ (by omega), by simp only; omega, by simp only; omega, ?_⟩
            exact key false (by simp [q2, q4])
        · refine ⟨(c, w64 ((k : Int) + 1)), by simp only [beq_iff_eq.2 q1, beq_eq_false_iff_ne.2 q2, beq_eq_false_iff_ne.2 q3]; rfl, w64_succ (by omega), by simp only; omega, by simp only; omega, ?_⟩
          exact key false (by simp [q2, q3])
    · by_cases q3 : g.Bars[k].A = b
      · by_cases q4 : g.Bars[k].B = a
        · refine ⟨(c + 1, w64 ((k : Int) + 1)), by simp only [beq_eq_false_iff_ne.2 q1, beq_iff_eq.2 q3, beq_iff_eq.2 q4]; rfl, w64_succ (by omega), by simp only; omega, by simp only; omega, ?_⟩
          exact key true (by simp [q3, q4])
        · refine ⟨(c, w64 ((k : Int) + 1)), by simp only [beq_eq_false_iff_ne.2 q1, beq_iff_eq.2 q3, beq_eq_false_iff_ne.2 q4]; rfl, w64_succ (by omega), by simp only; omega, by simp only; omega, ?_⟩
          exact key false (by simp [q1, q4])
      · refine ⟨(c, w64 ((k : Int) + 1)), by simp only [beq_eq_false_iff_ne.2 q1, beq_eq_false_iff_ne.2 q3]; rfl, w64_succ (by omega), by simp only; omega, by simp only; omega, ?_⟩
        exact key false (by simp [q1, q3])) (fun s hs => by
    obtain ⟨c, i⟩ := s
    obtain ⟨h1, h2, h3, h4⟩ := hs
    simp only at h1 h2 h3 h4
    subst h1
    rw [List.take_length] at h4
    exact ⟨c, by simp [m_impl_CountBar_L1], h4⟩)
  have e : m_impl_CountBar g a b = some r := by unfold m_impl_CountBar; rw [hr]; rfl
  unfold cnt
  rw [e]
  exact ⟨rfl, hq⟩
def missRow (g : TGraph) (a : Nat) : List TBar := pieces (fun j => bif cnt g a ((a + 1 + j : Nat) : Int) == 0 then [⟨a, ((a + 1 + j : Nat) : Int)⟩] else []) (g.Points.toNat - (a + 1))
def miss (g : TGraph) : List TBar := pieces (missRow g) g.Points.toNat
theorem missI_eq {g : TGraph} (hv : vG g = true) : m_impl_MissingBars g = some (miss g) := by
  have H := vG_VG hv
  have hp := H.p8
  have hrow : ∀ a, (missRow g a).length ≤ 8 := fun a => by
    have := pieces_len (f := fun j => bif cnt g a ((a + 1 + j : Nat) : Int) == 0 then [(⟨a, ((a + 1 + j : Nat) : Int)⟩ : TBar)] else []) (c := 1) (g.Points.toNat - (a + 1)) (fun j _ => by cases cnt g a ((a + 1 + j : Nat) : Int) == 0 <;> simp)
    unfold missRow
    omega
  have := app_loop (b := m_impl_MissingBars_L3 g) (s := (0, [])) (fun k out => ((k : Int), out)) (missRow g) id 8 g.Points.toNat [] (by omega) rfl (fun k _ => hrow k) (fun k out hk ho => by
    simp only [List.length_nil, Nat.zero_add] at ho
    have e := app_loop (b := m_impl_MissingBars_L4 g ((k : Int), out)) (s := (w64 ((k : Int) + 1), out)) (fun j o => (((k + 1 + j : Nat) : Int), o)) (fun j => bif cnt g k ((k + 1 + j : Nat) : Int) == 0 then [(⟨k, ((k + 1 + j : Nat) : Int)⟩ : TBar)] else []) (fun o => ((k : Int), o)) 1 (g.Points.toNat - (k + 1)) out (by omega) (by rw [w64_succ (by omega)]) (fun j _ => by cases cnt g k ((k + 1 + j : Nat) : Int) == 0 <;> simp)
      (fun j o hj ho2 => by
        unfold m_impl_MissingBars_L4
        simp only [(cnt_eq g H.sm _ _).1, Option.bind_some]
        rw [decide_eq_true (by omega), cond_true, lim_ok (by simp; omega), Option.bind_some, w64_succ (by omega)]
        cases cnt g k ((k + 1 + j : Nat) : Int) == 0
        · simp only [cond_false, Option.bind_some, List.append_nil]
          rfl
        · rfl)
      (fun o => by
        unfold m_impl_MissingBars_L4
        simp only
        rw [decide_eq_false (by omega)]
        rfl)
    unfold m_impl_MissingBars_L3
    simp only [e, Option.bind_some]
    rw [decide_eq_true (by omega), cond_true, w64_succ (by omega)]
    rfl) (fun out => by
      unfold m_impl_MissingBars_L3
      simp only
      rw [decide_eq_false (by omega)]
      rfl)
  unfold m_impl_MissingBars
  rw [isGraphI_eq g H.sm, hv, this]
  rfl
theorem list3 (P : Int) (l : List TBar) (hr : ∀ x ∈ l, 0 ≤ x.A ∧ x.A < x.B ∧ x.B < P) (hs : ∀ k x y, l[k]? = some x → l[k + 1]? = some y → x.A < y.A ∨ x.A = y.A ∧ x.B < y.B) :
    (P = 1 → l.length = 0) ∧
    (P = 2 → ((∀ x ∈ l, ¬ (x.A = 0 ∧ x.B = 1) ∧ ¬ (x.A = 1 ∧ x.B = 0)) ↔ l.length < 1)) ∧
    (P = 3 → (((∀ x ∈ l, ¬ (x.A = 0 ∧ x.B = 1) ∧ ¬ (x.A = 1 ∧ x.B = 0)) ∨ (∀ x ∈ l, ¬ (x.A = 0 ∧ x.B = 2) ∧ ¬ (x.A = 2 ∧ x.B = 0)) ∨ (∀ x ∈ l, ¬ (x.A = 1 ∧ x.B = 2) ∧ ¬ (x.A = 2 ∧ x.B = 1))) ↔ l.length < 3)) := by
  match l, hr, hs with
  | [], hr, hs => simp
  | [x], hr, hs =>
    have := hr x (by simp)
    simp only [List.mem_singleton, forall_eq, List.length_singleton]
    omega
  | [x, y], hr, hs =>
    have h1 := hr x (by simp)
    have h2 := hr y (by simp)
    have s1 := hs 0 x y rfl rfl
    simp only [List.mem_cons, List.not_mem_nil, or_false, forall_eq_or_imp, forall_eq, List.length_cons, List.length_nil]
    omega
  | [x, y, z], hr, hs =>
    have h1 := hr x (by simp)
    have h2 := hr y (by simp)
    have h3 := hr z (by simp)
    have s1 := hs 0 x y rfl rfl
    have s2 := hs 1 y z rfl rfl
    simp only [List.mem_cons, List.not_mem_nil, or_false, forall_eq_or_imp, forall_eq, List.length_cons, List.length_nil]
    omega
  | x :: y :: z :: t :: r, hr, hs =>
    have h1 := hr x (by simp)
    have h2 := hr y (by simp)
    have h3 := hr z (by simp)
    have h4 := hr t (by simp)
    have s1 := hs 0 x y rfl rfl
    have s2 := hs 1 y z rfl rfl
    have s3 := hs 2 z t rfl rfl
    omega
theorem small_miss {g : TGraph} (hv : vG g = true) (hd : twins g = false) (hp : g.Points ≤ 3) : decide (0 < ((miss g).length : Int)) = decide ((g.Bars.length : Int) < w64 (Int.tdiv (w64 (g.Points * (w64 (g.Points - 1)))) 2)) := by
  have H := vG_VG hv
  have c := fun a b => (cnt_eq g H.sm a b).2
  obtain ⟨l1, l2, l3⟩ := list3 g.Points g.Bars (fun x hx => by
    obtain ⟨k, hk, e⟩ := List.getElem_of_mem hx
    have hx' : g.Bars[k]? = some x := by rw [List.getElem?_eq_getElem hk, e]
    exact ⟨H.a0 hx', H.ab hx', H.bp hx'⟩) (fun k x y hx hy => by
    have s1 := H.srt hx hy
    have s2 := twins_ne hd hx hy
    unfold barGt at s1
    simp only [Bool.or_eq_false_iff, Bool.and_eq_false_iff, decide_eq_false_iff_not, beq_eq_false_iff_ne, ne_eq] at s1
    omega)
  have hp1 := H.p1
  have : g.Points = 1 ∨ g.Points = 2 ∨ g.Points = 3 := by omega
  rcases this with h | h | h
  · have e := l1 h
    have em : miss g = [] := by unfold miss; rw [h]; simp [pieces, missRow, h]
    rw [em, h, e]
    decide
  · have e := l2 h
    rw [← c 0 1] at e
    have em : miss g = bif cnt g 0 1 == 0 then [⟨0, 1⟩] else [] := by
      unfold miss
      rw [h]
      simp [pieces, missRow, h]
    rw [em, h, show w64 (Int.tdiv (w64 (2 * w64 (2 - 1))) 2) = 1 from by decide]
    by_cases h0 : cnt g 0 1 = 0
    · have := e.1 h0
      rw [beq_iff_eq.2 h0]
      simp only [cond_true, List.length_singleton]
      rw [decide_eq_true (by omega), decide_eq_true (by omega)]
    · have : ¬ g.Bars.length < 1 := fun hh => h0 (e.2 hh)
      rw [beq_eq_false_iff_ne.2 h0]
      simp only [cond_false, List.length_nil]
      rw [decide_eq_false (by omega), decide_eq_false (by omega)]
  · have e := l3 h
    rw [← c 0 1, ← c 0 2, ← c 1 2] at e
    have em : miss g = (bif cnt g 0 1 == 0 then [⟨0, 1⟩] else []) ++ (bif cnt g 0 2 == 0 then [⟨0, 2⟩] else []) ++ (bif cnt g 1 2 == 0 then [⟨1, 2⟩] else []) := by
      unfold miss
      rw [h]
      simp [pieces, missRow, h]
    have em2 : decide (0 < ((miss g).length : Int)) = (cnt g 0 1 == 0 || (cnt g 0 2 == 0 || cnt g 1 2 == 0)) := by
      rw [em]
      cases cnt g 0 1 == 0 <;> cases cnt g 0 2 == 0 <;> cases cnt g 1 2 == 0 <;> rfl
    rw [em2, h, show w64 (Int.tdiv (w64 (3 * w64 (3 - 1))) 2) = 3 from by decide]
    by_cases hl : g.Bars.length < 3
    · have := e.2 hl
      rw [decide_eq_true (show (g.Bars.length : Int) < 3 by omega)]
      simp only [Bool.or_eq_true, beq_iff_eq]
      exact this
    · have := fun hh => hl (e.1 hh)
      rw [decide_eq_false (show ¬ (g.Bars.length : Int) < 3 by omega)]
      simp only [Bool.or_eq_false_iff, beq_eq_false_iff_ne, ne_eq]
      exact ⟨fun x => this (.inl x), fun x => this (.inr (.inl x)), fun x => this (.inr (.inr x))⟩
theorem both_WhyNotGlobal (g : TGraph) (h : g.Bars.length ≤ 1048576) : ∃ w, m_spec_WhyNotGlobal g = some w ∧ m_impl_WhyNotGlobal g = some w := by
  have hs : SM g.Bars.length := by omega
  unfold m_spec_WhyNotGlobal m_impl_WhyNotGlobal
  simp only [simpleS_eq g hs, isGraphI_eq g hs, twinsI_eq g hs, Option.bind_some, rigidI_eq g hs, rigidS_eq g hs, kconnI_eq g hs, kconnS_eq g hs, redRigidI_eq g hs, redRigidS_eq g hs]
  cases hv : vG g
  · refine ⟨_, ?_, rfl⟩
    rw [Bool.and_false]
    rfl
  · rw [Bool.and_true]
    cases hd : twins g
    · simp only [missI_eq hv, Option.bind_some, Bool.not_true, Bool.not_false, cond_true, cond_false]
      by_cases hp : g.Points ≤ 3
      · rw [decide_eq_true hp, decide_eq_false (show ¬ 3 < g.Points by omega), small_miss hv hd hp]
        cases decide ((g.Bars.length : Int) < w64 (Int.tdiv (w64 (g.Points * (w64 (g.Points - 1)))) 2)) <;> exact ⟨_, rfl, rfl⟩
      · rw [decide_eq_false hp, decide_eq_true (show 3 < g.Points by omega)]
        simp only [cond_true, cond_false, Option.bind_some]
        cases rigid g <;> cases kconn g 3 <;> cases redRigid g <;> exact ⟨_, rfl, rfl⟩
    · exact ⟨_, rfl, rfl⟩
end Go.Proofs.Yteognanhfpbghaa
end
