/- Plain: valid frameworks; distances; IsFramework, PairDistances, IsCongruent, IsTensegrity of the program and of the reference agree. -/
import Derived.Test.YtfiiebikkimjbaaPlValid
set_option linter.unusedVariables false
set_option linter.unusedSimpArgs false
set_option linter.unnecessarySimpa false
open Go Go.Fw
namespace Go.Proofs.Ytfiiebikkimjbaa

theorem idx_in {α : Type} {l : List α} {i : Int} (d : α) (h0 : 0 ≤ i) (h1 : i < (l.length : Int)) : idx l i = some ((l[i.toNat]?).getD d) := by
  unfold idx
  rw [if_pos h0, List.getElem?_eq_getElem (by omega)]
  rfl
def plAt (f : TFramework) (v : Int) : TPlace := (f.Places[v.toNat]?).getD ⟨0, 0⟩
def onGrid (p : TPlace) : Bool := (decide (0 ≤ p.X) && decide (p.X ≤ 4)) && (decide (0 ≤ p.Y) && decide (p.Y ≤ 4))
theorem isPlace_eq (p : TPlace) : m_impl_isPlace p = some (onGrid p) := by
  unfold m_impl_isPlace onGrid
  rw [within_eq, within_eq]
  simp only [Option.bind_some]
  cases decide (0 ≤ p.X) && decide (p.X ≤ 4) <;> rfl
def badLen (f : TFramework) (k : Nat) : Bool := match f.Graph.Bars[k]? with
  | none => false
  | some x => eqI [(plAt f x.A).X, (plAt f x.A).Y] [(plAt f x.B).X, (plAt f x.B).Y] || (decide (0 < k) && match f.Graph.Bars[k - 1]? with
    | none => false
    | some y => eqI [y.A, y.B] [x.A, x.B])
def vF (f : TFramework) : Bool := vG f.Graph && !decide (6 < f.Graph.Points) && !((f.Places.length : Int) != f.Graph.Points) && !decide (15 < (f.Graph.Bars.length : Int)) && !(List.range' 0 f.Places.length).any (atB f.Places fun p => !onGrid p) && !(List.range' 0 f.Graph.Bars.length).any (badLen f)
theorem isFI_L1 (f : TFramework) (h : SM f.Places.length) : loopM (m_impl_IsFramework_L1 f) BIG 0 = some (bif (List.range' 0 f.Places.length).any (atB f.Places fun p => !onGrid p) then .inr false else .inl ()) := by
  refine any_loop0 _ false f.Places.length (by omega) (fun k hk => ?_) (by simp [m_impl_IsFramework_L1])
  unfold m_impl_IsFramework_L1
  rw [decide_eq_true (by omega), cond_true, idx_at hk, Option.bind_some, atB_at hk, isPlace_eq, Option.bind_some]
theorem isFS_L1 (f : TFramework) (h : SM f.Places.length) : loopM (m_spec_IsFramework_L1 f) BIG 0 = some (bif (List.range' 0 f.Places.length).any (atB f.Places fun p => !onGrid p) then .inr false else .inl ()) := by
  refine any_loop0 _ false f.Places.length (by omega) (fun k hk => ?_) (by simp [m_spec_IsFramework_L1])
  unfold m_spec_IsFramework_L1 onGrid
  rw [decide_eq_true (by omega), cond_true, idx_at hk, atB_at hk]
  simp only [l1In_eq, Option.bind_some]
  cases decide (0 ≤ f.Places[k].X) && decide (f.Places[k].X ≤ 4) <;> rfl
theorem isFI_L2 (f : TFramework) (hv : VG f.Graph) (hp : (f.Places.length : Int) = f.Graph.Points) : loopM (m_impl_IsFramework_L2 f) BIG 0 = some (bif (List.range' 0 f.Graph.Bars.length).any (badLen f) then .inr false else .inl ()) := by
  refine any_loop0 _ false f.Graph.Bars.length (by have := hv.len; omega) (fun k hk => ?_) (by simp [m_impl_IsFramework_L2])
  have hx := List.getElem?_eq_getElem hk
  have a0 := hv.a0 hx
  have ab := hv.ab hx
  have bp := hv.bp hx
  unfold m_impl_IsFramework_L2 badLen
  rw [decide_eq_true (by omega), cond_true, idx_at hk, Option.bind_some, hx]
  simp only [idx_in (⟨0, 0⟩ : TPlace) a0 (show f.Graph.Bars[k].A < (f.Places.length : Int) by omega), idx_in (⟨0, 0⟩ : TPlace) (show 0 ≤ f.Graph.Bars[k].B by omega) (show f.Graph.Bars[k].B < (f.Places.length : Int) by omega), Option.bind_some]
  by_cases h0 : 0 < k
  · have hl := hv.len
    have e1 : w64 ((k : Int) - 1) = ((k - 1 : Nat) : Int) := by rw [w64_small (by omega) (by omega)]; omega
    rw [decide_eq_true (show (0 : Int) < (k : Int) by omega), decide_eq_true h0, cond_true, e1, idx_at (show k - 1 < f.Graph.Bars.length by omega), Option.bind_some, List.getElem?_eq_getElem (show k - 1 < f.Graph.Bars.length by omega)]
    simp only [Bool.true_and, plAt]
    cases eqI [f.Graph.Bars[k - 1].A, f.Graph.Bars[k - 1].B] [f.Graph.Bars[k].A, f.Graph.Bars[k].B] <;> simp
  · rw [decide_eq_false (show ¬ (0 : Int) < (k : Int) by omega), decide_eq_false h0]
    simp [plAt]
theorem isFS_L2 (f : TFramework) (hv : VG f.Graph) (hp : (f.Places.length : Int) = f.Graph.Points) : loopM (m_spec_IsFramework_L2 f) BIG 0 = some (bif (List.range' 0 f.Graph.Bars.length).any (badLen f) then .inr false else .inl ()) := by
  refine any_loop0 _ false f.Graph.Bars.length (by have := hv.len; omega) (fun k hk => ?_) (by simp [m_spec_IsFramework_L2])
  have hx := List.getElem?_eq_getElem hk
  have a0 := hv.a0 hx
  have ab := hv.ab hx
  have bp := hv.bp hx
  unfold m_spec_IsFramework_L2 badLen
  rw [decide_eq_true (by omega), cond_true, idx_at hk, Option.bind_some, hx]
  simp only [idx_in (⟨0, 0⟩ : TPlace) a0 (show f.Graph.Bars[k].A < (f.Places.length : Int) by omega), idx_in (⟨0, 0⟩ : TPlace) (show 0 ≤ f.Graph.Bars[k].B by omega) (show f.Graph.Bars[k].B < (f.Places.length : Int) by omega), Option.bind_some]
  by_cases h0 : 0 < k
  · have hl := hv.len
    have e1 : w64 ((k : Int) - 1) = ((k - 1 : Nat) : Int) := by rw [w64_small (by omega) (by omega)]; omega
    rw [decide_eq_true (show (0 : Int) < (k : Int) by omega), decide_eq_true h0, cond_true, e1, idx_at (show k - 1 < f.Graph.Bars.length by omega), Option.bind_some, List.getElem?_eq_getElem (show k - 1 < f.Graph.Bars.length by omega)]
    simp only [Bool.true_and, plAt]
    generalize eqI [((f.Places[f.Graph.Bars[k].A.toNat]?).getD ⟨0, 0⟩).X, _] _ = c
    cases c <;> simp
  · rw [decide_eq_false (show ¬ (0 : Int) < (k : Int) by omega), decide_eq_false h0]
    simp only [cond_false, Bool.false_and, Bool.or_false, plAt]
    generalize eqI [((f.Places[f.Graph.Bars[k].A.toNat]?).getD ⟨0, 0⟩).X, _] _ = c
    cases c <;> simp
theorem bne_int {a b : Int} : (a != b) = false ↔ a = b := by simp
theorem isFI_eq (f : TFramework) (h : SM f.Graph.Bars.length) (h2 : SM f.Places.length) : m_impl_IsFramework f = some (vF f) := by
  unfold m_impl_IsFramework vF
  rw [isGraphI_eq _ h, isFI_L1 f h2]
  cases hg : vG f.Graph
  · rfl
  · cases decide (6 < f.Graph.Points)
    · cases decide (15 < (f.Graph.Bars.length : Int))
      · cases hp : ((f.Places.length : Int) != f.Graph.Points)
        · rw [isFI_L2 f (vG_VG hg) (bne_int.1 hp)]
          cases (List.range' 0 f.Places.length).any (atB f.Places fun p => !onGrid p)
          · cases (List.range' 0 f.Graph.Bars.length).any (badLen f) <;> rfl
          · rfl
        · rfl
      · cases ((f.Places.length : Int) != f.Graph.Points) <;> rfl
    · rfl
theorem isFS_eq (f : TFramework) (h : SM f.Graph.Bars.length) (h2 : SM f.Places.length) : m_spec_IsFramework f = some (vF f) := by
  unfold m_spec_IsFramework vF
  rw [isGraphS_eq _ h, isFS_L1 f h2]
  cases hg : vG f.Graph
  · rfl
  · cases decide (6 < f.Graph.Points)
    · cases hp : ((f.Places.length : Int) != f.Graph.Points)
      · cases decide (15 < (f.Graph.Bars.length : Int))
        · rw [isFS_L2 f (vG_VG hg) (bne_int.1 hp)]
          cases (List.range' 0 f.Places.length).any (atB f.Places fun p => !onGrid p)
          · cases (List.range' 0 f.Graph.Bars.length).any (badLen f) <;> rfl
          · rfl
        · rfl
      · rfl
    · rfl
structure VF (f : TFramework) : Prop where
  g : VG f.Graph
  p6 : f.Graph.Points ≤ 6
  len : f.Graph.Bars.length ≤ 15
  pls : (f.Places.length : Int) = f.Graph.Points
  grid : ∀ {k : Nat} {p : TPlace}, f.Places[k]? = some p → 0 ≤ p.X ∧ p.X ≤ 4 ∧ 0 ≤ p.Y ∧ p.Y ≤ 4
  dif : ∀ {k : Nat} {x : TBar}, f.Graph.Bars[k]? = some x → eqI [(plAt f x.A).X, (plAt f x.A).Y] [(plAt f x.B).X, (plAt f x.B).Y] = false
  nod : ∀ {k : Nat} {x y : TBar}, f.Graph.Bars[k]? = some x → f.Graph.Bars[k + 1]? = some y → eqI [x.A, x.B] [y.A, y.B] = false
theorem vF_VF {f : TFramework} (h : vF f = true) : VF f := by
  unfold vF at h
  simp only [Bool.and_eq_true, Bool.not_eq_true', decide_eq_false_iff_not] at h
  obtain ⟨⟨⟨⟨⟨h1, h2⟩, h3⟩, h4⟩, h5⟩, h6⟩ := h
  rw [any_range_false] at h5 h6
  refine ⟨vG_VG h1, by omega, by omega, bne_int.1 h3, fun {k p} hk => ?_, fun {k x} hk => ?_, fun {k x y} hx hy => ?_⟩
  · have hl := (List.getElem?_eq_some_iff.1 hk).1
    have := h5 k (by omega) (by omega)
    unfold atB at this
    rw [hk] at this
    simp only [Bool.not_eq_false', onGrid, Bool.and_eq_true, decide_eq_true_eq] at this
    exact ⟨this.1.1, this.1.2, this.2.1, this.2.2⟩
  · have hl := (List.getElem?_eq_some_iff.1 hk).1
    have := h6 k (by omega) (by omega)
    unfold badLen at this
    rw [hk] at this
    simp only [Bool.or_eq_false_iff] at this
    exact this.1
  · have hl := (List.getElem?_eq_some_iff.1 hy).1
    have := h6 (k + 1) (by omega) (by omega)
    unfold badLen at this
    rw [hy] at this
    simp only [Bool.or_eq_false_iff, Nat.add_sub_cancel, hx] at this
    simpa using this.2
theorem VF.pl_in {f : TFramework} (h : VF f) {v : Int} (h0 : 0 ≤ v) (h1 : v < f.Graph.Points) : idx f.Places v = some (plAt f v) := idx_in _ h0 (by have := h.pls; omega)
theorem VF.pl_grid {f : TFramework} (h : VF f) {v : Int} (h0 : 0 ≤ v) (h1 : v < f.Graph.Points) : 0 ≤ (plAt f v).X ∧ (plAt f v).X ≤ 4 ∧ 0 ≤ (plAt f v).Y ∧ (plAt f v).Y ≤ 4 := by
  have hp := h.pls
  have hl : v.toNat < f.Places.length := by omega
  have e : f.Places[v.toNat]? = some (plAt f v) := by unfold plAt; rw [List.getElem?_eq_getElem hl]; rfl
  exact h.grid e

/-! ### distances -/
theorem w64_add3 {a b c d : Int} (h1 : 0 ≤ a ∧ a ≤ 4) (h2 : 0 ≤ b ∧ b ≤ 4) (h3 : 0 ≤ c ∧ c ≤ 4) (h4 : 0 ≤ d ∧ d ≤ 4) : w64 (w64 (w64 (a - b) * w64 (a - b)) + w64 (w64 (c - d) * w64 (c - d))) = (a - b) * (a - b) + (c - d) * (c - d) := by
  have sq : ∀ x y : Int, 0 ≤ x ∧ x ≤ 4 → 0 ≤ y ∧ y ≤ 4 → 0 ≤ (x - y) * (x - y) ∧ (x - y) * (x - y) ≤ 16 := fun x y hx hy => by
    have hz : ∀ z : Int, -4 ≤ z → z ≤ 4 → 0 ≤ z * z ∧ z * z ≤ 16 := fun z h1 h2 => by
      have : z = -4 ∨ z = -3 ∨ z = -2 ∨ z = -1 ∨ z = 0 ∨ z = 1 ∨ z = 2 ∨ z = 3 ∨ z = 4 := by omega
      rcases this with h | h | h | h | h | h | h | h | h <;> subst h <;> decide
    exact hz _ (by omega) (by omega)
  have a1 := sq a b h1 h2
  have a2 := sq c d h3 h4
  rw [w64_small (n := a - b) (by omega) (by omega), w64_small (n := c - d) (by omega) (by omega), w64_small (n := (a - b) * (a - b)) (by omega) (by omega), w64_small (n := (c - d) * (c - d)) (by omega) (by omega), w64_small (by omega) (by omega)]
def sqd (p q : TPlace) : Int := (p.X - q.X) * (p.X - q.X) + (p.Y - q.Y) * (p.Y - q.Y)
def pairRow (f : TFramework) (a : Nat) : List Int := pieces (fun j => [sqd (plAt f a) (plAt f ((a + 1 + j : Nat) : Int))]) (f.Places.length - (a + 1))
theorem pairRow_len (f : TFramework) (a : Nat) : (pairRow f a).length ≤ f.Places.length := by
  have := pieces_len (f := fun j => [sqd (plAt f a) (plAt f ((a + 1 + j : Nat) : Int))]) (c := 1) (f.Places.length - (a + 1)) (fun k _ => by simp)
  unfold pairRow
  omega
def pairs (f : TFramework) : List Int := pieces (pairRow f) f.Places.length
theorem VF.small {f : TFramework} (h : VF f) : f.Places.length ≤ 6 := by have := h.pls; have := h.p6; omega
theorem pairs_len {f : TFramework} (h : VF f) : (pairs f).length ≤ 36 := by
  have hs := h.small
  have := pieces_len (f := pairRow f) (c := 6) f.Places.length (fun k _ => by have := pairRow_len f k; omega)
  unfold pairs
  omega
def pairsOf (f : TFramework) : List Int := bif vF f then pairs f else []
theorem pairsOf_len (f : TFramework) : SM (pairsOf f).length := by
  unfold pairsOf
  cases h : vF f
  · exact Nat.zero_le _
  · have := pairs_len (vF_VF h)
    show SM (pairs f).length
    omega
/-! ### equal lists -/
theorem eqLoop {b : Int → Option (Int ⊕ (Unit ⊕ Bool))} (a c : List Int) (ha : SM a.length) (hl : a.length = c.length) (h : ∀ (k : Nat) x y, k < a.length → a[k]? = some x → c[k]? = some y → b k = bif x != y then some (.inr (.inr false)) else some (.inl (w64 ((k : Int) + 1)))) (hr : b a.length = some (.inr (.inl ()))) :
    ((loopM b BIG 0).bind (Sum.elim (fun _ => some true) (fun r => some r))) = some (decide (a = c)) := by
  have e := any_loop0 (b := b) (fun k => match a[k]?, c[k]? with | some x, some y => x != y | _, _ => false) false a.length (by omega) (fun k hk => by
    rw [h k a[k] (c[k]'(by omega)) hk (List.getElem?_eq_getElem hk) (List.getElem?_eq_getElem (by omega)), List.getElem?_eq_getElem hk, List.getElem?_eq_getElem (by omega)]) hr
  rw [e]
  by_cases hac : a = c
  · subst hac
    rw [any_range_false.2 (fun k _ hk => by rw [List.getElem?_eq_getElem (by omega)]; simp)]
    simp
  · rw [decide_eq_false hac]
    have : (List.range' 0 a.length).any (fun k => match a[k]?, c[k]? with | some x, some y => x != y | _, _ => false) = true := by
      cases hq : (List.range' 0 a.length).any (fun k => match a[k]?, c[k]? with | some x, some y => x != y | _, _ => false)
      · rw [any_range_false] at hq
        refine absurd (List.ext_getElem hl fun k h1 h2 => ?_) hac
        have := hq k (by omega) (by omega)
        rw [List.getElem?_eq_getElem h1, List.getElem?_eq_getElem h2] at this
        simpa using this
      · rfl
    rw [this]
    rfl
def congr2 (a b : TFramework) : Bool := vF a && (vF b && ((a.Graph.Points == b.Graph.Points) && decide (pairsOf a = pairsOf b)))
/-! ### tensegrities -/
theorem tens_L1 (t : TTensegrity) (h : SM t.Kinds.length) : loopM (m_impl_IsTensegrity_L1 t) BIG 0 = some (bif (List.range' 0 t.Kinds.length).any (atB t.Kinds fun x => !(decide (0 ≤ x) && decide (x ≤ 2))) then .inr false else .inl ()) := by
  refine any_loop0 _ false t.Kinds.length (by omega) (fun k hk => ?_) (by simp [m_impl_IsTensegrity_L1])
  unfold m_impl_IsTensegrity_L1
  rw [decide_eq_true (by omega), cond_true, idx_at hk, Option.bind_some, atB_at hk, within_eq, Option.bind_some]
def vT (t : TTensegrity) : Bool := !(List.range' 0 t.Kinds.length).any (atB t.Kinds fun x => !(decide (0 ≤ x) && decide (x ≤ 2))) && (vF t.Framework && ((t.Kinds.length : Int) == (t.Framework.Graph.Bars.length : Int)))
theorem isTI_eq (t : TTensegrity) (h0 : SM t.Framework.Graph.Bars.length) (h1 : SM t.Framework.Places.length) (h2 : SM t.Kinds.length) : m_impl_IsTensegrity t = some (vT t) := by
  unfold m_impl_IsTensegrity vT
  simp only [tens_L1 t h2, isFI_eq _ h0 h1, Option.bind_some]
  cases (List.range' 0 t.Kinds.length).any (atB t.Kinds fun x => !(decide (0 ≤ x) && decide (x ≤ 2)))
  · cases vF t.Framework <;> rfl
  · rfl
theorem isTS_eq (t : TTensegrity) (h0 : SM t.Framework.Graph.Bars.length) (h1 : SM t.Framework.Places.length) (h2 : SM t.Kinds.length) : m_spec_IsTensegrity t = some (vT t) := by
  have e : m_spec_IsTensegrity_L1 t = m_impl_IsTensegrity_L1 t := by
    funext s
    unfold m_spec_IsTensegrity_L1 m_impl_IsTensegrity_L1
    simp only [l1In_eq, within_eq]
  unfold m_spec_IsTensegrity vT
  simp only [e, tens_L1 t h2, isFS_eq _ h0 h1, Option.bind_some]
  cases (List.range' 0 t.Kinds.length).any (atB t.Kinds fun x => !(decide (0 ≤ x) && decide (x ≤ 2)))
  · cases vF t.Framework <;> rfl
  · rfl
theorem both_IsTensegrity (t : TTensegrity) (h0 : t.Framework.Graph.Bars.length ≤ 1048576) (h1 : t.Framework.Places.length ≤ 1048576) (h2 : t.Kinds.length ≤ 1048576) : ∃ w, m_spec_IsTensegrity t = some w ∧ m_impl_IsTensegrity t = some w :=
  ⟨_, isTS_eq t (by omega) (by omega) (by omega), isTI_eq t (by omega) (by omega) (by omega)⟩
end Go.Proofs.Ytfiiebikkimjbaa
