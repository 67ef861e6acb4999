/- Plain: WithoutPoints, IsPinned, InnerPoints, PlacesFor of the program and of the reference agree. -/
import Derived.Test.YtoedmjkipecloaaPlFrame
set_option linter.unusedVariables false
set_option linter.unusedSimpArgs false
set_option linter.unnecessarySimpa false
open Go Go.Fw
namespace Go.Proofs.Ytoedmjkipecloaa

theorem set_same {α : Type} (l : List α) (k : Nat) (x y : α) : (l.set k x).set k y = l.set k y := by
  simp
/-! ### WithoutPoints -/
/-- new names: the list of new names of the points below k, and how many are left -/
def nameStep (set : List Int) (k : Nat) (a : List Int × Nat) : List Int × Nat := bif hasI set k then (a.1 ++ [-1], a.2) else (a.1 ++ [(a.2 : Int)], a.2 + 1)
def names (set : List Int) (n : Nat) : List Int × Nat := iter (nameStep set) n ([], 0)
theorem names_len (set : List Int) : ∀ n, (names set n).1.length = n ∧ (names set n).2 ≤ n
  | 0 => ⟨rfl, Nat.le_refl _⟩
  | n + 1 => by
    have h := names_len set n
    show (nameStep set n (names set n)).1.length = _ ∧ _
    have : names set (n + 1) = nameStep set n (names set n) := rfl
    rw [this]
    unfold nameStep
    cases hasI set n
    · simp only [cond_false]
      exact ⟨by simp [h.1], by omega⟩
    · simp only [cond_true]
      exact ⟨by simp [h.1], by omega⟩
def cnt8 (p : Int) : Nat := (if 0 < (if p < 8 then p else 8) then (if p < 8 then p else 8) else 0).toNat
theorem cnt8_le (p : Int) : cnt8 p ≤ 8 := by unfold cnt8; split <;> (try split) <;> omega
def nm (l : List Int) (v : Int) : Int := (l[v.toNat]?).getD 0
/-- the bar under its new names -/
def barN (l : List Int) (x : TBar) : List TBar := bif decide (0 ≤ nm l x.A) && decide (0 ≤ nm l x.B) then [⟨nm l x.A, nm l x.B⟩] else []
def barsN (g : TGraph) (l : List Int) : List TBar := pieces (fun k => match g.Bars[k]? with | some x => barN l x | none => []) g.Bars.length
theorem barN_len (l : List Int) (x : TBar) : (barN l x).length ≤ 1 := by unfold barN; cases decide (0 ≤ nm l x.A) && decide (0 ≤ nm l x.B) <;> simp
theorem barsN_len (g : TGraph) (l : List Int) : (barsN g l).length ≤ g.Bars.length := by
  have := pieces_len (f := fun k => match g.Bars[k]? with | some x => barN l x | none => []) (c := 1) g.Bars.length (fun k hk => by
    simp only [List.getElem?_eq_getElem hk]
    exact barN_len l _)
  unfold barsN
  omega
theorem cnt8_VG {g : TGraph} (h : VG g) : (cnt8 g.Points : Int) = g.Points := by
  have := h.p1
  have := h.p8
  unfold cnt8
  split <;> split <;> (try split) <;> omega
def wo (g : TGraph) (set : List Int) : TGraph := ⟨((names set (cnt8 g.Points)).2 : Int), bif vG g then barsN g (names set (cnt8 g.Points)).1 else []⟩
theorem cnt8_toNat (p : Int) : lenOk (if 0 < (if p < 8 then p else 8) then (if p < 8 then p else 8) else 0) = some () := by
  apply lenOk_ok <;> split <;> (try split) <;> omega
theorem cnt8_toNat' (p : Int) : lenOk (if 0 < (if 8 < p then 8 else p) then (if 8 < p then 8 else p) else 0) = some () := by
  apply lenOk_ok <;> split <;> (try split) <;> omega
/-! ### pinned structures -/
def dbl (g : TGraph) (k : Nat) : Bool := match g.Bars[k - 1]?, g.Bars[k]? with
  | some x, some y => eqI [x.A, x.B] [y.A, y.B]
  | _, _ => false
def dbls (g : TGraph) : Bool := (List.range' 1 (g.Bars.length - 1)).any (dbl g)
theorem has_eq {g : TGraph} (h : VG g) (v : Int) : m_impl_Graph_has g v = some (decide (0 ≤ v) && decide (v < g.Points)) := by
  have h1 := h.p1
  have h8 := h.p8
  unfold m_impl_Graph_has
  rw [within_eq, w64_small (by omega) (by omega), Option.bind_some]
  congr 2
  rw [decide_eq_decide]
  omega
theorem w64_pin {a b : Nat} (ha : SM a) (hb : SM b) : w64 (w64 ((a : Int) + w64 (2 * (b : Int))) - 3) = (a : Int) + 2 * (b : Int) - 3 := by
  rw [w64_small (n := 2 * (b : Int)) (by omega) (by omega), w64_small (n := (a : Int) + 2 * (b : Int)) (by omega) (by omega), w64_small (by omega) (by omega)]
/-! ### InnerPoints -/
/-! ### PlacesFor -/
def nseed (s : Int) : Int := bif decide (0 ≤ s) && decide (s ≤ 65535) then Int.tmod (25173 * s + 13849) 65536 else 0
def placeAt (r : Int) : TPlace := ⟨Int.tmod (Int.tmod (w64 (Int.tdiv r 16)) 25) 5, w64 (Int.tdiv (Int.tmod (w64 (Int.tdiv r 16)) 25) 5)⟩
def seedStep (_ : Nat) (a : Int × List TPlace) : Int × List TPlace := (nseed a.1, a.2 ++ [placeAt (nseed a.1)])
def seeded (g : TGraph) (s : Int) : List TPlace := (iter seedStep g.Points.toNat (s, [])).2
theorem seeded_len (s : Int) : ∀ n, (iter seedStep n (s, [])).2.length = n
  | 0 => rfl
  | n + 1 => by
    have := seeded_len s n
    show ((iter seedStep n (s, [])).2 ++ [placeAt (nseed (iter seedStep n (s, [])).1)]).length = _
    rw [List.length_append, this]
    rfl
theorem copyGraph_eq (g : TGraph) (h : SM g.Bars.length) : m_impl_copyGraph g = some g := by
  unfold m_impl_copyGraph
  rw [lim_ok (by simp; omega)]
  rfl
theorem l2Copy_eq (g : TGraph) (h : SM g.Bars.length) : m_spec_l2Copy g = some g := by
  unfold m_spec_l2Copy
  rw [lim_ok (by simp; omega)]
  rfl
def placesFor (g : TGraph) (s : Int) : TFramework × Bool := bif vG g && (decide (0 ≤ s) && decide (s ≤ 65535)) && vF ⟨g, seeded g s⟩ then (⟨g, seeded g s⟩, true) else (⟨⟨0, []⟩, []⟩, false)
end Go.Proofs.Ytoedmjkipecloaa
