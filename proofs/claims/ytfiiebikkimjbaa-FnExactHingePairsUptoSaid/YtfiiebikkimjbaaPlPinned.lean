/- Plain: WithoutPoints, IsPinned, InnerPoints, PlacesFor of the program and of the reference agree. -/
import Derived.Test.YtfiiebikkimjbaaPlFrame
set_option linter.unusedVariables false
set_option linter.unusedSimpArgs false
set_option linter.unnecessarySimpa false
open Go Go.Fw
namespace Go.Proofs.Ytfiiebikkimjbaa

theorem set_same {α : Type} (l : List α) (k : Nat) (x y : α) : (l.set k x).set k y = l.set k y := by
  simp
/-! ### WithoutPoints -/
/-- new names: the list of new names of the points below k, and how many are left -/
def nameStep (set : List Int) (k : Nat) (a : List Int × Nat) : List Int × Nat := bif hasI set k then (a.1 ++ [-1], a.2) else (a.1 ++ [(a.2 : Int)], a.2 + 1)
def names (set : List Int) (n : Nat) : List Int × Nat := iter (nameStep set) n ([], 0)
theorem names_len (set : List Int) : ∀ n, (names set n).1.length = n ∧ (names set n).2 ≤ n
  | 0 => ⟨rfl, Nat.le_refl _⟩
  | n + 1 => by
    have h := names_len set n
    show (nameStep set n (names set n)).1.length = _ ∧ _
    have : names set (n + 1) = nameStep set n (names set n) := rfl
    rw [this]
    unfold nameStep
    cases hasI set n
    · simp only [cond_false]
      exact ⟨by simp [h.1], by omega⟩
    · simp only [cond_true]
      exact ⟨by simp [h.1], by omega⟩
def cnt8 (p : Int) : Nat := (if 0 < (if p < 8 then p else 8) then (if p < 8 then p else 8) else 0).toNat
theorem cnt8_le (p : Int) : cnt8 p ≤ 8 := by unfold cnt8; split <;> (try split) <;> omega
theorem namesS_eq (set : List Int) (hs : SM set.length) (n : Nat) (hn : n ≤ 8) : loopM (m_spec_WithoutPoints_L1 set) BIG (0, 0, List.replicate n 0) = some (((names set n).2 : Int), (names set n).1) := by
  have := fold_loop (b := m_spec_WithoutPoints_L1 set) (s := (0, 0, List.replicate n 0)) (fun k (a : List Int × Nat) => ((a.2 : Int), (k : Int), a.1 ++ List.replicate (n - k) 0)) (nameStep set) (fun k a => a.1.length = k ∧ a.2 ≤ k) (fun a => ((a.2 : Int), a.1)) n ([], 0) (by omega) (by simp) ⟨rfl, Nat.le_refl _⟩ (fun k a hk ha => by
    obtain ⟨l, c⟩ := a
    obtain ⟨h1, h2⟩ := ha
    simp only at h1 h2
    have hi : ∀ x : Int, idx (l ++ List.replicate (n - k) x) (k : Int) = some x := fun x => idx_of (by rw [List.getElem?_append_right (by omega), h1, Nat.sub_self, List.getElem?_replicate, if_pos (by omega)])
    have hset := set_repl l (0 : Int) (-1) k n h1 hk
    have hi2 : idx ((l ++ [-1]) ++ List.replicate (n - (k + 1)) (0 : Int)) (k : Int) = some (-1) := idx_of (by rw [List.append_assoc, List.getElem?_append_right (by omega), h1, Nat.sub_self]; rfl)
    have hset2 : ((l ++ [-1]) ++ List.replicate (n - (k + 1)) (0 : Int)).set k (c : Int) = (l ++ [(c : Int)]) ++ List.replicate (n - (k + 1)) 0 := by
      rw [List.append_assoc, List.set_append_right _ _ (by omega), h1, Nat.sub_self]
      simp
    constructor
    · unfold m_spec_WithoutPoints_L1 nameStep
      simp only [hi, l2Has_eq set hs, Option.bind_some, Int.toNat_natCast, hset, hi2, hset2, w64_succ (show k ≤ 1099511627776 by omega), w64_succ (show c ≤ 1099511627776 by omega)]
      rw [decide_eq_true (by simp; omega), cond_true]
      cases hasI set k <;> rfl
    · unfold nameStep
      cases hasI set k
      · exact ⟨by simp [h1], by simp only [cond_false]; omega⟩
      · exact ⟨by simp [h1], by simp only [cond_true]; omega⟩) (fun a ha => by
    obtain ⟨l, c⟩ := a
    obtain ⟨h1, h2⟩ := ha
    simp only at h1 h2
    unfold m_spec_WithoutPoints_L1
    simp only [Nat.sub_self, List.replicate_zero, List.append_nil]
    rw [decide_eq_false (by omega)]
    rfl)
  exact this.1
theorem namesI_eq (g : TGraph) (set : List Int) (hs : SM set.length) : loopM (m_impl_WithoutPoints_L1 g set) BIG (0, List.replicate (if 0 < (if 8 < g.Points then 8 else g.Points) then (if 8 < g.Points then 8 else g.Points) else 0).toNat 0, 0) = some ((names set (cnt8 g.Points)).1, ((names set (cnt8 g.Points)).2 : Int)) := by
  have hc : (if 0 < (if 8 < g.Points then 8 else g.Points) then (if 8 < g.Points then 8 else g.Points) else 0).toNat = cnt8 g.Points := by
    unfold cnt8
    by_cases h1 : 8 < g.Points
    · rw [if_pos h1, if_neg (show ¬ g.Points < 8 by omega)]
    · by_cases h2 : g.Points < 8
      · rw [if_neg h1, if_pos h2]
      · rw [if_neg h1, if_neg h2, show g.Points = 8 by omega]
  have hn := cnt8_le g.Points
  rw [hc]
  generalize hnn : cnt8 g.Points = n at hn hc
  have := fold_loop (b := m_impl_WithoutPoints_L1 g set) (s := (0, List.replicate n 0, 0)) (fun k (a : List Int × Nat) => ((k : Int), a.1 ++ List.replicate (n - k) 0, (a.2 : Int))) (nameStep set) (fun k a => a.1.length = k ∧ a.2 ≤ k) (fun a => (a.1, (a.2 : Int))) n ([], 0) (by omega) (by simp) ⟨rfl, Nat.le_refl _⟩ (fun k a hk ha => by
    obtain ⟨l, c⟩ := a
    obtain ⟨h1, h2⟩ := ha
    simp only at h1 h2
    have hi : ∀ x : Int, idx (l ++ List.replicate (n - k) x) (k : Int) = some x := fun x => idx_of (by rw [List.getElem?_append_right (by omega), h1, Nat.sub_self, List.getElem?_replicate, if_pos (by omega)])
    have hset := set_repl l (0 : Int) (-1) k n h1 hk
    have hi2 : idx ((l ++ [-1]) ++ List.replicate (n - (k + 1)) (0 : Int)) (k : Int) = some (-1) := idx_of (by rw [List.append_assoc, List.getElem?_append_right (by omega), h1, Nat.sub_self]; rfl)
    have hset2 : ((l ++ [-1]) ++ List.replicate (n - (k + 1)) (0 : Int)).set k (c : Int) = (l ++ [(c : Int)]) ++ List.replicate (n - (k + 1)) 0 := by
      rw [List.append_assoc, List.set_append_right _ _ (by omega), h1, Nat.sub_self]
      simp
    constructor
    · unfold m_impl_WithoutPoints_L1 nameStep
      simp only [hi, contains_eq set hs, Option.bind_some, Int.toNat_natCast, hset, hi2, hset2, w64_succ (show k ≤ 1099511627776 by omega), w64_succ (show c ≤ 1099511627776 by omega), hc, List.length_replicate]
      rw [decide_eq_true (by omega), cond_true]
      cases hasI set k <;> rfl
    · unfold nameStep
      cases hasI set k
      · exact ⟨by simp [h1], by simp only [cond_false]; omega⟩
      · exact ⟨by simp [h1], by simp only [cond_true]; omega⟩) (fun a ha => by
    obtain ⟨l, c⟩ := a
    unfold m_impl_WithoutPoints_L1
    simp only [Nat.sub_self, List.replicate_zero, List.append_nil, hc, List.length_replicate]
    rw [decide_eq_false (by omega)]
    rfl)
  exact this.1
def nm (l : List Int) (v : Int) : Int := (l[v.toNat]?).getD 0
/-- the bar under its new names -/
def barN (l : List Int) (x : TBar) : List TBar := bif decide (0 ≤ nm l x.A) && decide (0 ≤ nm l x.B) then [⟨nm l x.A, nm l x.B⟩] else []
def barsN (g : TGraph) (l : List Int) : List TBar := pieces (fun k => match g.Bars[k]? with | some x => barN l x | none => []) g.Bars.length
theorem barN_len (l : List Int) (x : TBar) : (barN l x).length ≤ 1 := by unfold barN; cases decide (0 ≤ nm l x.A) && decide (0 ≤ nm l x.B) <;> simp
theorem barsN_len (g : TGraph) (l : List Int) : (barsN g l).length ≤ g.Bars.length := by
  have := pieces_len (f := fun k => match g.Bars[k]? with | some x => barN l x | none => []) (c := 1) g.Bars.length (fun k hk => by
    simp only [List.getElem?_eq_getElem hk]
    exact barN_len l _)
  unfold barsN
  omega
theorem cnt8_VG {g : TGraph} (h : VG g) : (cnt8 g.Points : Int) = g.Points := by
  have := h.p1
  have := h.p8
  unfold cnt8
  split <;> split <;> (try split) <;> omega
theorem withoutS_L2 {g : TGraph} (h : VG g) (hv : vG g = true) (b : Int × List Int) (hb : (b.2.length : Int) = g.Points) : loopM (m_spec_WithoutPoints_L2 g b) BIG (0, []) = some (barsN g b.2, b.1) := by
  have hl := h.len
  have := app_loop (b := m_spec_WithoutPoints_L2 g b) (s := (0, [])) (fun k out => ((k : Int), out)) (fun k => match g.Bars[k]? with | some x => barN b.2 x | none => []) (fun o => (o, b.1)) 1 g.Bars.length [] (by omega) rfl (fun k hk => by
      simp only [List.getElem?_eq_getElem hk]
      exact barN_len _ _) (fun k out hk ho => by
    have hx := List.getElem?_eq_getElem hk
    have a0 := h.a0 hx
    have ab := h.ab hx
    have bp := h.bp hx
    simp only [List.length_nil, Nat.zero_add, Nat.one_mul] at ho
    unfold m_spec_WithoutPoints_L2 barN nm
    simp only [isGraphS_eq g h.sm, hv, Option.bind_some, idx_at hk, hx, idx_in (0 : Int) a0 (show g.Bars[k].A < (b.2.length : Int) by omega), idx_in (0 : Int) (show 0 ≤ g.Bars[k].B by omega) (show g.Bars[k].B < (b.2.length : Int) by omega)]
    rw [decide_eq_true (by omega)]
    simp only [cond_true, Option.bind_some, w64_succ (show k ≤ 1099511627776 by omega), lim_ok (show out.length + [TBar.mk (b.2[g.Bars[k].A.toNat]?.getD 0) (b.2[g.Bars[k].B.toNat]?.getD 0)].length ≤ 2147483648 by simp; omega)]
    cases decide (0 ≤ b.2[g.Bars[k].A.toNat]?.getD 0)
    · simp
    · cases decide (0 ≤ b.2[g.Bars[k].B.toNat]?.getD 0) <;> simp) (fun out => by simp [m_spec_WithoutPoints_L2])
  rw [this]
  rfl
theorem withoutI_L2 {g : TGraph} (h : VG g) (b : List Int × Int) (hb : (b.1.length : Int) = g.Points) : loopM (m_impl_WithoutPoints_L2 g b) BIG (0, []) = some (b.2, barsN g b.1) := by
  have hl := h.len
  have := app_loop (b := m_impl_WithoutPoints_L2 g b) (s := (0, [])) (fun k out => ((k : Int), out)) (fun k => match g.Bars[k]? with | some x => barN b.1 x | none => []) (fun o => (b.2, o)) 1 g.Bars.length [] (by omega) rfl (fun k hk => by
      simp only [List.getElem?_eq_getElem hk]
      exact barN_len _ _) (fun k out hk ho => by
    have hx := List.getElem?_eq_getElem hk
    have a0 := h.a0 hx
    have ab := h.ab hx
    have bp := h.bp hx
    simp only [List.length_nil, Nat.zero_add, Nat.one_mul] at ho
    unfold m_impl_WithoutPoints_L2 barN nm
    simp only [Option.bind_some, idx_at hk, hx, idx_in (0 : Int) a0 (show g.Bars[k].A < (b.1.length : Int) by omega), idx_in (0 : Int) (show 0 ≤ g.Bars[k].B by omega) (show g.Bars[k].B < (b.1.length : Int) by omega)]
    rw [decide_eq_true (by omega)]
    simp only [cond_true, Option.bind_some, w64_succ (show k ≤ 1099511627776 by omega), lim_ok (show out.length + [TBar.mk (b.1[g.Bars[k].A.toNat]?.getD 0) (b.1[g.Bars[k].B.toNat]?.getD 0)].length ≤ 2147483648 by simp; omega)]
    cases decide (0 ≤ b.1[g.Bars[k].A.toNat]?.getD 0)
    · simp
    · cases decide (0 ≤ b.1[g.Bars[k].B.toNat]?.getD 0) <;> simp) (fun out => by simp [m_impl_WithoutPoints_L2])
  rw [this]
  rfl
def wo (g : TGraph) (set : List Int) : TGraph := ⟨((names set (cnt8 g.Points)).2 : Int), bif vG g then barsN g (names set (cnt8 g.Points)).1 else []⟩
theorem cnt8_toNat (p : Int) : lenOk (if 0 < (if p < 8 then p else 8) then (if p < 8 then p else 8) else 0) = some () := by
  apply lenOk_ok <;> split <;> (try split) <;> omega
theorem cnt8_toNat' (p : Int) : lenOk (if 0 < (if 8 < p then 8 else p) then (if 8 < p then 8 else p) else 0) = some () := by
  apply lenOk_ok <;> split <;> (try split) <;> omega
theorem withoutS_eq (g : TGraph) (set : List Int) (h : SM g.Bars.length) (hs : SM set.length) : m_spec_WithoutPoints g set = some (wo g set) := by
  unfold m_spec_WithoutPoints wo
  rw [cnt8_toNat, Option.bind_some]
  change (loopM (m_spec_WithoutPoints_L1 set) BIG (0, 0, List.replicate (cnt8 g.Points) 0)).bind _ = _
  rw [namesS_eq set hs _ (cnt8_le _), Option.bind_some]
  cases hv : vG g
  · have e : loopM (m_spec_WithoutPoints_L2 g (((names set (cnt8 g.Points)).2 : Int), (names set (cnt8 g.Points)).1)) BIG (0, []) = some ([], ((names set (cnt8 g.Points)).2 : Int)) := by
      refine loopM_run (fun _ => (0, [])) 0 (by omega) rfl (fun k hk => by omega) ?_
      unfold m_spec_WithoutPoints_L2
      rw [isGraphS_eq g h, hv]
      cases decide ((0 : Int) < (g.Bars.length : Int)) <;> rfl
    rw [e]
    rfl
  · have hV := vG_VG hv
    rw [withoutS_L2 hV hv _ (by rw [(names_len set _).1]; exact cnt8_VG hV)]
    rfl
theorem withoutI_eq (g : TGraph) (set : List Int) (h : SM g.Bars.length) (hs : SM set.length) : m_impl_WithoutPoints g set = some (wo g set) := by
  unfold m_impl_WithoutPoints wo
  rw [cnt8_toNat', Option.bind_some, namesI_eq g set hs, Option.bind_some, isGraphI_eq g h, Option.bind_some]
  cases hv : vG g
  · rfl
  · have hV := vG_VG hv
    rw [withoutI_L2 hV _ (by rw [(names_len set _).1]; exact cnt8_VG hV)]
    rfl
theorem both_WithoutPoints (g : TGraph) (set : List Int) (h : g.Bars.length ≤ 1048576) (hs : set.length ≤ 1048576) : ∃ w, m_spec_WithoutPoints g set = some w ∧ m_impl_WithoutPoints g set = some w ∧ SM w.Bars.length := by
  refine ⟨_, withoutS_eq g set (by omega) (by omega), withoutI_eq g set (by omega) (by omega), ?_⟩
  unfold wo
  cases vG g
  · exact Nat.zero_le _
  · have := barsN_len g (names set (cnt8 g.Points)).1
    show SM (barsN g _).length
    omega

/-! ### pinned structures -/
def dbl (g : TGraph) (k : Nat) : Bool := match g.Bars[k - 1]?, g.Bars[k]? with
  | some x, some y => eqI [x.A, x.B] [y.A, y.B]
  | _, _ => false
def dbls (g : TGraph) : Bool := (List.range' 1 (g.Bars.length - 1)).any (dbl g)
theorem has_eq {g : TGraph} (h : VG g) (v : Int) : m_impl_Graph_has g v = some (decide (0 ≤ v) && decide (v < g.Points)) := by
  have h1 := h.p1
  have h8 := h.p8
  unfold m_impl_Graph_has
  rw [within_eq, w64_small (by omega) (by omega), Option.bind_some]
  congr 2
  rw [decide_eq_decide]
  omega
theorem w64_pin {a b : Nat} (ha : SM a) (hb : SM b) : w64 (w64 ((a : Int) + w64 (2 * (b : Int))) - 3) = (a : Int) + 2 * (b : Int) - 3 := by
  rw [w64_small (n := 2 * (b : Int)) (by omega) (by omega), w64_small (n := (a : Int) + 2 * (b : Int)) (by omega) (by omega), w64_small (by omega) (by omega)]
/-! ### InnerPoints -/
/-! ### PlacesFor -/
theorem nextSeed_same (s : Int) : m_spec_NextSeed s = m_impl_NextSeed s := by
  unfold m_spec_NextSeed m_impl_NextSeed
  rw [l1In_eq, within_eq, Int.mul_comm s 25173]
def nseed (s : Int) : Int := bif decide (0 ≤ s) && decide (s ≤ 65535) then Int.tmod (25173 * s + 13849) 65536 else 0
theorem nextSeed_eq (s : Int) : m_impl_NextSeed s = some (nseed s) := by
  unfold m_impl_NextSeed nseed
  rw [within_eq, Option.bind_some]
  cases h : decide (0 ≤ s) && decide (s ≤ 65535)
  · rfl
  · simp only [Bool.and_eq_true, decide_eq_true_eq] at h
    simp only [Bool.not_true, cond_false, cond_true]
    rw [w64_small (n := 25173 * s) (by omega) (by omega), w64_small (by omega) (by omega)]
def placeAt (r : Int) : TPlace := ⟨Int.tmod (Int.tmod (w64 (Int.tdiv r 16)) 25) 5, w64 (Int.tdiv (Int.tmod (w64 (Int.tdiv r 16)) 25) 5)⟩
def seedStep (_ : Nat) (a : Int × List TPlace) : Int × List TPlace := (nseed a.1, a.2 ++ [placeAt (nseed a.1)])
def seeded (g : TGraph) (s : Int) : List TPlace := (iter seedStep g.Points.toNat (s, [])).2
theorem seeded_len (s : Int) : ∀ n, (iter seedStep n (s, [])).2.length = n
  | 0 => rfl
  | n + 1 => by
    have := seeded_len s n
    show ((iter seedStep n (s, [])).2 ++ [placeAt (nseed (iter seedStep n (s, [])).1)]).length = _
    rw [List.length_append, this]
    rfl
theorem placesI_L1 {g r : TGraph} (h : VG g) (s : Int) : loopM (m_impl_PlacesFor_L1 g r) BIG (s, 0, []) = some (r.Bars, r.Points, seeded g s) := by
  have h1 := h.p1
  have h8 := h.p8
  have := fold_loop (b := m_impl_PlacesFor_L1 g r) (s := (s, 0, [])) (fun k (a : Int × List TPlace) => (a.1, (k : Int), a.2)) seedStep (fun k a => a.2.length = k) (fun a => (r.Bars, r.Points, a.2)) g.Points.toNat (s, []) (by omega) rfl rfl (fun k a hk ha => by
    refine ⟨?_, by simp [seedStep, ha]⟩
    unfold m_impl_PlacesFor_L1 seedStep placeAt
    simp only [nextSeed_eq, Option.bind_some, w64_succ (show k ≤ 1099511627776 by omega)]
    rw [decide_eq_true (by omega), cond_true, lim_ok (by rw [ha]; simp; omega)]
    rfl) (fun a ha => by
    unfold m_impl_PlacesFor_L1
    simp only
    rw [decide_eq_false (by omega)]
    rfl)
  exact this.1
theorem placesS_L1 {g r : TGraph} (h : VG g) (s : Int) : loopM (m_spec_PlacesFor_L1 g r) BIG (s, 0, []) = some (r.Bars, seeded g s, r.Points) := by
  have h1 := h.p1
  have h8 := h.p8
  have := fold_loop (b := m_spec_PlacesFor_L1 g r) (s := (s, 0, [])) (fun k (a : Int × List TPlace) => (a.1, (k : Int), a.2)) seedStep (fun k a => a.2.length = k) (fun a => (r.Bars, a.2, r.Points)) g.Points.toNat (s, []) (by omega) rfl rfl (fun k a hk ha => by
    refine ⟨?_, by simp [seedStep, ha]⟩
    unfold m_spec_PlacesFor_L1 seedStep placeAt
    simp only [nextSeed_same, nextSeed_eq, Option.bind_some, w64_succ (show k ≤ 1099511627776 by omega)]
    rw [decide_eq_true (by omega), cond_true, lim_ok (by rw [ha]; simp; omega)]
    rfl) (fun a ha => by
    unfold m_spec_PlacesFor_L1
    simp only
    rw [decide_eq_false (by omega)]
    rfl)
  exact this.1
theorem copyGraph_eq (g : TGraph) (h : SM g.Bars.length) : m_impl_copyGraph g = some g := by
  unfold m_impl_copyGraph
  rw [lim_ok (by simp; omega)]
  rfl
theorem l2Copy_eq (g : TGraph) (h : SM g.Bars.length) : m_spec_l2Copy g = some g := by
  unfold m_spec_l2Copy
  rw [lim_ok (by simp; omega)]
  rfl
def placesFor (g : TGraph) (s : Int) : TFramework × Bool := bif vG g && (decide (0 ≤ s) && decide (s ≤ 65535)) && vF ⟨g, seeded g s⟩ then (⟨g, seeded g s⟩, true) else (⟨⟨0, []⟩, []⟩, false)
theorem placesForI_eq (g : TGraph) (s : Int) (h : SM g.Bars.length) : m_impl_PlacesFor g s = some (placesFor g s) := by
  unfold m_impl_PlacesFor placesFor
  simp only [isGraphI_eq g h, within_eq, copyGraph_eq g h, Option.bind_some]
  cases hv : vG g
  · rfl
  · have hV := vG_VG hv
    have h8 := hV.p8
    have hl := seeded_len s g.Points.toNat
    simp only [placesI_L1 hV, Option.bind_some, isFI_eq ⟨⟨g.Points, g.Bars⟩, seeded g s⟩ h (by unfold seeded SM; simp only; omega)]
    cases decide (0 ≤ s) && decide (s ≤ 65535)
    · rfl
    · cases vF ⟨g, seeded g s⟩ <;> rfl
theorem placesForS_eq (g : TGraph) (s : Int) (h : SM g.Bars.length) : m_spec_PlacesFor g s = some (placesFor g s) := by
  unfold m_spec_PlacesFor placesFor
  simp only [isGraphS_eq g h, l1In_eq, l2Copy_eq g h, Option.bind_some]
  cases hv : vG g
  · rfl
  · have hV := vG_VG hv
    have h8 := hV.p8
    have hl := seeded_len s g.Points.toNat
    simp only [placesS_L1 hV, Option.bind_some, isFS_eq ⟨⟨g.Points, g.Bars⟩, seeded g s⟩ h (by unfold seeded SM; simp only; omega)]
    cases decide (0 ≤ s) && decide (s ≤ 65535)
    · rfl
    · cases vF ⟨g, seeded g s⟩ <;> rfl
theorem both_PlacesFor (g : TGraph) (s : Int) (h : g.Bars.length ≤ 1048576) : ∃ w : TFramework × Bool, m_spec_PlacesFor g s = some w ∧ m_impl_PlacesFor g s = some w ∧ SM w.1.Graph.Bars.length ∧ SM w.1.Places.length := by
  refine ⟨_, placesForS_eq g s (by omega), placesForI_eq g s (by omega), ?_⟩
  unfold placesFor
  cases hv : vG g && (decide (0 ≤ s) && decide (s ≤ 65535)) && vF ⟨g, seeded g s⟩
  · exact ⟨Nat.zero_le _, Nat.zero_le _⟩
  · simp only [Bool.and_eq_true] at hv
    have := (vF_VF hv.2).small
    have := (vF_VF hv.2).len
    exact ⟨by show SM g.Bars.length; omega, by show SM (seeded g s).length; simp only at *; omega⟩
end Go.Proofs.Ytfiiebikkimjbaa
