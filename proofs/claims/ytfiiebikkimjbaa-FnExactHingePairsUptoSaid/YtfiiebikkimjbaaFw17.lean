/- The framework, part 17: pools. What an operation does to an own row it does to a row of a pool. -/
import Derived.Test.YtfiiebikkimjbaaFw16
set_option linter.unusedVariables false
set_option linter.unusedSimpArgs false
set_option linter.unnecessarySimpa false
namespace Go.Fw

/-! ### a value that names the row m, told of the k-th row of pool p -/
def bkC (p k m : Nat) : CV → CV
  | .loc n o l => bif Nat.beq n m then .tl p k o l else .loc n o l
  | .pl n o => bif Nat.beq n m then .tpl p k o else .pl n o
  | x => x
def bkS (p k m : Nat) : SV → SV
  | .c x => .c (bkC p k m x)
  | .agg cs => .agg (cs.map (bkC p k m))
def bkA (p k m : Nat) : AV → AV
  | .s x => .s (bkS p k m x)
  | .tup xs => .tup (xs.map (bkS p k m))
def foC (p m : Nat) : CV → Bool
  | .loc n _ _ => Nat.beq n m || ![m, p].elem n
  | .pl n _ => Nat.beq n m || ![m, p].elem n
  | x => nrC [m, p] x
def foS (p m : Nat) : SV → Bool
  | .c x => foC p m x
  | .agg cs => cs.all (foC p m)
def foA (p m : Nat) : AV → Bool
  | .s x => foS p m x
  | .tup xs => xs.all (foS p m)

section
variable {P : Program} {w : World} {R B : Nat → Prop} {g g' : Nat → GS} {X : List Nat} {p k m : Nat}

theorem RC.av {x : CV} {v : Value} (hz : nrC X x = true) (hg : ∀ n, n ∉ X → g' n = g n) (h : RC P w R B g x v) : RC P w R B g' x v := by
  refine ⟨h.1, ?_⟩
  have h2 := h.2
  cases x with
  | pv p => exact h2
  | px q cells => exact h2
  | loc n off len =>
    have hn := hg n (notin_of_elem (by simpa [nrC] using hz))
    rcases h2 with ⟨h3, h4⟩ | h3 | ⟨b, cap, cur, e, h3, h4⟩
    · exact .inl ⟨hn.trans h3, h4⟩
    · exact .inr (.inl h3)
    · exact .inr (.inr ⟨b, cap, cur, e, hn.trans h3, h4⟩)
  | pl n off =>
    obtain ⟨b, h3, h4⟩ := h2
    exact ⟨b, (hg n (notin_of_elem (by simpa [nrC] using hz))).trans h3, h4⟩
  | fn f caps =>
    obtain ⟨vs, h3, h4, h5⟩ := h2
    exact ⟨vs, h3, h4, fun k n hk => by
      obtain ⟨b, h6, h7⟩ := h5 k n hk
      have hc : caps.any X.elem = false := by simpa [nrC] using hz
      have hn : X.elem n = false := by
        have := List.any_eq_false.1 hc n (List.mem_of_getElem? hk)
        simpa using this
      exact ⟨b, (hg n (notin_of_elem hn)).trans h6, h7⟩⟩
  | mref n =>
    obtain ⟨b, h3, h4⟩ := h2
    exact ⟨b, (hg n (notin_of_elem (by simpa [nrC] using hz))).trans h3, h4⟩
  | tl q j off len =>
    have hn := hg q (notin_of_elem (by simpa [nrC] using hz))
    rcases h2 with ⟨h3, h4⟩ | h3 | ⟨b, cap, cur, e, h3, h4⟩
    · exact .inl ⟨by rw [hn]; exact h3, h4⟩
    · exact .inr (.inl h3)
    · exact .inr (.inr ⟨b, cap, cur, e, by rw [hn]; exact h3, h4⟩)
  | tpl q j off =>
    obtain ⟨b, h3, h4⟩ := h2
    exact ⟨b, by rw [hg q (notin_of_elem (by simpa [nrC] using hz))]; exact h3, h4⟩
  | junk => trivial
theorem RS.av {x : SV} {v : Value} (hz : nrS X x = true) (hg : ∀ n, n ∉ X → g' n = g n) (h : RS P w R B g x v) : RS P w R B g' x v := by
  cases x with
  | c x => exact RC.av hz hg h
  | agg cs =>
    obtain ⟨vs, h1, h2, h3⟩ := h
    exact ⟨vs, h1, h2, fun k x hk => by
      obtain ⟨u, h4, h5⟩ := h3 k x hk
      exact ⟨u, h4, h5.av (List.all_eq_true.1 hz x (List.mem_of_getElem? hk)) hg⟩⟩
theorem ROw.av {n : Nat} {e : TypeId} {els : List (List CV)} (hn : n ∉ X) (hz : els.all (·.all (nrC X)) = true) (hg : ∀ n, n ∉ X → g' n = g n) (h : ROw P w R B g n e els) : ROw P w R B g' n e els := by
  rcases h with ⟨h1, h2⟩ | ⟨b, cur, h1, h2, h3, h4, h5⟩
  · exact .inl ⟨(hg n hn).trans h1, h2⟩
  · exact .inr ⟨b, cur, (hg n hn).trans h1, h2, h3, h4, fun j k cs x hj hk => by
      obtain ⟨u, h6, h7⟩ := h5 j k cs x hj hk
      exact ⟨u, h6, h7.av (List.all_eq_true.1 (List.all_eq_true.1 hz cs (List.mem_of_getElem? hj)) x (List.mem_of_getElem? hk)) hg⟩⟩
theorem RO.av {n : Nat} {o : Ob} (hn : n ∉ X) (hz : nrO X o = true) (hg : ∀ n, n ∉ X → g' n = g n) (h : RO P w R B g n o) : RO P w R B g' n o := by
  cases o with
  | row e els => exact ROw.av hn hz hg h
  | prow e els => exact ROw.av hn (by simp [pvs, List.all_eq_true, nrC]) hg h
  | mp es =>
    obtain ⟨b, ents, clock, h1, h2⟩ := h
    exact ⟨b, ents, clock, (hg n hn).trans h1, h2⟩
  | pool e rows =>
    obtain ⟨⟨bs, h1, h2⟩, h3⟩ := h
    exact ⟨⟨bs, (hg n hn).trans h1, h2⟩, by rw [hg n hn]; exact h3⟩
  | trow e p lens => exact ROw.av hn (List.all_eq_true.2 fun cs hcs => by
      obtain ⟨j, l, rfl⟩ := mem_tcells hcs
      simpa [nrC, nrO] using hz) hg h
  | unk => trivial

/-- from the pool's row to the row by itself -/
theorem RC.fo {x : CV} {v : Value} (hz : foC p m x = true) (h1 : g' m = (g p).at k) (hg : ∀ n, n ∉ [m, p] → g' n = g n) (h : RC P w R B g (bkC p k m x) v) : RC P w R B g' x v := by
  cases x with
  | loc n off len =>
    simp only [bkC] at h
    cases hb : Nat.beq n m with
    | true =>
      rw [hb, cond_true] at h
      have := Nat.eq_of_beq_eq_true hb
      subst this
      refine ⟨h.1, ?_⟩
      rcases h.2 with ⟨h3, h4⟩ | h3 | ⟨b, cap, cur, e, h3, h4⟩
      · exact .inl ⟨h1.trans h3, h4⟩
      · exact .inr (.inl h3)
      · exact .inr (.inr ⟨b, cap, cur, e, h1.trans h3, h4⟩)
    | false =>
      rw [hb, cond_false] at h
      simp only [foC] at hz
      rw [hb, Bool.false_or] at hz
      exact RC.av (X := [m, p]) hz hg h
  | pl n off =>
    simp only [bkC] at h
    cases hb : Nat.beq n m with
    | true =>
      rw [hb, cond_true] at h
      have := Nat.eq_of_beq_eq_true hb
      subst this
      obtain ⟨b, h3, h4⟩ := h.2
      exact ⟨h.1, b, h1.trans h3, h4⟩
    | false =>
      rw [hb, cond_false] at h
      simp only [foC] at hz
      rw [hb, Bool.false_or] at hz
      exact RC.av (X := [m, p]) hz hg h
  | _ => exact RC.av (X := [m, p]) hz hg h
/-- and back -/
theorem RC.bk {x : CV} {v : Value} (hz : foC p m x = true) (h1 : (g' p).at k = g m) (hg : ∀ n, n ∉ [m, p] → g' n = g n) (h : RC P w R B g x v) : RC P w R B g' (bkC p k m x) v := by
  cases x with
  | loc n off len =>
    simp only [bkC]
    cases hb : Nat.beq n m with
    | true =>
      rw [cond_true]
      have := Nat.eq_of_beq_eq_true hb
      subst this
      refine ⟨h.1, ?_⟩
      rcases h.2 with ⟨h3, h4⟩ | h3 | ⟨b, cap, cur, e, h3, h4⟩
      · exact .inl ⟨h1.trans h3, h4⟩
      · exact .inr (.inl h3)
      · exact .inr (.inr ⟨b, cap, cur, e, h1.trans h3, h4⟩)
    | false =>
      rw [cond_false]
      simp only [foC] at hz
      rw [hb, Bool.false_or] at hz
      exact RC.av (X := [m, p]) hz hg h
  | pl n off =>
    simp only [bkC]
    cases hb : Nat.beq n m with
    | true =>
      rw [cond_true]
      have := Nat.eq_of_beq_eq_true hb
      subst this
      obtain ⟨b, h3, h4⟩ := h.2
      exact ⟨h.1, b, h1.trans h3, h4⟩
    | false =>
      rw [cond_false]
      simp only [foC] at hz
      rw [hb, Bool.false_or] at hz
      exact RC.av (X := [m, p]) hz hg h
  | _ => exact RC.av (X := [m, p]) hz hg h
theorem RS.fo {x : SV} {v : Value} (hz : foS p m x = true) (h1 : g' m = (g p).at k) (hg : ∀ n, n ∉ [m, p] → g' n = g n) (h : RS P w R B g (bkS p k m x) v) : RS P w R B g' x v := by
  cases x with
  | c x => exact RC.fo hz h1 hg h
  | agg cs =>
    obtain ⟨vs, h2, h3, h4⟩ := h
    refine ⟨vs, h2, by simpa using h3, fun j x hj => ?_⟩
    obtain ⟨u, h5, h6⟩ := h4 j (bkC p k m x) (by rw [List.getElem?_map, hj]; rfl)
    exact ⟨u, h5, h6.fo (List.all_eq_true.1 hz x (List.mem_of_getElem? hj)) h1 hg⟩
theorem RA.fo {x : AV} {v : Value} (hz : foA p m x = true) (h1 : g' m = (g p).at k) (hg : ∀ n, n ∉ [m, p] → g' n = g n) (h : RA P w R B g (bkA p k m x) v) : RA P w R B g' x v := by
  cases x with
  | s x => exact RS.fo hz h1 hg h
  | tup cs =>
    obtain ⟨vs, h2, h3, h4⟩ := h
    refine ⟨vs, h2, by simpa using h3, fun j x hj => ?_⟩
    obtain ⟨u, h5, h6⟩ := h4 j (bkS p k m x) (by rw [List.getElem?_map, hj]; rfl)
    exact ⟨u, h5, RS.fo (List.all_eq_true.1 hz x (List.mem_of_getElem? hj)) h1 hg h6⟩
theorem RS.bk {x : SV} {v : Value} (hz : foS p m x = true) (h1 : (g' p).at k = g m) (hg : ∀ n, n ∉ [m, p] → g' n = g n) (h : RS P w R B g x v) : RS P w R B g' (bkS p k m x) v := by
  cases x with
  | c x => exact RC.bk hz h1 hg h
  | agg cs =>
    obtain ⟨vs, h2, h3, h4⟩ := h
    refine ⟨vs, h2, by simpa using h3, fun j x hj => ?_⟩
    rw [List.getElem?_map] at hj
    cases hc : cs[j]? with
    | none => rw [hc] at hj; cases hj
    | some y =>
      rw [hc] at hj
      injection hj with hj
      subst hj
      obtain ⟨u, h5, h6⟩ := h4 j y hc
      exact ⟨u, h5, h6.bk (List.all_eq_true.1 hz y (List.mem_of_getElem? hc)) h1 hg⟩
theorem RA.bk {x : AV} {v : Value} (hz : foA p m x = true) (h1 : (g' p).at k = g m) (hg : ∀ n, n ∉ [m, p] → g' n = g n) (h : RA P w R B g x v) : RA P w R B g' (bkA p k m x) v := by
  cases x with
  | s x => exact RS.bk hz h1 hg h
  | tup cs =>
    obtain ⟨vs, h2, h3, h4⟩ := h
    refine ⟨vs, h2, by simpa using h3, fun j x hj => ?_⟩
    rw [List.getElem?_map] at hj
    cases hc : cs[j]? with
    | none => rw [hc] at hj; cases hj
    | some y =>
      rw [hc] at hj
      injection hj with hj
      subst hj
      obtain ⟨u, h5, h6⟩ := h4 j y hc
      exact ⟨u, h5, RS.bk (List.all_eq_true.1 hz y (List.mem_of_getElem? hc)) h1 hg h6⟩

theorem PRow.of {n : Nat} {e : TypeId} {els : List (List PV)} (h : ROw P w R B g n e (pvs els)) : PRow P w R B (g n) e els := by
  rcases h with ⟨h1, h2⟩ | ⟨b, cur, h1, h2, h3, h4, h5⟩
  · exact .inl ⟨h1, by simpa [pvs] using h2⟩
  · refine .inr ⟨b, cur, h1, h2, fun cs hcs => ?_, by simpa [pvs] using h4, fun j k cs x hj hk => ?_⟩
    · have := h3 (cs.map .pv) (List.mem_map.2 ⟨cs, hcs, rfl⟩)
      simpa using this
    · obtain ⟨u, hu, hr⟩ := h5 j k (cs.map .pv) (.pv x) (by simp [pvs, hj]) (by simp [hk])
      exact ⟨u, hu, hr.2⟩
theorem PRow.row {n : Nat} {s : GS} {e : TypeId} {els : List (List PV)} (h : PRow P w R B s e els) (hn : g n = s) : ROw P w R B g n e (pvs els) := by
  rcases h with ⟨h1, h2⟩ | ⟨b, cur, h1, h2, h3, h4, h5⟩
  · exact .inl ⟨hn.trans h1, by rw [h2]; rfl⟩
  · refine .inr ⟨b, cur, hn.trans h1, h2, fun cs hcs => ?_, by simpa [pvs] using h4, fun j k cs x hj hk => ?_⟩
    · obtain ⟨c0, hc0, rfl⟩ := List.mem_map.1 hcs
      simpa using h3 c0 hc0
    · simp only [pvs, List.getElem?_map] at hj
      cases hc : els[j]? with
      | none => rw [hc] at hj; cases hj
      | some c0 =>
        rw [hc] at hj
        injection hj with hj
        subst hj
        rw [List.getElem?_map] at hk
        cases hc2 : c0[k]? with
        | none => rw [hc2] at hk; cases hk
        | some y =>
          rw [hc2] at hk
          injection hk with hk
          subst hk
          obtain ⟨u, hu, hr⟩ := h5 j k c0 y hc hc2
          exact ⟨u, hu, hr.oneCell, hr⟩

/-! ### the state with the k-th row by itself -/
def GS.hole (s : GS) (k : Nat) : GS := match s with
  | .pool bs => .pool (bs.set k none)
  | s => s
theorem GS.hole_at {s : GS} {k j : Nat} (h : j ≠ k) : (s.hole k).at j = s.at j := by
  cases s with
  | pool bs => simp only [GS.hole, GS.at, List.getElem?_set_ne (fun e => h e.symm)]
  | _ => rfl
theorem GS.hole_hole {s : GS} {k b : Nat} (h : (s.hole k).at k = .blk b) : False := by
  cases s with
  | pool bs =>
    simp only [GS.hole, GS.at, List.getElem?_set] at h
    split at h
    · rename_i o b2 hb
      by_cases hl : k < bs.length <;> simp [hl] at hb
    · cases h
    · cases h
  | _ => cases h
theorem GS.mem_at {s : GS} {bs : List (Option Nat)} (hs : s = .pool bs) {b : Nat} (h : s.has b) : ∃ j, s.at j = .blk b := by
  subst hs
  obtain ⟨j, hj⟩ := List.mem_iff_getElem?.1 (show some b ∈ bs from h)
  exact ⟨j, by simp only [GS.at, hj]⟩
theorem GS.hole_has {s : GS} {bs : List (Option Nat)} (hs : s = .pool bs) {k b : Nat} (h : (s.hole k).has b) : s.has b ∧ ∃ j, j ≠ k ∧ s.at j = .blk b := by
  obtain ⟨j, hj⟩ := GS.mem_at (s := s.hole k) (bs := bs.set k none) (by rw [hs]; rfl) h
  have hne : j ≠ k := fun e => by rw [e] at hj; exact GS.hole_hole hj
  rw [GS.hole_at hne] at hj
  exact ⟨GS.has_at hj, j, hne, hj⟩
theorem GS.has_hole {s : GS} {bs : List (Option Nat)} (hs : s = .pool bs) {k b : Nat} (h : s.has b) : (s.hole k).has b ∨ s.at k = .blk b := by
  obtain ⟨j, hj⟩ := GS.mem_at hs h
  by_cases hk : j = k
  · subst hk; exact .inr hj
  · left
    rw [← GS.hole_at (k := k) hk] at hj
    exact GS.has_at hj
def foG (p k m : Nat) (g : Nat → GS) : Nat → GS := fun n => if n = m then (g p).at k else if n = p then (g p).hole k else g n
theorem foG_m : foG p k m g m = (g p).at k := if_pos rfl
theorem foG_p (h : p ≠ m) : foG p k m g p = (g p).hole k := by unfold foG; rw [if_neg h, if_pos rfl]
theorem foG_o {n : Nat} (h : n ∉ [m, p]) : foG p k m g n = g n := by
  unfold foG
  rw [if_neg fun e => h (by simp [e]), if_neg fun e => h (by simp [e])]
/-- the pool's k-th row is a block or nothing: what it has -/
theorem GS.at_has {s : GS} {k b : Nat} (h : (s.at k).has b) : s.at k = .blk b := by
  cases s with
  | pool bs =>
    simp only [GS.at] at h ⊢
    cases hb : bs[k]? with
    | none => rw [hb] at h; exact h.elim
    | some o =>
      rw [hb] at h
      cases o with
      | none => exact h.elim
      | some c =>
        have : b = c := h
        rw [this]
  | _ => exact h.elim
theorem GS.at_at {s : GS} {k j b : Nat} (h : (s.at k).at j = .blk b) : False := by
  cases s with
  | pool bs =>
    simp only [GS.at] at h
    cases hb : bs[k]? with
    | none => rw [hb] at h; cases h
    | some o => rw [hb] at h; cases o <;> cases h
  | _ => cases h

theorem foG_has (hw : WF R B g w) {bs : List (Option Nat)} (hs : g p = .pool bs) (hp : p ≠ m) {n b : Nat} (h : (foG p k m g n).has b) : (n = m ∧ (g p).at k = .blk b) ∨ (n = p ∧ ∃ j, j ≠ k ∧ (g p).at j = .blk b) ∨ (n ∉ [m, p] ∧ (g n).has b) := by
  by_cases h1 : n = m
  · subst h1
    rw [foG_m] at h
    exact .inl ⟨rfl, GS.at_has h⟩
  · by_cases h2 : n = p
    · subst h2
      rw [foG_p hp] at h
      exact .inr (.inl ⟨rfl, (GS.hole_has hs h).2⟩)
    · have : n ∉ [m, p] := by simp [h1, h2]
      rw [foG_o this] at h
      exact .inr (.inr ⟨this, h⟩)
theorem foG_wf (hw : WF R B g w) {bs : List (Option Nat)} (hs : g p = .pool bs) (hp : p ≠ m) : WF R B (foG p k m g) w := by
  refine ⟨hw.rb, hw.lt, fun n b h => ?_, fun n j b h1 h2 => ?_, fun n i j b h1 h2 => ?_⟩
  · rcases foG_has hw hs hp h with ⟨_, h⟩ | ⟨_, j, _, h⟩ | ⟨_, h⟩
    · exact hw.ownH p b (GS.has_at h)
    · exact hw.ownH p b (GS.has_at h)
    · exact hw.ownH n b h
  · rcases foG_has hw hs hp h1 with ⟨rfl, h3⟩ | ⟨rfl, i, hi, h3⟩ | ⟨hn, h3⟩ <;> rcases foG_has hw hs hp h2 with ⟨rfl, h4⟩ | ⟨rfl, i2, hi2, h4⟩ | ⟨hj, h4⟩
    · rfl
    · exact absurd (hw.nd _ _ _ b h4 h3) hi2
    · have := hw.injH p j b (GS.has_at h3) h4
      subst this
      exact absurd (by simp) hj
    · exact absurd (hw.nd _ _ _ b h3 h4) hi
    · rfl
    · have := hw.injH n j b (GS.has_at h3) h4
      subst this
      exact absurd (by simp) hj
    · have := hw.injH p n b (GS.has_at h4) h3
      subst this
      exact absurd (by simp) hn
    · have := hw.injH j n b (GS.has_at h4) h3
      subst this
      exact absurd (by simp) hn
    · exact hw.injH n j b h3 h4
  · by_cases e1 : n = m
    · subst e1
      rw [foG_m] at h1
      exact (GS.at_at h1).elim
    · by_cases e2 : n = p
      · subst e2
        rw [foG_p hp] at h1 h2
        by_cases hi : i = k
        · subst hi; exact (GS.hole_hole h1).elim
        · by_cases hj : j = k
          · subst hj; exact (GS.hole_hole h2).elim
          · rw [GS.hole_at hi] at h1
            rw [GS.hole_at hj] at h2
            exact hw.nd _ _ _ b h1 h2
      · have : n ∉ [m, p] := by simp [e1, e2]
        rw [foG_o this] at h1 h2
        exact hw.nd _ _ _ b h1 h2
/-- names after the step -/
def unG (p m : Nat) (g g' : Nat → GS) : Nat → GS := fun n => if n = m then .dead else if n = p then g p else g' n
theorem unG_m : unG p m g g' m = .dead := if_pos rfl
theorem unG_p (h : p ≠ m) : unG p m g g' p = g p := by unfold unG; rw [if_neg h, if_pos rfl]
theorem unG_o {n : Nat} (h : n ∉ [m, p]) : unG p m g g' n = g' n := by
  unfold unG
  rw [if_neg fun e => h (by simp [e]), if_neg fun e => h (by simp [e])]
def swN (m p n : Nat) : Nat := bif Nat.beq n m then p else n
theorem unG_adv (hw : WF R B g w) {bs : List (Option Nat)} (hs : g p = .pool bs) (hp : p ≠ m) {W X : List Nat} {R' B' : Nat → Prop} {w' : World} (had : Adv R B (foG p k m g) w W X R' B' g' w') (hpW : p ∉ W) (hpX : p ∉ X) (hmX : m ∉ X) :
    Adv R B g w (W.map (swN m p)) (m :: X) R' B' (unG p m g g') w' := by
  have hgm : g' m = (g p).at k := (had.names m hmX).trans foG_m
  have hgp : g' p = (g p).hole k := (had.names p hpX).trans (foG_p hp)
  have hcase : ∀ n b, (unG p m g g' n).has b → (n = p ∧ ((g' p).has b ∨ (g' m).has b)) ∨ (n ∉ [m, p] ∧ (g' n).has b) := fun n b h => by
    by_cases e1 : n = m
    · subst e1; rw [unG_m] at h; exact h.elim
    · by_cases e2 : n = p
      · subst e2
        rw [unG_p hp] at h
        refine .inl ⟨rfl, ?_⟩
        rcases GS.has_hole (k := k) hs h with h | h
        · exact .inl (by rw [hgp]; exact h)
        · exact .inr (by rw [hgm, h]; rfl)
      · have : n ∉ [m, p] := by simp [e1, e2]
        rw [unG_o this] at h
        exact .inr ⟨this, h⟩
  have hW : ∀ n ∈ W, ∀ b, (foG p k m g n).has b → (g (swN m p n)).has b := fun n hn b h => by
    rcases foG_has hw hs hp h with ⟨rfl, h'⟩ | ⟨rfl, _⟩ | ⟨hnn, h'⟩
    · have : swN n p n = p := by unfold swN; rw [Nat.beq_refl]; rfl
      rw [this]
      exact GS.has_at h'
    · exact absurd hn hpW
    · have : swN m p n = n := by
        unfold swN
        have : Nat.beq n m = false := by
          cases hb : Nat.beq n m with
          | false => rfl
          | true => exact absurd (by simp [Nat.eq_of_beq_eq_true hb]) hnn
        rw [this]; rfl
      rw [this]
      exact h'
  have hWr : ∀ n ∈ W.map (swN m p), n ∉ m :: X → ∀ b, (g n).has b → ∃ j, j ∉ X ∧ (foG p k m g j).has b := fun n hn hnX b hb => by
    obtain ⟨j, hj, rfl⟩ := List.mem_map.1 hn
    by_cases e : swN m p j = p
    · rw [e] at hb
      rcases GS.has_hole (k := k) hs hb with h | h
      · exact ⟨p, hpX, by rw [foG_p hp]; exact h⟩
      · exact ⟨m, hmX, by rw [foG_m, h]; rfl⟩
    · have ej : swN m p j = j := by
        unfold swN at e ⊢
        cases hb2 : Nat.beq j m with
        | false => rfl
        | true => rw [hb2] at e; exact absurd rfl e
      rw [ej] at hb hnX e
      have hnn : j ∉ [m, p] := by
        simp only [List.mem_cons, List.not_mem_nil, or_false, not_or] at hnX ⊢
        exact ⟨hnX.1, e⟩
      exact ⟨j, fun h => hnX (List.mem_cons_of_mem _ h), by rw [foG_o hnn]; exact hb⟩
  have hfw := foG_wf (k := k) hw hs hp
  refine ⟨⟨had.wf.rb, had.wf.lt, fun n b h => ?_, fun n j b h1 h2 => ?_, fun n i j b h1 h2 => ?_⟩, had.r, had.b, had.os, had.tape, had.output, had.size, fun b hb hnW => had.heap b hb fun n hn h => hnW _ (List.mem_map.2 ⟨n, hn, rfl⟩) (hW n hn b h), fun n hn => ?_, fun n hn b hb => ?_, fun n hnW hnX b cur e hg hh => ?_⟩
  · rcases hcase n b h with ⟨_, h | h⟩ | ⟨_, h⟩ <;> exact had.wf.ownH _ b h
  · have key : ∀ n j, n = p → j ∉ [m, p] → ((g' p).has b ∨ (g' m).has b) → (g' j).has b → False := fun n j _ hj h1 h2 => by
      rcases h1 with h1 | h1
      · have := had.wf.injH _ _ b h1 h2; subst this; exact hj (by simp)
      · have := had.wf.injH _ _ b h1 h2; subst this; exact hj (by simp)
    rcases hcase n b h1 with ⟨e1, h3⟩ | ⟨hn, h3⟩ <;> rcases hcase j b h2 with ⟨e2, h4⟩ | ⟨hj, h4⟩
    · rw [e1, e2]
    · exact (key n j e1 hj h3 h4).elim
    · exact (key j n e2 hn h4 h3).elim
    · exact had.wf.injH n j b h3 h4
  · by_cases e1 : n = m
    · subst e1; rw [unG_m] at h1; cases h1
    · by_cases e2 : n = p
      · subst e2
        rw [unG_p hp] at h1 h2
        exact hw.nd _ _ _ b h1 h2
      · have : n ∉ [m, p] := by simp [e1, e2]
        rw [unG_o this] at h1 h2
        exact had.wf.nd _ _ _ b h1 h2
  · simp only [List.mem_cons, not_or] at hn
    by_cases e2 : n = p
    · subst e2; exact unG_p hp
    · have : n ∉ [m, p] := by simp [hn.1, e2]
      rw [unG_o this, had.names n hn.2, foG_o this]
  · rcases hcase n b hb with ⟨e, _⟩ | ⟨hnn, h⟩
    · subst e
      rcases List.mem_cons.1 hn with h | h
      · exact absurd h hp
      · exact absurd h hpX
    · have hnX : n ∈ X := by
        rcases List.mem_cons.1 hn with h | h
        · subst h; exact absurd (by simp) hnn
        · exact h
      rcases had.fresh n hnX b h with h | ⟨j, hj, h⟩
      · exact .inl h
      · exact .inr ⟨_, List.mem_map.2 ⟨j, hj, rfl⟩, hW j hj b h⟩
  · obtain ⟨j, hjX, hj⟩ := hWr n hnW hnX b hg
    exact had.ownH' hfw hjX hj hh

/-- side conditions of a focus -/
def focB (p m : Nat) (ins : List (Operand × AV)) (us0 : Mem) (v : AV) (df0 : Mem) (W X : List Nat) : Bool :=
  !Nat.beq p m && ins.all (fun q => foA p m q.2) && us0.all (fun q => ![m, p].elem q.1 && nrO [m, p] q.2) && foA p m v && df0.all (fun q => ![m, p].elem q.1 && nrO [m, p] q.2) && !W.elem p && !X.elem p && !X.elem m

theorem LT.focus {o : Oper} {ins : List (Operand × AV)} {us0 df0 : Mem} {v : AV} {W X : List Nat} {e : TypeId} {els els' : List (List PV)} {rows : List (List (List PV))}
    (h : LT P o ins ((m, .prow e els) :: us0) v ((m, .prow e els') :: df0) W X) (hk : rows[k]? = some els) (hc : focB p m ins us0 v df0 W X = true) :
    LT P o (ins.map fun q => (q.1, bkA p k m q.2)) ((p, .pool e rows) :: us0) (bkA p k m v) ((p, .pool e (rows.set k els')) :: df0) (W.map (swN m p)) (m :: X) := by
  simp only [focB, Bool.and_eq_true, Bool.not_eq_true'] at hc
  obtain ⟨⟨⟨⟨⟨⟨⟨hp, hins⟩, hus⟩, hv⟩, hdf⟩, hW⟩, hXp⟩, hXm⟩ := hc
  have hp := Nat.ne_of_beq_eq_false hp
  have hpW := notin_of_elem hW
  have hpX := notin_of_elem hXp
  have hmX := notin_of_elem hXm
  intro R B g w a hw hi hu K Q hK
  obtain ⟨⟨bs, hs, hbl⟩, hrows⟩ := hu (p, .pool e rows) List.mem_cons_self
  refine h R B (foG p k m g) w a (foG_wf hw hs hp) (fun q hq => ?_) (fun q hq => ?_) K Q fun u R' B' g' w' had hR hv' hob => ?_
  · exact RA.fo (List.all_eq_true.1 hins q hq) foG_m (fun n hn => foG_o hn) (hi (q.1, bkA p k m q.2) (List.mem_map.2 ⟨q, hq, rfl⟩))
  · cases hq with
    | head => exact (hrows k els hk).row foG_m
    | tail _ hq =>
      have h1 := List.all_eq_true.1 hus q hq
      simp only [Bool.and_eq_true, Bool.not_eq_true'] at h1
      exact RO.av (notin_of_elem h1.1) h1.2 (fun n hn => foG_o hn) (hu q (List.mem_cons_of_mem _ hq))
  · have hgm : g' m = (g p).at k := (had.names m hmX).trans foG_m
    have hadv := unG_adv hw hs hp had hpW hpX hmX
    refine hK u R' B' _ w' hadv hR (fun hd => RA.bk hv (by rw [unG_p hp]; exact hgm.symm) (fun n hn => unG_o hn) (hv' hd)) fun q hq => ?_
    cases hq with
    | head =>
      refine ⟨⟨bs, (unG_p hp).trans hs, by simpa using hbl⟩, fun j els2 hj => ?_⟩
      show PRow P w' R' B' ((unG p m g g' p).at j) e els2
      rw [unG_p hp]
      rw [List.getElem?_set] at hj
      by_cases hjk : k = j
      · subst hjk
        rw [if_pos rfl] at hj
        split at hj
        · injection hj with hj
          subst hj
          have := PRow.of (hob (m, .prow e els') List.mem_cons_self)
          rw [← hgm]
          exact this
        · cases hj
      · rw [if_neg hjk] at hj
        rcases hrows j els2 hj with h1 | ⟨b, cur, h1, h2, h3, h4, h5⟩
        · exact .inl h1
        · have hb : (foG p k m g p).has b := by
            rw [foG_p hp]
            exact GS.has_at (k := j) (by rw [GS.hole_at (fun e => hjk e.symm)]; exact h1)
          refine .inr ⟨b, cur, h1, (had.ownH (foG_wf hw hs hp) hpW hb).trans h2, h3, h4, fun i k' cs x hi hk' => ?_⟩
          obtain ⟨u, hu1, hu2⟩ := h5 i k' cs x hi hk'
          exact ⟨u, hu1, had.pv (foG_wf hw hs hp) hu2⟩
    | tail _ hq =>
      have h1 := List.all_eq_true.1 hdf q hq
      simp only [Bool.and_eq_true, Bool.not_eq_true'] at h1
      exact RO.av (notin_of_elem h1.1) h1.2 (fun n hn => unG_o hn) (hob q (List.mem_cons_of_mem _ hq))
/-- an operation that only reads the row -/
theorem LT.focusR {o : Oper} {ins : List (Operand × AV)} {us0 df0 : Mem} {v : AV} {W X : List Nat} {e : TypeId} {els : List (List PV)} {rows : List (List (List PV))}
    (h : LT P o ins ((m, .prow e els) :: us0) v df0 W X) (hk : rows[k]? = some els) (hc : focB p m ins us0 v df0 W X = true) :
    LT P o (ins.map fun q => (q.1, bkA p k m q.2)) ((p, .pool e rows) :: us0) (bkA p k m v) df0 (W.map (swN m p)) (m :: X) := by
  simp only [focB, Bool.and_eq_true, Bool.not_eq_true'] at hc
  obtain ⟨⟨⟨⟨⟨⟨⟨hp, hins⟩, hus⟩, hv⟩, hdf⟩, hW⟩, hXp⟩, hXm⟩ := hc
  have hp := Nat.ne_of_beq_eq_false hp
  have hpW := notin_of_elem hW
  have hpX := notin_of_elem hXp
  have hmX := notin_of_elem hXm
  intro R B g w a hw hi hu K Q hK
  obtain ⟨⟨bs, hs, hbl⟩, hrows⟩ := hu (p, .pool e rows) List.mem_cons_self
  refine h R B (foG p k m g) w a (foG_wf hw hs hp) (fun q hq => ?_) (fun q hq => ?_) K Q fun u R' B' g' w' had hR hv' hob => ?_
  · exact RA.fo (List.all_eq_true.1 hins q hq) foG_m (fun n hn => foG_o hn) (hi (q.1, bkA p k m q.2) (List.mem_map.2 ⟨q, hq, rfl⟩))
  · cases hq with
    | head => exact (hrows k els hk).row foG_m
    | tail _ hq =>
      have h1 := List.all_eq_true.1 hus q hq
      simp only [Bool.and_eq_true, Bool.not_eq_true'] at h1
      exact RO.av (notin_of_elem h1.1) h1.2 (fun n hn => foG_o hn) (hu q (List.mem_cons_of_mem _ hq))
  · have hgm : g' m = (g p).at k := (had.names m hmX).trans foG_m
    have hadv := unG_adv hw hs hp had hpW hpX hmX
    refine hK u R' B' _ w' hadv hR (fun hd => RA.bk hv (by rw [unG_p hp]; exact hgm.symm) (fun n hn => unG_o hn) (hv' hd)) fun q hq => ?_
    have h1 := List.all_eq_true.1 hdf q hq
    simp only [Bool.and_eq_true, Bool.not_eq_true'] at h1
    exact RO.av (notin_of_elem h1.1) h1.2 (fun n hn => unG_o hn) (hob q hq)
end
end Go.Fw
