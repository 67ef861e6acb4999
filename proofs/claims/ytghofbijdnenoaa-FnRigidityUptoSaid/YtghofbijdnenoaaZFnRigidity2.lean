/- Parts of a proof that a law of the program holds: what the program computes, and why that is right. -/
import Derived.Test.YtghofbijdnenoaaZFnRigidity1
section
set_option linter.unusedVariables false
set_option linter.unusedSimpArgs false
set_option linter.unnecessarySimpa false
namespace Go.Fw
def bkC (p k m : Nat) : CV → CV
  | .loc n o l => bif Nat.beq n m then .tl p k o l else .loc n o l
  | .pl n o => bif Nat.beq n m then .tpl p k o else .pl n o
  | x => x
def bkS (p k m : Nat) : SV → SV
  | .c x => .c (bkC p k m x)
  | .agg cs => .agg (cs.map (bkC p k m))
def bkA (p k m : Nat) : AV → AV
  | .s x => .s (bkS p k m x)
  | .tup xs => .tup (xs.map (bkS p k m))
def foC (p m : Nat) : CV → Bool
  | .loc n _ _ => Nat.beq n m || ![m, p].elem n
  | .pl n _ => Nat.beq n m || ![m, p].elem n
  | x => nrC [m, p] x
def foS (p m : Nat) : SV → Bool
  | .c x => foC p m x
  | .agg cs => cs.all (foC p m)
def foA (p m : Nat) : AV → Bool
  | .s x => foS p m x
  | .tup xs => xs.all (foS p m)
section
variable {P : Program} {w : World} {R B : Nat → Prop} {g g' : Nat → GS} {X : List Nat} {p k m : Nat}
theorem RC.av {x : CV} {v : Value} (hz : nrC X x = true) (hg : ∀ n, n ∉ X → g' n = g n) (h : RC P w R B g x v) : RC P w R B g' x v := by
  refine ⟨h.1, ?_⟩
  have h2 := h.2
  cases x with
  | pv p => exact h2
  | px q cells => exact h2
  | loc n off len =>
    have hn := hg n (notin_of_elem (by simpa [nrC] using hz))
    rcases h2 with ⟨h3, h4⟩ | h3 | ⟨b, cap, cur, e, h3, h4⟩
    · exact .inl ⟨hn.trans h3, h4⟩
    · exact .inr (.inl h3)
    · exact .inr (.inr ⟨b, cap, cur, e, hn.trans h3, h4⟩)
  | pl n off =>
    obtain ⟨b, h3, h4⟩ := h2
    exact ⟨b, (hg n (notin_of_elem (by simpa [nrC] using hz))).trans h3, h4⟩
  | fn f caps =>
    obtain ⟨vs, h3, h4, h5⟩ := h2
    exact ⟨vs, h3, h4, fun k n hk => by
      obtain ⟨b, h6, h7⟩ := h5 k n hk
      have hc : caps.any X.elem = false := by simpa [nrC] using hz
      have hn : X.elem n = false := by
        have := List.any_eq_false.1 hc n (List.mem_of_getElem? hk)
        simpa using this
      exact ⟨b, (hg n (notin_of_elem hn)).trans h6, h7⟩⟩
  | mref n =>
    obtain ⟨b, h3, h4⟩ := h2
    exact ⟨b, (hg n (notin_of_elem (by simpa [nrC] using hz))).trans h3, h4⟩
  | tl q j off len =>
    have hn := hg q (notin_of_elem (by simpa [nrC] using hz))
    rcases h2 with ⟨h3, h4⟩ | h3 | ⟨b, cap, cur, e, h3, h4⟩
    · exact .inl ⟨by rw [hn]; exact h3, h4⟩
    · exact .inr (.inl h3)
    · exact .inr (.inr ⟨b, cap, cur, e, by rw [hn]; exact h3, h4⟩)
  | tpl q j off =>
    obtain ⟨b, h3, h4⟩ := h2
    exact ⟨b, by rw [hg q (notin_of_elem (by simpa [nrC] using hz))]; exact h3, h4⟩
  | junk => trivial
theorem RS.av {x : SV} {v : Value} (hz : nrS X x = true) (hg : ∀ n, n ∉ X → g' n = g n) (h : RS P w R B g x v) : RS P w R B g' x v := by
  cases x with
  | c x => exact RC.av hz hg h
  | agg cs =>
    obtain ⟨vs, h1, h2, h3⟩ := h
    exact ⟨vs, h1, h2, fun k x hk => by
      obtain ⟨u, h4, h5⟩ := h3 k x hk
      exact ⟨u, h4, h5.av (List.all_eq_true.1 hz x (List.mem_of_getElem? hk)) hg⟩⟩
theorem ROw.av {n : Nat} {e : TypeId} {els : List (List CV)} (hn : n ∉ X) (hz : els.all (·.all (nrC X)) = true) (hg : ∀ n, n ∉ X → g' n = g n) (h : ROw P w R B g n e els) : ROw P w R B g' n e els := by
  rcases h with ⟨h1, h2⟩ | ⟨b, cur, h1, h2, h3, h4, h5⟩
  · exact .inl ⟨(hg n hn).trans h1, h2⟩
  · exact .inr ⟨b, cur, (hg n hn).trans h1, h2, h3, h4, fun j k cs x hj hk => by
      obtain ⟨u, h6, h7⟩ := h5 j k cs x hj hk
      exact ⟨u, h6, h7.av (List.all_eq_true.1 (List.all_eq_true.1 hz cs (List.mem_of_getElem? hj)) x (List.mem_of_getElem? hk)) hg⟩⟩
theorem RO.av {n : Nat} {o : Ob} (hn : n ∉ X) (hz : nrO X o = true) (hg : ∀ n, n ∉ X → g' n = g n) (h : RO P w R B g n o) : RO P w R B g' n o := by
  cases o with
  | row e els => exact ROw.av hn hz hg h
  | prow e els => exact ROw.av hn (by simp [pvs, List.all_eq_true, nrC]) hg h
  | mp es =>
    obtain ⟨b, ents, clock, h1, h2⟩ := h
    exact ⟨b, ents, clock, (hg n hn).trans h1, h2⟩
  | pool e rows =>
    obtain ⟨⟨bs, h1, h2⟩, h3⟩ := h
    exact ⟨⟨bs, (hg n hn).trans h1, h2⟩, by rw [hg n hn]; exact h3⟩
  | trow e p lens => exact ROw.av hn (List.all_eq_true.2 fun cs hcs => by
      obtain ⟨j, l, rfl⟩ := mem_tcells hcs
      simpa [nrC, nrO] using hz) hg h
  | unk => trivial
theorem RC.fo {x : CV} {v : Value} (hz : foC p m x = true) (h1 : g' m = (g p).at k) (hg : ∀ n, n ∉ [m, p] → g' n = g n) (h : RC P w R B g (bkC p k m x) v) : RC P w R B g' x v := by
  cases x with
  | loc n off len =>
    simp only [bkC] at h
    cases hb : Nat.beq n m with
    | true =>
      rw [hb, cond_true] at h
      have := Nat.eq_of_beq_eq_true hb
      subst this
      refine ⟨h.1, ?_⟩
      rcases h.2 with ⟨h3, h4⟩ | h3 | ⟨b, cap, cur, e, h3, h4⟩
      · exact .inl ⟨h1.trans h3, h4⟩
      · exact .inr (.inl h3)
      · exact .inr (.inr ⟨b, cap, cur, e, h1.trans h3, h4⟩)
    | false =>
      rw [hb, cond_false] at h
      simp only [foC] at hz
      rw [hb, Bool.false_or] at hz
      exact RC.av (X := [m, p]) hz hg h
  | pl n off =>
    simp only [bkC] at h
    cases hb : Nat.beq n m with
    | true =>
      rw [hb, cond_true] at h
      have := Nat.eq_of_beq_eq_true hb
      subst this
      obtain ⟨b, h3, h4⟩ := h.2
      exact ⟨h.1, b, h1.trans h3, h4⟩
    | false =>
      rw [hb, cond_false] at h
      simp only [foC] at hz
      rw [hb, Bool.false_or] at hz
      exact RC.av (X := [m, p]) hz hg h
  | _ => exact RC.av (X := [m, p]) hz hg h
theorem RC.bk {x : CV} {v : Value} (hz : foC p m x = true) (h1 : (g' p).at k = g m) (hg : ∀ n, n ∉ [m, p] → g' n = g n) (h : RC P w R B g x v) : RC P w R B g' (bkC p k m x) v := by
  cases x with
  | loc n off len =>
    simp only [bkC]
    cases hb : Nat.beq n m with
    | true =>
      rw [cond_true]
      have := Nat.eq_of_beq_eq_true hb
      subst this
      refine ⟨h.1, ?_⟩
      rcases h.2 with ⟨h3, h4⟩ | h3 | ⟨b, cap, cur, e, h3, h4⟩
      · exact .inl ⟨h1.trans h3, h4⟩
      · exact .inr (.inl h3)
      · exact .inr (.inr ⟨b, cap, cur, e, h1.trans h3, h4⟩)
    | false =>
      rw [cond_false]
      simp only [foC] at hz
      rw [hb, Bool.false_or] at hz
      exact RC.av (X := [m, p]) hz hg h
  | pl n off =>
    simp only [bkC]
    cases hb : Nat.beq n m with
    | true =>
      rw [cond_true]
      have := Nat.eq_of_beq_eq_true hb
      subst this
      obtain ⟨b, h3, h4⟩ := h.2
      exact ⟨h.1, b, h1.trans h3, h4⟩
    | false =>
      rw [cond_false]
      simp only [foC] at hz
      rw [hb, Bool.false_or] at hz
      exact RC.av (X := [m, p]) hz hg h
  | _ => exact RC.av (X := [m, p]) hz hg h
theorem RS.fo {x : SV} {v : Value} (hz : foS p m x = true) (h1 : g' m = (g p).at k) (hg : ∀ n, n ∉ [m, p] → g' n = g n) (h : RS P w R B g (bkS p k m x) v) : RS P w R B g' x v := by
  cases x with
  | c x => exact RC.fo hz h1 hg h
  | agg cs =>
    obtain ⟨vs, h2, h3, h4⟩ := h
    refine ⟨vs, h2, by simpa using h3, fun j x hj => ?_⟩
    obtain ⟨u, h5, h6⟩ := h4 j (bkC p k m x) (by rw [List.getElem?_map, hj]; rfl)
    exact ⟨u, h5, h6.fo (List.all_eq_true.1 hz x (List.mem_of_getElem? hj)) h1 hg⟩
theorem RA.fo {x : AV} {v : Value} (hz : foA p m x = true) (h1 : g' m = (g p).at k) (hg : ∀ n, n ∉ [m, p] → g' n = g n) (h : RA P w R B g (bkA p k m x) v) : RA P w R B g' x v := by
  cases x with
  | s x => exact RS.fo hz h1 hg h
  | tup cs =>
    obtain ⟨vs, h2, h3, h4⟩ := h
    refine ⟨vs, h2, by simpa using h3, fun j x hj => ?_⟩
    obtain ⟨u, h5, h6⟩ := h4 j (bkS p k m x) (by rw [List.getElem?_map, hj]; rfl)
    exact ⟨u, h5, RS.fo (List.all_eq_true.1 hz x (List.mem_of_getElem? hj)) h1 hg h6⟩
theorem RS.bk {x : SV} {v : Value} (hz : foS p m x = true) (h1 : (g' p).at k = g m) (hg : ∀ n, n ∉ [m, p] → g' n = g n) (h : RS P w R B g x v) : RS P w R B g' (bkS p k m x) v := by
  cases x with
  | c x => exact RC.bk hz h1 hg h
  | agg cs =>
    obtain ⟨vs, h2, h3, h4⟩ := h
    refine ⟨vs, h2, by simpa using h3, fun j x hj => ?_⟩
    rw [List.getElem?_map] at hj
    cases hc : cs[j]? with
    | none => rw [hc] at hj; cases hj
    | some y =>
      rw [hc] at hj
      injection hj with hj
      subst hj
      obtain ⟨u, h5, h6⟩ := h4 j y hc
      exact ⟨u, h5, h6.bk (List.all_eq_true.1 hz y (List.mem_of_getElem? hc)) h1 hg⟩
theorem RA.bk {x : AV} {v : Value} (hz : foA p m x = true) (h1 : (g' p).at k = g m) (hg : ∀ n, n ∉ [m, p] → g' n = g n) (h : RA P w R B g x v) : RA P w R B g' (bkA p k m x) v := by
  cases x with
  | s x => exact RS.bk hz h1 hg h
  | tup cs =>
    obtain ⟨vs, h2, h3, h4⟩ := h
    refine ⟨vs, h2, by simpa using h3, fun j x hj => ?_⟩
    rw [List.getElem?_map] at hj
    cases hc : cs[j]? with
    | none => rw [hc] at hj; cases hj
    | some y =>
      rw [hc] at hj
      injection hj with hj
      subst hj
      obtain ⟨u, h5, h6⟩ := h4 j y hc
      exact ⟨u, h5, RS.bk (List.all_eq_true.1 hz y (List.mem_of_getElem? hc)) h1 hg h6⟩
theorem PRow.of {n : Nat} {e : TypeId} {els : List (List PV)} (h : ROw P w R B g n e (pvs els)) : PRow P w R B (g n) e els := by
  rcases h with ⟨h1, h2⟩ | ⟨b, cur, h1, h2, h3, h4, h5⟩
  · exact .inl ⟨h1, by simpa [pvs] using h2⟩
  · refine .inr ⟨b, cur, h1, h2, fun cs hcs => ?_, by simpa [pvs] using h4, fun j k cs x hj hk => ?_⟩
    · have := h3 (cs.map .pv) (List.mem_map.2 ⟨cs, hcs, rfl⟩)
      simpa using this
    · obtain ⟨u, hu, hr⟩ := h5 j k (cs.map .pv) (.pv x) (by simp [pvs, hj]) (by simp [hk])
      exact ⟨u, hu, hr.2⟩
theorem PRow.row {n : Nat} {s : GS} {e : TypeId} {els : List (List PV)} (h : PRow P w R B s e els) (hn : g n = s) : ROw P w R B g n e (pvs els) := by
  rcases h with ⟨h1, h2⟩ | ⟨b, cur, h1, h2, h3, h4, h5⟩
  · exact .inl ⟨hn.trans h1, by rw [h2]; rfl⟩
  · refine .inr ⟨b, cur, hn.trans h1, h2, fun cs hcs => ?_, by simpa [pvs] using h4, fun j k cs x hj hk => ?_⟩
    · obtain ⟨c0, hc0, rfl⟩ := List.mem_map.1 hcs
      simpa using h3 c0 hc0
    · simp only [pvs, List.getElem?_map] at hj
      cases hc : els[j]? with
      | none => rw [hc] at hj; cases hj
      | some c0 =>
        rw [hc] at hj
        injection hj with hj
        subst hj
        rw [List.getElem?_map] at hk
        cases hc2 : c0[k]? with
        | none => rw [hc2] at hk; cases hk
        | some y =>
          rw [hc2] at hk
          injection hk with hk
          subst hk
          obtain ⟨u, hu, hr⟩ := h5 j k c0 y hc hc2
          exact ⟨u, hu, hr.oneCell, hr⟩
def GS.hole (s : GS) (k : Nat) : GS := match s with
  | .pool bs => .pool (bs.set k none)
  | s => s
theorem GS.hole_at {s : GS} {k j : Nat} (h : j ≠ k) : (s.hole k).at j = s.at j := by
  cases s with
  | pool bs => simp only [GS.hole, GS.at, List.getElem?_set_ne (fun e => h e.symm)]
  | _ => rfl
theorem GS.hole_hole {s : GS} {k b : Nat} (h : (s.hole k).at k = .blk b) : False := by
  cases s with
  | pool bs =>
    simp only [GS.hole, GS.at, List.getElem?_set] at h
    split at h
    · rename_i o b2 hb
      by_cases hl : k < bs.length <;> simp [hl] at hb
    · cases h
    · cases h
  | _ => cases h
theorem GS.mem_at {s : GS} {bs : List (Option Nat)} (hs : s = .pool bs) {b : Nat} (h : s.has b) : ∃ j, s.at j = .blk b := by
  subst hs
  obtain ⟨j, hj⟩ := List.mem_iff_getElem?.1 (show some b ∈ bs from h)
  exact ⟨j, by simp only [GS.at, hj]⟩
theorem GS.hole_has {s : GS} {bs : List (Option Nat)} (hs : s = .pool bs) {k b : Nat} (h : (s.hole k).has b) : s.has b ∧ ∃ j, j ≠ k ∧ s.at j = .blk b := by
  obtain ⟨j, hj⟩ := GS.mem_at (s := s.hole k) (bs := bs.set k none) (by rw [hs]; rfl) h
  have hne : j ≠ k := fun e => by rw [e] at hj; exact GS.hole_hole hj
  rw [GS.hole_at hne] at hj
  exact ⟨GS.has_at hj, j, hne, hj⟩
theorem GS.has_hole {s : GS} {bs : List (Option Nat)} (hs : s = .pool bs) {k b : Nat} (h : s.has b) : (s.hole k).has b ∨ s.at k = .blk b := by
  obtain ⟨j, hj⟩ := GS.mem_at hs h
  by_cases hk : j = k
  · subst hk; exact .inr hj
  · left
    rw [← GS.hole_at (k := k) hk] at hj
    exact GS.has_at hj
def foG (p k m : Nat) (g : Nat → GS) : Nat → GS := fun n => if n = m then (g p).at k else if n = p then (g p).hole k else g n
theorem foG_m : foG p k m g m = (g p).at k := if_pos rfl
theorem foG_p (h : p ≠ m) : foG p k m g p = (g p).hole k := by unfold foG; rw [if_neg h, if_pos rfl]
theorem foG_o {n : Nat} (h : n ∉ [m, p]) : foG p k m g n = g n := by
  unfold foG
  rw [if_neg fun e => h (by simp [e]), if_neg fun e => h (by simp [e])]
theorem GS.at_has {s : GS} {k b : Nat} (h : (s.at k).has b) : s.at k = .blk b := by
  cases s with
  | pool bs =>
    simp only [GS.at] at h ⊢
    cases hb : bs[k]? with
    | none => rw [hb] at h; exact h.elim
    | some o =>
      rw [hb] at h
      cases o with
      | none => exact h.elim
      | some c =>
        have : b = c := h
        rw [this]
  | _ => exact h.elim
theorem GS.at_at {s : GS} {k j b : Nat} (h : (s.at k).at j = .blk b) : False := by
  cases s with
  | pool bs =>
    simp only [GS.at] at h
    cases hb : bs[k]? with
    | none => rw [hb] at h; cases h
    | some o => rw [hb] at h; cases o <;> cases h
  | _ => cases h
theorem foG_has (hw : WF R B g w) {bs : List (Option Nat)} (hs : g p = .pool bs) (hp : p ≠ m) {n b : Nat} (h : (foG p k m g n).has b) : (n = m ∧ (g p).at k = .blk b) ∨ (n = p ∧ ∃ j, j ≠ k ∧ (g p).at j = .blk b) ∨ (n ∉ [m, p] ∧ (g n).has b) := by
  by_cases h1 : n = m
  · subst h1
    rw [foG_m] at h
    exact .inl ⟨rfl, GS.at_has h⟩
  · by_cases h2 : n = p
    · subst h2
      rw [foG_p hp] at h
      exact .inr (.inl ⟨rfl, (GS.hole_has hs h).2⟩)
    · have : n ∉ [m, p] := by simp [h1, h2]
      rw [foG_o this] at h
      exact .inr (.inr ⟨this, h⟩)
theorem foG_wf (hw : WF R B g w) {bs : List (Option Nat)} (hs : g p = .pool bs) (hp : p ≠ m) : WF R B (foG p k m g) w := by
  refine ⟨hw.rb, hw.lt, fun n b h => ?_, fun n j b h1 h2 => ?_, fun n i j b h1 h2 => ?_⟩
  · rcases foG_has hw hs hp h with ⟨_, h⟩ | ⟨_, j, _, h⟩ | ⟨_, h⟩
    · exact hw.ownH p b (GS.has_at h)
    · exact hw.ownH p b (GS.has_at h)
    · exact hw.ownH n b h
  · rcases foG_has hw hs hp h1 with ⟨rfl, h3⟩ | ⟨rfl, i, hi, h3⟩ | ⟨hn, h3⟩ <;> rcases foG_has hw hs hp h2 with ⟨rfl, h4⟩ | ⟨rfl, i2, hi2, h4⟩ | ⟨hj, h4⟩
    · rfl
    · exact absurd (hw.nd _ _ _ b h4 h3) hi2
    · have := hw.injH p j b (GS.has_at h3) h4
      subst this
      exact absurd (by simp) hj
    · exact absurd (hw.nd _ _ _ b h3 h4) hi
    · rfl
    · have := hw.injH n j b (GS.has_at h3) h4
      subst this
      exact absurd (by simp) hj
    · have := hw.injH p n b (GS.has_at h4) h3
      subst this
      exact absurd (by simp) hn
    · have := hw.injH j n b (GS.has_at h4) h3
      subst this
      exact absurd (by simp) hn
    · exact hw.injH n j b h3 h4
  · by_cases e1 : n = m
    · subst e1
      rw [foG_m] at h1
      exact (GS.at_at h1).elim
    · by_cases e2 : n = p
      · subst e2
        rw [foG_p hp] at h1 h2
        by_cases hi : i = k
        · subst hi; exact (GS.hole_hole h1).elim
        · by_cases hj : j = k
          · subst hj; exact (GS.hole_hole h2).elim
          · rw [GS.hole_at hi] at h1
            rw [GS.hole_at hj] at h2
            exact hw.nd _ _ _ b h1 h2
      · have : n ∉ [m, p] := by simp [e1, e2]
        rw [foG_o this] at h1 h2
        exact hw.nd _ _ _ b h1 h2
def unG (p m : Nat) (g g' : Nat → GS) : Nat → GS := fun n => if n = m then .dead else if n = p then g p else g' n
theorem unG_m : unG p m g g' m = .dead := if_pos rfl
theorem unG_p (h : p ≠ m) : unG p m g g' p = g p := by unfold unG; rw [if_neg h, if_pos rfl]
theorem unG_o {n : Nat} (h : n ∉ [m, p]) : unG p m g g' n = g' n := by
  unfold unG
  rw [if_neg fun e => h (by simp [e]), if_neg fun e => h (by simp [e])]
def swN (m p n : Nat) : Nat := bif Nat.beq n m then p else n
theorem unG_adv (hw : WF R B g w) {bs : List (Option Nat)} (hs : g p = .pool bs) (hp : p ≠ m) {W X : List Nat} {R' B' : Nat → Prop} {w' : World} (had : Adv R B (foG p k m g) w W X R' B' g' w') (hpW : p ∉ W) (hpX : p ∉ X) (hmX : m ∉ X) :
    Adv R B g w (W.map (swN m p)) (m :: X) R' B' (unG p m g g') w' := by
  have hgm : g' m = (g p).at k := (had.names m hmX).trans foG_m
  have hgp : g' p = (g p).hole k := (had.names p hpX).trans (foG_p hp)
  have hcase : ∀ n b, (unG p m g g' n).has b → (n = p ∧ ((g' p).has b ∨ (g' m).has b)) ∨ (n ∉ [m, p] ∧ (g' n).has b) := fun n b h => by
    by_cases e1 : n = m
    · subst e1; rw [unG_m] at h; exact h.elim
    · by_cases e2 : n = p
      · subst e2
        rw [unG_p hp] at h
        refine .inl ⟨rfl, ?_⟩
        rcases GS.has_hole (k := k) hs h with h | h
        · exact .inl (by rw [hgp]; exact h)
        · exact .inr (by rw [hgm, h]; rfl)
      · have : n ∉ [m, p] := by simp [e1, e2]
        rw [unG_o this] at h
        exact .inr ⟨this, h⟩
  have hW : ∀ n ∈ W, ∀ b, (foG p k m g n).has b → (g (swN m p n)).has b := fun n hn b h => by
    rcases foG_has hw hs hp h with ⟨rfl, h'⟩ | ⟨rfl, _⟩ | ⟨hnn, h'⟩
    · have : swN n p n = p := by unfold swN; rw [Nat.beq_refl]; rfl
      rw [this]
      exact GS.has_at h'
    · exact absurd hn hpW
    · have : swN m p n = n := by
        unfold swN
        have : Nat.beq n m = false := by
          cases hb : Nat.beq n m with
          | false => rfl
          | true => exact absurd (by simp [Nat.eq_of_beq_eq_true hb]) hnn
        rw [this]; rfl
      rw [this]
      exact h'
  have hWr : ∀ n ∈ W.map (swN m p), n ∉ m :: X → ∀ b, (g n).has b → ∃ j, j ∉ X ∧ (foG p k m g j).has b := fun n hn hnX b hb => by
    obtain ⟨j, hj, rfl⟩ := List.mem_map.1 hn
    by_cases e : swN m p j = p
    · rw [e] at hb
      rcases GS.has_hole (k := k) hs hb with h | h
      · exact ⟨p, hpX, by rw [foG_p hp]; exact h⟩
      · exact ⟨m, hmX, by rw [foG_m, h]; rfl⟩
    · have ej : swN m p j = j := by
        unfold swN at e ⊢
        cases hb2 : Nat.beq j m with
        | false => rfl
        | true => rw [hb2] at e; exact absurd rfl e
      rw [ej] at hb hnX e
      have hnn : j ∉ [m, p] := by
        simp only [List.mem_cons, List.not_mem_nil, or_false, not_or] at hnX ⊢
        exact ⟨hnX.1, e⟩
      exact ⟨j, fun h => hnX (List.mem_cons_of_mem _ h), by rw [foG_o hnn]; exact hb⟩
  have hfw := foG_wf (k := k) hw hs hp
  refine ⟨⟨had.wf.rb, had.wf.lt, fun n b h => ?_, fun n j b h1 h2 => ?_, fun n i j b h1 h2 => ?_⟩, had.r, had.b, had.os, had.tape, had.output, had.size, fun b hb hnW => had.heap b hb fun n hn h => hnW _ (List.mem_map.2 ⟨n, hn, rfl⟩) (hW n hn b h), fun n hn => ?_, fun n hn b hb => ?_, fun n hnW hnX b cur e hg hh => ?_⟩
  · rcases hcase n b h with ⟨_, h | h⟩ | ⟨_, h⟩ <;> exact had.wf.ownH _ b h
  · have key : ∀ n j, n = p → j ∉ [m, p] → ((g' p).has b ∨ (g' m).has b) → (g' j).has b → False := fun n j _ hj h1 h2 => by
      rcases h1 with h1 | h1
      · have := had.wf.injH _ _ b h1 h2; subst this; exact hj (by simp)
      · have := had.wf.injH _ _ b h1 h2; subst this; exact hj (by simp)
    rcases hcase n b h1 with ⟨e1, h3⟩ | ⟨hn, h3⟩ <;> rcases hcase j b h2 with ⟨e2, h4⟩ | ⟨hj, h4⟩
    · rw [e1, e2]
    · exact (key n j e1 hj h3 h4).elim
    · exact (key j n e2 hn h4 h3).elim
    · exact had.wf.injH n j b h3 h4
  · by_cases e1 : n = m
    · subst e1; rw [unG_m] at h1; cases h1
    · by_cases e2 : n = p
      · subst e2
        rw [unG_p hp] at h1 h2
        exact hw.nd _ _ _ b h1 h2
      · have : n ∉ [m, p] := by simp [e1, e2]
        rw [unG_o this] at h1 h2
        exact had.wf.nd _ _ _ b h1 h2
  · simp only [List.mem_cons, not_or] at hn
    by_cases e2 : n = p
    · subst e2; exact unG_p hp
    · have : n ∉ [m, p] := by simp [hn.1, e2]
      rw [unG_o this, had.names n hn.2, foG_o this]
  · rcases hcase n b hb with ⟨e, _⟩ | ⟨hnn, h⟩
    · subst e
      rcases List.mem_cons.1 hn with h | h
      · exact absurd h hp
      · exact absurd h hpX
    · have hnX : n ∈ X := by
        rcases List.mem_cons.1 hn with h | h
        · subst h; exact absurd (by simp) hnn
        · exact h
      rcases had.fresh n hnX b h with h | ⟨j, hj, h⟩
      · exact .inl h
      · exact .inr ⟨_, List.mem_map.2 ⟨j, hj, rfl⟩, hW j hj b h⟩
  · obtain ⟨j, hjX, hj⟩ := hWr n hnW hnX b hg
    exact had.ownH' hfw hjX hj hh
def focB (p m : Nat) (ins : List (Operand × AV)) (us0 : Mem) (v : AV) (df0 : Mem) (W X : List Nat) : Bool :=
  !Nat.beq p m && ins.all (fun q => foA p m q.2) && us0.all (fun q => ![m, p].elem q.1 && nrO [m, p] q.2) && foA p m v && df0.all (fun q => ![m, p].elem q.1 && nrO [m, p] q.2) && !W.elem p && !X.elem p && !X.elem m
theorem LT.focus {o : Oper} {ins : List (Operand × AV)} {us0 df0 : Mem} {v : AV} {W X : List Nat} {e : TypeId} {els els' : List (List PV)} {rows : List (List (List PV))}
    (h : LT P o ins ((m, .prow e els) :: us0) v ((m, .prow e els') :: df0) W X) (hk : rows[k]? = some els) (hc : focB p m ins us0 v df0 W X = true) :
    LT P o (ins.map fun q => (q.1, bkA p k m q.2)) ((p, .pool e rows) :: us0) (bkA p k m v) ((p, .pool e (rows.set k els')) :: df0) (W.map (swN m p)) (m :: X) := by
  simp only [focB, Bool.and_eq_true, Bool.not_eq_true'] at hc
  obtain ⟨⟨⟨⟨⟨⟨⟨hp, hins⟩, hus⟩, hv⟩, hdf⟩, hW⟩, hXp⟩, hXm⟩ := hc
  have hp := Nat.ne_of_beq_eq_false hp
  have hpW := notin_of_elem hW
  have hpX := notin_of_elem hXp
  have hmX := notin_of_elem hXm
  intro R B g w a hw hi hu K Q hK
  obtain ⟨⟨bs, hs, hbl⟩, hrows⟩ := hu (p, .pool e rows) List.mem_cons_self
  refine h R B (foG p k m g) w a (foG_wf hw hs hp) (fun q hq => ?_) (fun q hq => ?_) K Q fun u R' B' g' w' had hR hv' hob => ?_
  · exact RA.fo (List.all_eq_true.1 hins q hq) foG_m (fun n hn => foG_o hn) (hi (q.1, bkA p k m q.2) (List.mem_map.2 ⟨q, hq, rfl⟩))
  · cases hq with
    | head => exact (hrows k els hk).row foG_m
    | tail _ hq =>
      have h1 := List.all_eq_true.1 hus q hq
      simp only [Bool.and_eq_true, Bool.not_eq_true'] at h1
      exact RO.av (notin_of_elem h1.1) h1.2 (fun n hn => foG_o hn) (hu q (List.mem_cons_of_mem _ hq))
  · have hgm : g' m = (g p).at k := (had.names m hmX).trans foG_m
    have hadv := unG_adv hw hs hp had hpW hpX hmX
    refine hK u R' B' _ w' hadv hR (fun hd => RA.bk hv (by rw [unG_p hp]; exact hgm.symm) (fun n hn => unG_o hn) (hv' hd)) fun q hq => ?_
    cases hq with
    | head =>
      refine ⟨⟨bs, (unG_p hp).trans hs, by simpa using hbl⟩, fun j els2 hj => ?_⟩
      show PRow P w' R' B' ((unG p m g g' p).at j) e els2
      rw [unG_p hp]
      rw [List.getElem?_set] at hj
      by_cases hjk : k = j
      · subst hjk
        rw [if_pos rfl] at hj
        split at hj
        · injection hj with hj
          subst hj
          have := PRow.of (hob (m, .prow e els') List.mem_cons_self)
          rw [← hgm]
          exact this
        · cases hj
      · rw [if_neg hjk] at hj
        rcases hrows j els2 hj with h1 | ⟨b, cur, h1, h2, h3, h4, h5⟩
        · exact .inl h1
        · have hb : (foG p k m g p).has b := by
            rw [foG_p hp]
            exact GS.has_at (k := j) (by rw [GS.hole_at (fun e => hjk e.symm)]; exact h1)
          refine .inr ⟨b, cur, h1, (had.ownH (foG_wf hw hs hp) hpW hb).trans h2, h3, h4, fun i k' cs x hi hk' => ?_⟩
          obtain ⟨u, hu1, hu2⟩ := h5 i k' cs x hi hk'
          exact ⟨u, hu1, had.pv (foG_wf hw hs hp) hu2⟩
    | tail _ hq =>
      have h1 := List.all_eq_true.1 hdf q hq
      simp only [Bool.and_eq_true, Bool.not_eq_true'] at h1
      exact RO.av (notin_of_elem h1.1) h1.2 (fun n hn => unG_o hn) (hob q (List.mem_cons_of_mem _ hq))
end
end Go.Fw
end
section
set_option linter.unusedVariables false
set_option linter.unusedSimpArgs false
set_option linter.unnecessarySimpa false
namespace Go.Fw
section
variable {P : Program} {o : Oper} {α : Type} {enc : α → List PV}
def lensOf {α : Type} (rows : List (List α)) : List Nat := rows.map List.length
def rowsOf {α : Type} (enc : α → List PV) (rows : List (List α)) : List (List (List PV)) := rows.map fun r => r.map enc
theorem tcells_get {p : Nat} {lens : List Nat} {j l : Nat} (h : lens[j]? = some l) : (tcells p lens)[j]? = some [.tl p j 0 l] := by
  unfold tcells
  rw [List.getElem?_mapIdx, h]
  rfl
theorem tcells_inv {p : Nat} {lens : List Nat} {j : Nat} {cs : List CV} (h : (tcells p lens)[j]? = some cs) : ∃ l, lens[j]? = some l ∧ cs = [.tl p j 0 l] := by
  unfold tcells at h
  rw [List.getElem?_mapIdx] at h
  cases hl : lens[j]? with
  | none => rw [hl] at h; cases h
  | some l => rw [hl] at h; injection h with h; exact ⟨l, rfl, h.symm⟩
theorem tcells_len (p : Nat) (lens : List Nat) : (tcells p lens).length = lens.length := by simp [tcells]
theorem tcells_snoc (p : Nat) (lens : List Nat) (l : Nat) : tcells p lens ++ [[.tl p lens.length 0 l]] = tcells p (lens ++ [l]) := by
  unfold tcells
  rw [List.mapIdx_append]
  simp
theorem LT.usT {ins : List (Operand × AV)} {v : AV} {df : Mem} {n p : Nat} {e : TypeId} {lens : List Nat} {W X : List Nat} (h : LT P o ins [(n, .row e (tcells p lens))] v df W X) : LT P o ins [(n, .trow e p lens)] v df W X :=
  h.conv (fun _ _ _ _ h => one_ro (ob := .row e (tcells p lens)) (us1 (ob := .trow e p lens) h)) fun _ _ _ _ h => h
theorem LT.xindex {x y : Operand} {t e : TypeId} {i : Int} {n p len : Nat} {rows : List (List α)} {r : List α} (hl : len = rows.length) (ho : o.op = .indexAddr t x y) (h : elB P t = some e) (hi : idx rows i = some r) :
    LT P o [(x, Cc (.loc n 0 len)), (y, Iv i)] [(n, .trow e p (lensOf rows))] (Cc (.pl n (i.toNat * szP P e))) [] [] [] := by
  subst hl
  exact LT.usT (LT.indexLoc ho h (idx_nn hi) (idx_lt hi))
theorem LT.xload {x : Operand} {t e : TypeId} {n p off : Nat} {i : Int} {rows : List (List α)} {r : List α} (ho : o.op = .load t x) (h : agB P t = some false) (hi : idx rows i = some r) (ha : off = i.toNat * szP P e) :
    LT P o [(x, Cc (.pl n off))] [(n, .trow e p (lensOf rows))] (Cc (.tl p i.toNat 0 r.length)) [] [] [] :=
  LT.usT (LT.loadPl1 ho h (tcells_get (by rw [lensOf, List.getElem?_map, idx_get hi]; rfl)) rfl (by rw [ha, Nat.add_zero]))
end
end Go.Fw
end
section
set_option linter.unusedVariables false
set_option linter.unusedSimpArgs false
set_option linter.unnecessarySimpa false
namespace Go.Fw
section
variable {P : Program} {C : Ctx} {σ : Slots} {mm : Mem}
def adC (p k m : Nat) (x x2 : CV) : Prop := (∃ o l, x = .loc m o l ∧ x2 = .tl p k o l) ∨ (x2 = x ∧ ((∃ q o l, q ≠ k ∧ x = .tl p q o l) ∨ nrC [m, p] x = true))
def obS : Option Nat → GS
  | some b => .blk b
  | none => .nil
theorem Ent.adoptG {k n m p : Nat} {e e2 : TypeId} {els : List (List PV)} {rows rows2 : List (List (List PV))} {cells cells2 : List (List CV)}
    (hm : lk mm m = some (.prow e2 els)) (hp : lk mm p = some (.pool e2 rows)) (hn : lk mm n = some (.row e cells))
    (hd : (!Nat.beq p m && !Nat.beq n p && !Nat.beq n m && !C.pn.elem m && !C.pn.elem p) = true)
    (hbs : ∀ (bs : List (Option Nat)) ob, bs.length = rows.length → ∃ bs2 : List (Option Nat), bs2.length = rows2.length ∧ ∀ j, (GS.pool bs2).at j = if j = k then obS ob else (GS.pool bs).at j)
    (hr2 : ∀ (j : Nat) els2, rows2[j]? = some els2 → (j = k ∧ els2 = els) ∨ (j ≠ k ∧ rows[j]? = some els2))
    (hl : cells2.length = cells.length) (hc : ∀ (j : Nat) cs2, cells2[j]? = some cs2 → ∃ cs, cells[j]? = some cs ∧ cs2.length = cs.length ∧ ∀ (i : Nat) x2, cs2[i]? = some x2 → ∃ x, cs[i]? = some x ∧ adC p k m x x2) :
    Ent P C σ mm (junkSl [m, p] σ) ((p, .pool e2 rows2) :: (n, .row e cells2) :: junkM [m, p] mm) := fun R B g a w hs => by
  simp only [Bool.and_eq_true, Bool.not_eq_true'] at hd
  obtain ⟨⟨⟨⟨hpm, hnp⟩, hnm⟩, hm1⟩, hp1⟩ := hd
  have hpm := Nat.ne_of_beq_eq_false hpm
  have hnp := Nat.ne_of_beq_eq_false hnp
  have hnm := Nat.ne_of_beq_eq_false hnm
  have hm1 := notin_of_elem hm1
  have hp1 := notin_of_elem hp1
  have hw := hs.wf
  have hrm : PRow P w R B (g m) e2 els := PRow.of (hs.ob m _ hm)
  obtain ⟨⟨bs, hgp, hbl⟩, hrows⟩ := hs.ob p _ hp
  have hrn : ROw P w R B g n e cells := hs.ob n _ hn
  obtain ⟨ob, hob⟩ : ∃ ob, g m = obS ob := by
    rcases hrm with ⟨h1, _⟩ | ⟨b, _, h1, _⟩
    · exact ⟨none, h1⟩
    · exact ⟨some b, h1⟩
  obtain ⟨bs2, hbl2, hat⟩ := hbs bs ob hbl
  have hat' : ∀ j, (GS.pool bs2).at j = if j = k then g m else (g p).at j := fun j => by rw [hat j, hob, hgp]
  have hhas : ∀ b, (GS.pool bs2).has b → (g p).has b ∨ (g m).has b := fun b hb => by
    obtain ⟨j, hj⟩ := GS.mem_at rfl hb
    rw [hat' j] at hj
    split at hj
    · exact .inr (GS.has_blk hj)
    · exact .inl (GS.has_at hj)
  let g1 : Nat → GS := upd g m .dead
  have hwf1 : WF R B g1 w := hw.upd m .dead (Nat.le_refl _) (fun b hb => hb.elim) (fun i j b hi => by cases hi)
  have hg1 : ∀ q, q ≠ m → g1 q = g q := fun q hq => upd_ne g _ hq
  let g2 : Nat → GS := upd g1 p (.pool bs2)
  have hg2p : g2 p = .pool bs2 := upd_same ..
  have hg2m : g2 m = .dead := (upd_ne g1 _ (fun e => hpm e.symm)).trans (upd_same ..)
  have hg2 : ∀ q, q ≠ m → q ≠ p → g2 q = g q := fun q h1 h2 => (upd_ne g1 _ h2).trans (hg1 q h1)
  have hwf2 : WF R B g2 w := hwf1.upd p _ (Nat.le_refl _) (fun b hb => by
    rcases hhas b hb with h | h
    · refine ⟨(hw.ownH p b h).1, (hw.ownH p b h).2, fun q hq hq2 => ?_⟩
      by_cases e : q = m
      · subst e
        have : g1 q = .dead := upd_same ..
        rw [this] at hq2; exact hq2
      · rw [hg1 q e] at hq2
        exact hq (hw.injH q p b hq2 h)
    · refine ⟨(hw.ownH m b h).1, (hw.ownH m b h).2, fun q hq hq2 => ?_⟩
      by_cases e : q = m
      · subst e
        have : g1 q = .dead := upd_same ..
        rw [this] at hq2; exact hq2
      · rw [hg1 q e] at hq2
        exact e (hw.injH q m b hq2 h)) (fun i j b hi hj => by
    rw [hat' i] at hi
    rw [hat' j] at hj
    split at hi <;> split at hj
    · omega
    · exact absurd (hw.injH m p b (GS.has_blk hi) (GS.has_at hj)).symm hpm
    · exact absurd (hw.injH m p b (GS.has_blk hj) (GS.has_at hi)).symm hpm
    · exact hw.nd p i j b hi hj)
  have had : Adv R B g w [m, p, n] [m, p] R B g2 w := by
    refine ⟨hwf2, fun _ h => h, fun _ h => h, rfl, rfl, rfl, Nat.le_refl _, fun _ _ _ => rfl, fun q hq => ?_, fun q hq b hb => ?_, fun q hq hqX b cur e' hg hh => ⟨cur, hh, rfl⟩⟩
    · simp at hq
      exact hg2 q hq.1 hq.2
    · have : q = m ∨ q = p := by simpa using hq
      rcases this with rfl | rfl
      · rw [hg2m] at hb; exact hb.elim
      · rw [hg2p] at hb
        rcases hhas b hb with h | h
        · exact .inr ⟨q, by simp, h⟩
        · exact .inr ⟨m, by simp, h⟩
  have hst := hs.step (us := [(m, .prow e2 els), (p, .pool e2 rows), (n, .row e cells)]) (df := [(p, .pool e2 rows2), (n, .row e cells2)]) (W := [m, p, n]) (X := [m, p]) (d := none) (v := .tup []) (u := undef) ⟨hm, hp, hn, trivial⟩
    (fun q hq => by
      have : q = m ∨ q = p ∨ q = n := by simpa using hq
      rcases this with rfl | rfl | rfl
      · exact ⟨.inl (by simp), _, List.mem_cons_self⟩
      · exact ⟨.inl (by simp), _, List.mem_cons_of_mem _ List.mem_cons_self⟩
      · exact ⟨.inr (by simp), _, List.mem_cons_of_mem _ (List.mem_cons_of_mem _ List.mem_cons_self)⟩)
    (fun q hq => by
      have : q = (p, .pool e2 rows2) ∨ q = (n, .row e cells2) := by simpa using hq
      rcases this with rfl | rfl
      · exact .inl (by simp)
      · exact .inr (by simp)) rfl (fun q hq => by
      have : q = m ∨ q = p := by simpa using hq
      rcases this with rfl | rfl
      · exact hm1
      · exact hp1) had (fun b hb => .inl hb) (fun h => by cases h) (fun q hq => by
      have : q = (p, .pool e2 rows2) ∨ q = (n, .row e cells2) := by simpa using hq
      rcases this with rfl | rfl
      · refine ⟨⟨bs2, hg2p, hbl2⟩, fun j els2 hj => ?_⟩
        show PRow P w R B ((g2 p).at j) e2 els2
        rw [hg2p, hat' j]
        rcases hr2 j els2 hj with ⟨h1, h2⟩ | ⟨h1, h2⟩
        · rw [if_pos h1, h2]; exact hrm
        · rw [if_neg h1]; exact hrows j els2 h2
      · show ROw P w R B g2 n e cells2
        have hgn : g2 n = g n := hg2 n hnm hnp
        rcases hrn with ⟨h1, h2⟩ | ⟨b, cur, h1, h2, h3, h4, h5⟩
        · exact .inl ⟨hgn.trans h1, List.eq_nil_of_length_eq_zero (by rw [hl, h2]; rfl)⟩
        · refine .inr ⟨b, cur, hgn.trans h1, h2, fun cs2 hcs2 => ?_, by rw [hl]; exact h4, fun j i cs2 x2 hj hi => ?_⟩
          · obtain ⟨j, hj⟩ := List.mem_iff_getElem?.1 hcs2
            obtain ⟨cs, q1, q2, _⟩ := hc j cs2 hj
            rw [q2]
            exact h3 cs (List.mem_of_getElem? q1)
          · obtain ⟨cs, q1, _, q3⟩ := hc j cs2 hj
            obtain ⟨x, q4, q5⟩ := q3 i x2 hi
            obtain ⟨u, hu, hr⟩ := h5 j i cs x q1 q4
            refine ⟨u, hu, ?_⟩
            rcases q5 with ⟨o, l, rfl, rfl⟩ | ⟨rfl, ⟨q, o, l, hq, rfl⟩ | hz⟩
            · refine ⟨hr.1, ?_⟩
              have hk : (g2 p).at k = g m := by rw [hg2p, hat' k, if_pos rfl]
              rcases hr.2 with ⟨z1, z2⟩ | z1 | ⟨b2, cap, cur2, e3, z1, z2⟩
              · exact .inl ⟨hk.trans z1, z2⟩
              · exact .inr (.inl z1)
              · exact .inr (.inr ⟨b2, cap, cur2, e3, hk.trans z1, z2⟩)
            · refine ⟨hr.1, ?_⟩
              have hk : (g2 p).at q = (g p).at q := by rw [hg2p, hat' q, if_neg hq]
              rcases hr.2 with ⟨z1, z2⟩ | z1 | ⟨b2, cap, cur2, e3, z1, z2⟩
              · exact .inl ⟨hk.trans z1, z2⟩
              · exact .inr (.inl z1)
              · exact .inr (.inr ⟨b2, cap, cur2, e3, hk.trans z1, z2⟩)
            · exact RC.av hz (fun q hq => by
                simp at hq
                exact hg2 q hq.1 hq.2) hr)
  exact ⟨R, B, g2, hst⟩
end
end Go.Fw
end
section
set_option linter.unusedVariables false
set_option linter.unusedSimpArgs false
set_option linter.unnecessarySimpa false
namespace Go.Fw
section
variable {P : Program} {C : Ctx} {σ : Slots} {mm : Mem} {α : Type} {enc : α → List PV}
theorem lensOf_len (rows : List (List α)) : (lensOf rows).length = rows.length := by simp [lensOf]
theorem rowsOf_len (enc : α → List PV) (rows : List (List α)) : (rowsOf enc rows).length = rows.length := by simp [rowsOf]
theorem rowsOf_get {rows : List (List α)} {k : Nat} {r : List α} (h : rows[k]? = some r) : (rowsOf enc rows)[k]? = some (r.map enc) := by simp [rowsOf, h]
theorem LT.xapp {o : Oper} {t e : TypeId} {x y : Operand} {n n2 p len len2 : Nat} {rows : List (List α)} {els2 : List (List CV)} {z : Value} {s by_ : Nat} (hl : len = rows.length) (hl2 : len2 = els2.length) (ho : o.op = .call { callee := .builtin .append, args := #[x, y], argTypes := #[t, t] }) (ht : P.underlying t = some (.slice e))
    (hz : TI P e z s by_) (hzs : z.cells.size = s) (hs : 0 < s) (hb : by_ ≤ 65536) (hc : (els2.all (fun cs => Nat.beq cs.length s && cs.all (nrC [n])) && !Nat.beq p n) = true) (hlim : rows.length + els2.length ≤ LIM) :
    LT P o [(x, Cc (.loc n 0 len)), (y, Cc (.loc n2 0 len2))] [(n, .trow e p (lensOf rows)), (n2, .row e els2)] (Cc (.loc n 0 (len + len2))) [(n, .row e (tcells p (lensOf rows) ++ els2))] [n] [n] := by
  subst hl
  subst hl2
  simp only [Bool.and_eq_true, Bool.not_eq_true'] at hc
  have hc1 : ∀ cs ∈ els2, cs.length = s ∧ ∀ x ∈ cs, nrC [n] x = true := fun cs hcs => by
    have := List.all_eq_true.1 hc.1 cs hcs
    simp only [Bool.and_eq_true] at this
    exact ⟨Nat.eq_of_beq_eq_true this.1, fun x hx => List.all_eq_true.1 this.2 x hx⟩
  have hlen : (tcells p (lensOf rows)).length = rows.length := by rw [tcells_len, lensOf_len]
  have hpn : [n].elem p = false := by
    have := Nat.ne_of_beq_eq_false hc.2
    simp [this]
  have := LT.append (P := P) (o := o) (ins := [(x, Cc (.loc n 0 rows.length)), (y, Cc (.loc n2 0 els2.length))]) (us := [(n, .trow e p (lensOf rows)), (n2, .row e els2)]) (n := n) (els := tcells p (lensOf rows)) (els2 := els2) (W := [n]) ho ht hz hzs hs hb
    (fun cs hcs => (hc1 cs hcs).1) (by rw [hlen]; exact hlim)
    (fun R B g w a hw hi hu => ⟨.inr ⟨by rw [hlen]; exact in1 hi, us1 (ob := .trow e p (lensOf rows)) hu⟩, by
      have := srcLoc (els := els2) (by rw [hz.sz]; exact hs) (in2 hi) (us2 hu)
      rwa [hz.sz] at this, .inl rfl⟩)
  rw [hlen, List.map_append, tcells_junk hpn, map_id_of fun cs hcs => map_id_of fun x hx => junkC_nr ((hc1 cs hcs).2 x hx)] at this
  exact this
theorem Ent.tadopt {n m p len : Nat} {e e2 : TypeId} {rows : List (List α)} {r : List α} {rest : List (List CV)} (hl : len = r.length) (hm : lk mm m = some (.prow e2 (r.map enc))) (hp : lk mm p = some (.pool e2 (rowsOf enc rows)))
    (hn : lk mm n = some (.row e (tcells p (lensOf rows) ++ [.loc m 0 len] :: rest))) (hd : (!Nat.beq p m && !Nat.beq n p && !Nat.beq n m && !C.pn.elem m && !C.pn.elem p) = true) (hrest : rest.all (·.all (nrC [m, p])) = true) :
    Ent P C σ mm (junkSl [m, p] σ) ((p, .pool e2 (rowsOf enc (rows ++ [r]))) :: (n, .row e (tcells p (lensOf (rows ++ [r])) ++ rest)) :: junkM [m, p] mm) := by
  subst hl
  have hcells : tcells p (lensOf (rows ++ [r])) = tcells p (lensOf rows) ++ [[.tl p rows.length 0 r.length]] := by
    have : lensOf (rows ++ [r]) = lensOf rows ++ [r.length] := by simp [lensOf]
    rw [this, ← tcells_snoc, lensOf_len]
  have hlen : (tcells p (lensOf rows)).length = rows.length := by rw [tcells_len, lensOf_len]
  refine Ent.adoptG (k := rows.length) hm hp hn hd (fun bs ob hbl => ⟨bs ++ [ob], by simp [hbl, rowsOf_len], fun j => ?_⟩) (fun j els2 hj => ?_) (by rw [hcells]; simp) (fun j cs2 hj => ?_)
  · rw [rowsOf_len] at hbl
    by_cases h : j = rows.length
    · rw [if_pos h, h, ← hbl]
      simp only [GS.at, List.getElem?_append_right (Nat.le_refl _), Nat.sub_self, List.getElem?_cons_zero]
      cases ob <;> rfl
    · rw [if_neg h]
      by_cases h2 : j < bs.length
      · simp only [GS.at, List.getElem?_append_left h2]
      · have e1 : (bs ++ [ob])[j]? = none := List.getElem?_eq_none (by simp; omega)
        have e2 : bs[j]? = none := List.getElem?_eq_none (by omega)
        simp only [GS.at, e1, e2]
  · simp only [rowsOf, List.map_append, List.map_cons, List.map_nil] at hj ⊢
    by_cases h : j < rows.length
    · rw [List.getElem?_append_left (by simpa using h)] at hj
      exact .inr ⟨by omega, hj⟩
    · have hjl := (List.getElem?_eq_some_iff.1 hj).1
      simp at hjl
      have : j = rows.length := by omega
      subst this
      rw [List.getElem?_append_right (by simp)] at hj
      simp at hj
      exact .inl ⟨rfl, hj.symm⟩
  · rw [hcells, List.append_assoc] at hj
    by_cases h : j < rows.length
    · rw [List.getElem?_append_left (by rw [hlen]; exact h)] at hj
      obtain ⟨l, hl, rfl⟩ := tcells_inv hj
      refine ⟨_, by rw [List.getElem?_append_left (by rw [hlen]; exact h)]; exact hj, rfl, fun i x2 hi => ⟨x2, hi, .inr ⟨rfl, .inl ?_⟩⟩⟩
      cases i with
      | zero => exact ⟨j, 0, l, by omega, by simpa using hi.symm⟩
      | succ i => simp at hi
    · rw [List.getElem?_append_right (by rw [hlen]; omega), hlen] at hj
      by_cases h2 : j = rows.length
      · subst h2
        rw [Nat.sub_self] at hj
        have : cs2 = [.tl p rows.length 0 r.length] := by simpa using hj.symm
        subst this
        refine ⟨[.loc m 0 r.length], by rw [List.getElem?_append_right (by rw [hlen]; exact Nat.le_refl _), hlen, Nat.sub_self]; rfl, rfl, fun i x2 hi => ?_⟩
        cases i with
        | zero => exact ⟨_, rfl, .inl ⟨0, r.length, rfl, by simpa using hi.symm⟩⟩
        | succ i => simp at hi
      · obtain ⟨q, hq⟩ : ∃ q, j - rows.length = q + 1 := ⟨j - rows.length - 1, by omega⟩
        rw [hq] at hj
        have hj' : rest[q]? = some cs2 := by simpa using hj
        refine ⟨cs2, by rw [List.getElem?_append_right (by rw [hlen]; omega), hlen, hq]; simpa using hj', rfl, fun i x2 hi => ⟨x2, hi, .inr ⟨rfl, .inr ?_⟩⟩⟩
        exact List.all_eq_true.1 (List.all_eq_true.1 hrest cs2 (List.mem_of_getElem? hj')) x2 (List.mem_of_getElem? hi)
theorem Ent.trow {n p : Nat} {e : TypeId} {lens : List Nat} {cells : List (List CV)} (hc : cells = tcells p lens) (h : lk mm n = some (.row e cells)) : Ent P C σ mm σ ((n, .trow e p lens) :: mm) := fun R B g a w hs => by
  subst hc
  exact ⟨R, B, g, hs.obj (o := .trow e p lens) h (show ROw P w R B g n e (tcells p lens) from hs.ob n (.row e (tcells p lens)) h)⟩
def swp (i q j : Nat) : Nat := if j = q then i else if j = i then q else j
theorem swp_inj {i q j k : Nat} (h : swp i q j = swp i q k) : j = k := by
  unfold swp at h
  split at h <;> split at h <;> (try split at h) <;> (try split at h) <;> omega
theorem swap_get {β : Type} {l : List β} {i q : Nat} {x y : β} (hi : l[i]? = some x) (hq : l[q]? = some y) (j : Nat) : ((l.set i y).set q x)[j]? = l[swp i q j]? := by
  have hil := (List.getElem?_eq_some_iff.1 hi).1
  have hql := (List.getElem?_eq_some_iff.1 hq).1
  rw [List.getElem?_set, List.getElem?_set]
  by_cases h1 : q = j
  · subst h1
    have : swp i q q = i := if_pos rfl
    simp [hql, hi, this]
  · rw [if_neg h1]
    by_cases h2 : i = j
    · subst h2
      have : swp i q i = q := by unfold swp; rw [if_neg fun e => h1 e.symm, if_pos rfl]
      simp [hil, hq, this]
    · have : swp i q j = j := by unfold swp; rw [if_neg fun e => h1 e.symm, if_neg fun e => h2 e.symm]
      rw [if_neg h2, this]
theorem Ent.tswap {n p i q : Nat} {e e2 : TypeId} {rows : List (List α)} {ri rq : List α} (hi : rows[i]? = some ri) (hq : rows[q]? = some rq) (hp : lk mm p = some (.pool e2 (rowsOf enc rows)))
    (hn : lk mm n = some (.row e (((tcells p (lensOf rows)).set i [.tl p q 0 rq.length]).set q [.tl p i 0 ri.length]))) (hd : (!Nat.beq n p && !C.pn.elem p) = true) :
    Ent P C σ mm (junkSl [p] σ) ((p, .pool e2 (rowsOf enc ((rows.set i rq).set q ri))) :: (n, .trow e p (lensOf ((rows.set i rq).set q ri))) :: junkM [p] mm) := fun R B g a w hs => by
  simp only [Bool.and_eq_true, Bool.not_eq_true'] at hd
  have hnp := Nat.ne_of_beq_eq_false hd.1
  have hp1 := notin_of_elem hd.2
  have hw := hs.wf
  obtain ⟨⟨bs, hgp, hbl⟩, hrows⟩ := hs.ob p _ hp
  rw [rowsOf_len] at hbl
  have hrn : ROw P w R B g n e (((tcells p (lensOf rows)).set i [.tl p q 0 rq.length]).set q [.tl p i 0 ri.length]) := hs.ob n _ hn
  have hil := (List.getElem?_eq_some_iff.1 hi).1
  have hql := (List.getElem?_eq_some_iff.1 hq).1
  have hbi : bs[i]? = some (bs[i]'(by omega)) := List.getElem?_eq_getElem (by omega)
  have hbq : bs[q]? = some (bs[q]'(by omega)) := List.getElem?_eq_getElem (by omega)
  let bs2 := (bs.set i (bs[q]'(by omega))).set q (bs[i]'(by omega))
  have hat : ∀ j, (GS.pool bs2).at j = (g p).at (swp i q j) := fun j => by
    rw [hgp]
    show (match bs2[j]? with | some (some b) => GS.blk b | some none => .nil | none => .dead) = _
    rw [swap_get hbi hbq]
    rfl
  have hhas : ∀ b, (GS.pool bs2).has b → (g p).has b := fun b hb => by
    obtain ⟨j, hj⟩ := GS.mem_at rfl hb
    rw [hat j] at hj
    exact GS.has_at hj
  have hg2p : upd g p (.pool bs2) p = .pool bs2 := upd_same ..
  have hg2 : ∀ k, k ≠ p → upd g p (.pool bs2) k = g k := fun k hk => upd_ne g _ hk
  have hwf2 : WF R B (upd g p (.pool bs2)) w := hw.upd p _ (Nat.le_refl _) (fun b hb => ⟨(hw.ownH p b (hhas b hb)).1, (hw.ownH p b (hhas b hb)).2, fun k hk hk2 => hk (hw.injH k p b hk2 (hhas b hb))⟩) (fun j k b hj hk => by
    rw [hat j] at hj
    rw [hat k] at hk
    exact swp_inj (hw.nd p _ _ b hj hk))
  have had : Adv R B g w [p, n] [p] R B (upd g p (.pool bs2)) w := by
    refine ⟨hwf2, fun _ h => h, fun _ h => h, rfl, rfl, rfl, Nat.le_refl _, fun _ _ _ => rfl, fun k hk => hg2 k (by simpa using hk), fun k hk b hb => ?_, fun k hk hkX b cur e' hg hh => ⟨cur, hh, rfl⟩⟩
    have : k = p := by simpa using hk
    subst this
    rw [hg2p] at hb
    exact .inr ⟨k, by simp, hhas b hb⟩
  have hlens : lensOf ((rows.set i rq).set q ri) = ((lensOf rows).set i rq.length).set q ri.length := by simp [lensOf, List.map_set]
  have hst := hs.step (us := [(p, .pool e2 (rowsOf enc rows)), (n, .row e (((tcells p (lensOf rows)).set i [.tl p q 0 rq.length]).set q [.tl p i 0 ri.length]))]) (df := [(p, .pool e2 (rowsOf enc ((rows.set i rq).set q ri))), (n, .trow e p (lensOf ((rows.set i rq).set q ri)))]) (W := [p, n]) (X := [p]) (d := none) (v := .tup []) (u := undef) ⟨hp, hn, trivial⟩
    (fun k hk => by
      have : k = p ∨ k = n := by simpa using hk
      rcases this with rfl | rfl
      · exact ⟨.inl (by simp), _, List.mem_cons_self⟩
      · exact ⟨.inr (by simp), _, List.mem_cons_of_mem _ List.mem_cons_self⟩)
    (fun k hk => by
      have : k = (p, .pool e2 (rowsOf enc ((rows.set i rq).set q ri))) ∨ k = (n, .trow e p (lensOf ((rows.set i rq).set q ri))) := by simpa using hk
      rcases this with rfl | rfl
      · exact .inl (by simp)
      · exact .inr (by simp)) rfl (fun k hk => by
      have : k = p := by simpa using hk
      subst this
      exact hp1) had (fun b hb => .inl hb) (fun h => by cases h) (fun k hk => by
      have : k = (p, .pool e2 (rowsOf enc ((rows.set i rq).set q ri))) ∨ k = (n, .trow e p (lensOf ((rows.set i rq).set q ri))) := by simpa using hk
      rcases this with rfl | rfl
      · refine ⟨⟨bs2, hg2p, by simp [bs2, hbl, rowsOf_len]⟩, fun j els2 hj => ?_⟩
        show PRow P w R B ((upd g p (.pool bs2) p).at j) e2 els2
        rw [hg2p, hat j]
        refine hrows _ els2 ?_
        rw [rowsOf, List.getElem?_map, swap_get hi hq] at hj
        rw [rowsOf, List.getElem?_map]
        exact hj
      · show ROw P w R B (upd g p (.pool bs2)) n e (tcells p (lensOf ((rows.set i rq).set q ri)))
        have hgn : upd g p (.pool bs2) n = g n := hg2 n hnp
        have hlen : (tcells p (lensOf ((rows.set i rq).set q ri))).length = (((tcells p (lensOf rows)).set i [.tl p q 0 rq.length]).set q [.tl p i 0 ri.length]).length := by simp [tcells_len, lensOf_len]
        have hcell : ∀ j cs2, (tcells p (lensOf ((rows.set i rq).set q ri)))[j]? = some cs2 → ∃ l, cs2 = [CV.tl p j 0 l] ∧ (((tcells p (lensOf rows)).set i [CV.tl p q 0 rq.length]).set q [CV.tl p i 0 ri.length])[j]? = some [CV.tl p (swp i q j) 0 l] := fun j cs2 hj => by
          obtain ⟨l, hl, rfl⟩ := tcells_inv hj
          refine ⟨l, rfl, ?_⟩
          have hl0 : (lensOf rows)[swp i q j]? = some l := by
            rw [← hl, lensOf, lensOf, List.getElem?_map, List.getElem?_map, swap_get hi hq]
          have hjl : j < (tcells p (lensOf rows)).length := by
            have := (List.getElem?_eq_some_iff.1 hj).1
            simpa [tcells_len, lensOf_len] using this
          rw [List.getElem?_set, List.getElem?_set]
          by_cases h1 : q = j
          · subst h1
            have h7 : swp i q q = i := if_pos rfl
            rw [h7] at hl0 ⊢
            have : ri.length = l := by
              rw [lensOf, List.getElem?_map, hi] at hl0
              simpa using hl0
            simp only [if_true, List.length_set, hjl, this]
          · rw [if_neg h1]
            by_cases h2 : i = j
            · subst h2
              have h7 : swp i q i = q := by unfold swp; rw [if_neg fun e => h1 e.symm, if_pos rfl]
              rw [h7] at hl0 ⊢
              have : rq.length = l := by
                rw [lensOf, List.getElem?_map, hq] at hl0
                simpa using hl0
              simp only [if_true, hjl, this]
            · have h7 : swp i q j = j := by unfold swp; rw [if_neg fun e => h1 e.symm, if_neg fun e => h2 e.symm]
              rw [h7] at hl0 ⊢
              rw [if_neg h2]
              exact tcells_get hl0
        rcases hrn with ⟨h1, h2⟩ | ⟨b, cur, h1, h2, h3, h4, h5⟩
        · exact .inl ⟨hgn.trans h1, List.eq_nil_of_length_eq_zero (by rw [hlen, h2]; rfl)⟩
        · refine .inr ⟨b, cur, hgn.trans h1, h2, fun cs2 hcs2 => ?_, by rw [hlen]; exact h4, fun j k cs2 x2 hj hk => ?_⟩
          · obtain ⟨j, hj⟩ := List.mem_iff_getElem?.1 hcs2
            obtain ⟨l, rfl, h6⟩ := hcell j cs2 hj
            have := h3 _ (List.mem_of_getElem? h6)
            exact this
          · obtain ⟨l, rfl, h6⟩ := hcell j cs2 hj
            cases k with
            | succ k => simp at hk
            | zero =>
              have : x2 = .tl p j 0 l := by simpa using hk.symm
              subst this
              obtain ⟨u, hu, hr⟩ := h5 j 0 _ _ h6 rfl
              refine ⟨u, hu, hr.1, ?_⟩
              have hk2 : (upd g p (.pool bs2) p).at j = (g p).at (swp i q j) := by rw [hg2p, hat j]
              rcases hr.2 with ⟨z1, z2⟩ | z1 | ⟨b2, cap, cur2, e3, z1, z2⟩
              · exact .inl ⟨hk2.trans z1, z2⟩
              · exact .inr (.inl z1)
              · exact .inr (.inr ⟨b2, cap, cur2, e3, hk2.trans z1, z2⟩))
  exact ⟨R, B, _, hst⟩
end
end Go.Fw
end
section
set_option linter.unusedVariables false
set_option linter.unusedSimpArgs false
set_option linter.unnecessarySimpa false
namespace Go.Fw
section
variable {P : Program} {o : Oper} {α : Type} {enc : α → List PV}
theorem PRow.blk {w : World} {R B : Nat → Prop} {s : GS} {e : TypeId} {els : List (List PV)} (h : PRow P w R B s e els) {b : Nat} (hb : s = .blk b) {cur : Array Value} {e' : TypeId} (hh : w.heap[b]? = some (.cells cur e' (0, 0))) :
    e' = e ∧ (∀ cs ∈ els, cs.length = szP P e) ∧ els.length * szP P e ≤ cur.size ∧ ∀ (j k : Nat) cs x, els[j]? = some cs → cs[k]? = some x → ∃ u, cur[j * szP P e + k]? = some u ∧ RPV w R B x u := by
  rcases h with ⟨h1, _⟩ | ⟨b', cur', h1, h2, h3, h4, h5⟩
  · rw [hb] at h1; cases h1
  · rw [hb] at h1
    injection h1 with h1
    subst h1
    rw [hh] at h2
    injection h2 with h2
    injection h2 with h2 h6 h7
    subst h2
    subst h6
    exact ⟨rfl, h3, h4, h5⟩
theorem LT.tlindex {x y : Operand} {t e : TypeId} {i : Int} {p k len : Nat} {rows : List (List α)} {r : List α} {b : α} (hl : len = r.length) (ho : o.op = .indexAddr t x y) (h : elB P t = some e) (hk : rows[k]? = some r) (hi : idx r i = some b) :
    LT P o [(x, Cc (.tl p k 0 len)), (y, Iv i)] [(p, .pool e (rowsOf enc rows))] (Cc (.tpl p k (i.toNat * szP P e))) [] [] [] := .calm fun R B g w a _ hin hu => by
  subst hl
  have h0 := idx_nn hi
  have h1 := idx_lt hi
  have hy := sc_inv (in2 hin)
  have hrow := (us1 (ob := .pool e (rowsOf enc rows)) hu).2 k _ (rowsOf_get hk)
  obtain ⟨_, h2⟩ := in1 hin
  rcases h2 with ⟨_, _, h2, _⟩ | ⟨h2, _⟩ | ⟨b, cap, cur, e', k1, k2, k3, k4, k5, k6⟩
  · omega
  · omega
  · have he := (hrow.blk k1 k2).1
    subst he
    simp only [Nat.zero_mul] at k6
    exact ⟨.pointer (some ⟨b, i.toNat * szP P e', none⟩), by simp [execOp, ho, k6, hy, run_indexAt h ⟨b, 0, none⟩ r.length cap .i64 i h0 h1, add_lit], rfl, b, k1, rfl⟩
theorem LT.tlload1 {x : Operand} {t e : TypeId} {p k off j : Nat} {i : Int} {rows : List (List α)} {r : List α} {b : α} {q : PV} (ho : o.op = .load t x) (h : agB P t = some false) (hk : rows[k]? = some r) (hi : idx r i = some b) (hj : (enc b)[j]? = some q)
    (ha : off = i.toNat * szP P e + j) : LT P o [(x, Cc (.tpl p k off))] [(p, .pool e (rowsOf enc rows))] (Cc (.pv q)) [] [] [] := .calm fun R B g w a _ hin hu => by
  obtain ⟨_, bl, h2, h3⟩ := in1 hin
  rcases (us1 (ob := .pool e (rowsOf enc rows)) hu).2 k _ (rowsOf_get hk) with ⟨h4, _⟩ | ⟨b', cur, h4, h5, _, _, h8⟩
  · rw [h2] at h4; cases h4
  · rw [h2] at h4
    injection h4 with h4
    subst h4
    obtain ⟨u, hu1, hu2⟩ := h8 i.toNat j (enc b) q (by rw [List.getElem?_map, idx_get hi]; rfl) hj
    subst ha
    have hc : w.cell? ⟨bl, i.toNat * szP P e + j, none⟩ = some u := (row_cell h5 _).trans hu1
    exact ⟨u, by simp [execOp, ho, h3, run_loadAt1 h hc], hu2.oneCell, hu2⟩
theorem LT.tlstore {t e : TypeId} {p k off j s : Nat} (m : Nat) {x y : Operand} {i : Int} {rows : List (List α)} {r : List α} {b b' : α} {v : Value} {it : TypeInfo} (ho : o.op = .store t x y) (hd : o.dst = none) (hit : P.info? t = some it) (hs : szP P t = s) (hl : 1 = s) (hk : rows[k]? = some r) (hi : idx r i = some b)
    (ha : off = i.toNat * szP P e + j) (hjl : j + s ≤ (enc b).length) (hb : ow ((enc b).map CV.pv) j [CV.pv (.sc v)] = (enc b').map CV.pv) (hpm : Nat.beq p m = false) :
    LT P o [(x, Cc (.tpl p k off)), (y, Cc (.pv (.sc v)))] [(p, .pool e (rowsOf enc rows))] (.tup []) [(p, .pool e (rowsOf enc (rows.set k (r.set i.toNat b'))))] [p] [m] := by
  have h0 := LT.tstore (P := P) (o := o) (n := m) (e := e) (v := .c (.pv (.sc v))) ho hd hit hs (by simpa [svCells] using hl) hi ha hjl hb
  have h1 := LT.focus (p := p) (k := k) (us0 := []) (df0 := []) (rows := rowsOf enc rows) h0 (rowsOf_get hk) (by simp [focB, hpm, foA, foS, foC, nrC, Nat.beq_refl, Nat.ne_of_beq_eq_false hpm])
  have e1 : (rowsOf enc rows).set k ((r.set i.toNat b').map enc) = rowsOf enc (rows.set k (r.set i.toNat b')) := by simp [rowsOf, List.map_set]
  have e2 : Nat.beq m m = true := Nat.beq_refl m
  simp only [List.map_cons, List.map_nil, bkA, bkS, bkC, e2, cond_true, swN, e1] at h1
  exact h1
end
end Go.Fw
end
section
set_option linter.unusedVariables false
set_option linter.unusedSimpArgs false
set_option linter.unnecessarySimpa false
namespace Go.Fw
section
variable {P : Program} {C : Ctx} {σ : Slots} {mm : Mem} {α : Type} {enc : α → List PV}
theorem lens_set {rows : List (List α)} {k : Nat} {r r' : List α} (hk : rows[k]? = some r) (h : r'.length = r.length) : lensOf rows = lensOf (rows.set k r') := by
  refine List.ext_getElem? fun j => ?_
  have hl := (List.getElem?_eq_some_iff.1 hk).1
  simp only [lensOf, List.getElem?_map, List.getElem?_set]
  by_cases hj : k = j
  · subst hj
    rw [if_pos rfl, if_pos hl, hk, Option.map_some, Option.map_some, h]
  · rw [if_neg hj]
theorem PermO.poolR (h : ∀ a, PermPL (enc a)) {e : TypeId} (rows : List (List α)) : PermO (.pool e (rowsOf enc rows)) := fun els hels cs hcs p hp => by
  obtain ⟨r, _, rfl⟩ := List.mem_map.1 hels
  obtain ⟨a, _, rfl⟩ := List.mem_map.1 hcs
  exact (h a).spec p hp
theorem Ent.lens {n p : Nat} {e : TypeId} {lens lens' : List Nat} (he : lens = lens') (h : lk mm n = some (.trow e p lens)) : Ent P C σ mm σ ((n, .trow e p lens') :: mm) := fun R B g a w hs => by
  subst he
  exact ⟨R, B, g, hs.obj h (hs.ob n _ h)⟩
theorem ShC.ttrow {sh : Mem} {n p len : Nat} {e e2 : TypeId} {rows : List (List α)} {encL : List α → List PV} (hl : len = rows.length) (h1 : lk sh n = some (.trow e p (lensOf rows))) (h2 : lk sh p = some (.pool e2 (rowsOf enc rows))) (hE : ∀ r, encL r = [.xs false (r.map enc)]) : ShC sh (.loc n 0 len) (.pv (.xs false (rows.map encL))) := by
  subst hl
  have := ShC.trow h1 h2 (by simp [lensOf, rowsOf, Function.comp_def])
  rw [lensOf_len] at this
  have e1 : (rowsOf enc rows).map (fun r => [PV.xs false r]) = rows.map encL := by
    rw [rowsOf, List.map_map]
    exact List.map_congr_left fun r _ => (hE r).symm
  rwa [e1] at this
theorem Ent.poolE (p : Nat) (e2 : TypeId) (hd : C.pn.elem p = false) : Ent P C σ mm (junkSl [p] σ) ((p, .pool e2 []) :: junkM [p] mm) := fun R B g a w hs => by
  have hp1 := notin_of_elem hd
  have had : Adv R B g w [] [p] R B (upd g p (.pool [])) w := by
    refine ⟨hs.wf.upd p _ (Nat.le_refl _) (fun b hb => by cases hb) (fun i j b hi => by simp [GS.at] at hi), fun _ h => h, fun _ h => h, rfl, rfl, rfl, Nat.le_refl _, fun _ _ _ => rfl, fun q hq => upd_ne g _ (by simpa using hq), fun q hq b hb => ?_, fun q hq => by cases hq⟩
    have : q = p := by simpa using hq
    subst this
    rw [upd_same] at hb
    cases hb
  exact ⟨R, B, _, hs.step (us := []) (df := [(p, .pool e2 [])]) (W := []) (X := [p]) (d := none) (v := .tup []) (u := undef) trivial (fun _ h => by cases h) (fun q hq => by
      have : q = (p, .pool e2 []) := by simpa using hq
      subst this; exact .inl (by simp)) rfl (fun q hq => by
      have : q = p := by simpa using hq
      subst this; exact hp1) had (fun b hb => .inl hb) (fun h => by cases h) (one_ro ⟨⟨[], upd_same .., rfl⟩, fun k els hk => by simp at hk⟩)⟩
end
end Go.Fw
end
section
set_option linter.unusedVariables false
set_option linter.unusedSimpArgs false
set_option linter.unnecessarySimpa false
namespace Go.Fw
section
variable {P : Program} {o : Oper} {α : Type} {enc : α → List PV}
theorem tcells_get1 {p : Nat} {lens : List Nat} {j : Nat} (h : j < lens.length) : ∃ c, (tcells p lens)[j]? = some [c] := by
  obtain ⟨l, hl⟩ : ∃ l, lens[j]? = some l := ⟨lens[j], List.getElem?_eq_getElem h⟩
  exact ⟨_, tcells_get hl⟩
theorem LT.xstore {x y : Operand} {t e : TypeId} {n p off : Nat} {i : Int} {rows : List (List α)} {r : List α} {c : CV} {it : TypeInfo} (ho : o.op = .store t x y) (hd : o.dst = none) (hit : P.info? t = some it) (hs : szP P t = 1) (hi : idx rows i = some r) (ha : off = i.toNat * szP P e) :
    LT P o [(x, Cc (.pl n off)), (y, Cc c)] [(n, .trow e p (lensOf rows))] (.tup []) [(n, .row e ((tcells p (lensOf rows)).set i.toNat [c]))] [n] [] := by
  obtain ⟨c0, h0⟩ := tcells_get1 (p := p) (lens := lensOf rows) (j := i.toNat) (by rw [lensOf_len]; exact (List.getElem?_eq_some_iff.1 (idx_get hi)).1)
  have := LT.store (P := P) (o := o) (n := n) (off := off) (e := e) (els := tcells p (lensOf rows)) (k := 0) (v := .c c) ho hd hit hs rfl h0 (by rw [ha, Nat.add_zero]) (Nat.le_refl _)
  exact LT.usT this
theorem LT.xstore2 {x y : Operand} {t e : TypeId} {n p off k : Nat} {i : Int} {rows : List (List α)} {r : List α} {c c1 : CV} {it : TypeInfo} (ho : o.op = .store t x y) (hd : o.dst = none) (hit : P.info? t = some it) (hs : szP P t = 1) (hi : idx rows i = some r) (ha : off = i.toNat * szP P e) :
    LT P o [(x, Cc (.pl n off)), (y, Cc c)] [(n, .row e ((tcells p (lensOf rows)).set k [c1]))] (.tup []) [(n, .row e (((tcells p (lensOf rows)).set k [c1]).set i.toNat [c]))] [n] [] := by
  have hl : i.toNat < (lensOf rows).length := by rw [lensOf_len]; exact (List.getElem?_eq_some_iff.1 (idx_get hi)).1
  obtain ⟨c0, h0⟩ := tcells_get1 (p := p) hl
  obtain ⟨c2, h2⟩ : ∃ c2, ((tcells p (lensOf rows)).set k [c1])[i.toNat]? = some [c2] := by
    rw [List.getElem?_set]
    by_cases hk : k = i.toNat
    · rw [if_pos hk, if_pos (by rw [hk, tcells_len]; exact hl)]; exact ⟨c1, rfl⟩
    · rw [if_neg hk]; exact ⟨c0, h0⟩
  exact LT.store (P := P) (o := o) (n := n) (off := off) (e := e) (k := 0) (v := .c c) ho hd hit hs rfl h2 (by rw [ha, Nat.add_zero]) (Nat.le_refl _)
theorem LT.xindexS {x y : Operand} {t e : TypeId} {i : Int} {n len : Nat} {els : List (List CV)} {rows : List (List α)} {r : List α} (hl : len = rows.length) (ho : o.op = .indexAddr t x y) (h : elB P t = some e) (hi : idx rows i = some r) :
    LT P o [(x, Cc (.loc n 0 len)), (y, Iv i)] [(n, .row e els)] (Cc (.pl n (i.toNat * szP P e))) [] [] [] := by
  subst hl
  exact LT.indexLoc ho h (idx_nn hi) (idx_lt hi)
theorem len_snoc {β : Type} {l : List β} {x : β} : l.length + 1 = (l ++ [x]).length := by simp
end
end Go.Fw
end
section
set_option linter.unusedVariables false
set_option linter.unusedSimpArgs false
set_option linter.unnecessarySimpa false
namespace Go.Fw
inductive FrC (n : Nat) (els : List (List PV)) : CV → CV → Prop
  | same {x y : CV} (h : junkC [n] x = y) : FrC n els x y
  | fr {l : Nat} (h : l = els.length) : FrC n els (.loc n 0 l) (.pv (.xs true els))
inductive FrL (n : Nat) (els : List (List PV)) : List CV → List CV → Prop
  | nil : FrL n els [] []
  | cons {x y : CV} {xs ys : List CV} (h : FrC n els x y) (t : FrL n els xs ys) : FrL n els (x :: xs) (y :: ys)
inductive FrA (n : Nat) (els : List (List PV)) : AV → AV → Prop
  | same {x y : AV} (h : junkA [n] x = y) : FrA n els x y
  | c {x y : CV} (h : FrC n els x y) : FrA n els (.s (.c x)) (.s (.c y))
  | agg {xs ys : List CV} (h : FrL n els xs ys) : FrA n els (.s (.agg xs)) (.s (.agg ys))
inductive FrO (n : Nat) (els : List (List PV)) : Ob → Ob → Prop
  | same {x y : Ob} (h : junkO [n] x = y) : FrO n els x y
  | row {e : TypeId} {xs ys : List CV} (h : FrL n els xs ys) : FrO n els (.row e [xs]) (.row e [ys])
def FrSl (n : Nat) (els : List (List PV)) (σ : Slots) : Slots → Prop
  | [] => True
  | (t, v) :: r => (∃ x, lk σ t = some x ∧ FrA n els x v) ∧ FrSl n els σ r
def FrM (n : Nat) (els : List (List PV)) (m : Mem) : Mem → Prop
  | [] => True
  | (k, o) :: r => (Nat.beq k n = false ∧ ∃ x, lk m k = some x ∧ FrO n els x o) ∧ FrM n els m r
section
variable {P : Program} {C : Ctx} {σ σ' : Slots} {m m' : Mem} {n : Nat} {els : List (List PV)}
theorem FrSl.get : ∀ {σ' : Slots}, FrSl n els σ σ' → ∀ t v, lk σ' t = some v → ∃ x, lk σ t = some x ∧ FrA n els x v
  | [], _, t, v, h => by cases h
  | (k, v') :: r, h, t, v, hl => by
    change (bif Nat.beq k t then some v' else lk r t) = some v at hl
    cases hb : Nat.beq k t with
    | true =>
      rw [hb, cond_true] at hl
      injection hl with hl
      subst hl
      have := Nat.eq_of_beq_eq_true hb
      subst this
      exact h.1
    | false =>
      rw [hb, cond_false] at hl
      exact FrSl.get h.2 t v hl
theorem FrM.get : ∀ {m' : Mem}, FrM n els m m' → ∀ k o, lk m' k = some o → k ≠ n ∧ ∃ x, lk m k = some x ∧ FrO n els x o
  | [], _, t, v, h => by cases h
  | (k, v') :: r, h, t, v, hl => by
    change (bif Nat.beq k t then some v' else lk r t) = some v at hl
    cases hb : Nat.beq k t with
    | true =>
      rw [hb, cond_true] at hl
      injection hl with hl
      subst hl
      have := Nat.eq_of_beq_eq_true hb
      subst this
      exact ⟨Nat.ne_of_beq_eq_false h.1.1, h.1.2⟩
    | false =>
      rw [hb, cond_false] at hl
      exact FrM.get h.2 t v hl
theorem FrL.get {xs ys : List CV} (h : FrL n els xs ys) : xs.length = ys.length ∧ ∀ (k : Nat) y, ys[k]? = some y → ∃ x, xs[k]? = some x ∧ FrC n els x y := by
  induction h with
  | nil => exact ⟨rfl, fun k y h => by simp at h⟩
  | cons h _ ih =>
    refine ⟨by simp [ih.1], fun k y hk => ?_⟩
    cases k with
    | zero => simp at hk; subst hk; exact ⟨_, rfl, h⟩
    | succ k => exact ih.2 k y (by simpa using hk)
section
variable {w : World} {R B R' B' : Nat → Prop} {g g' : Nat → GS}
theorem FrC.rc (had : Adv R B g w [] [n] R' B' g' w) (hw : WF R B g w) (hv : ∀ v, RC P w R B g (.loc n 0 els.length) v → RPV w R' B' (.xs true els) v) {x y : CV} {v : Value} (h : FrC n els x y) (hx : RC P w R B g x v) : RC P w R' B' g' y v := by
  cases h with
  | same h => subst h; exact had.rc hw hx
  | fr h => subst h; exact ⟨hx.1, hv v hx⟩
theorem FrL.rl (had : Adv R B g w [] [n] R' B' g' w) (hw : WF R B g w) (hv : ∀ v, RC P w R B g (.loc n 0 els.length) v → RPV w R' B' (.xs true els) v) {xs ys : List CV} (h : FrL n els xs ys) {us : Nat → Option Value} (hx : ∀ (k : Nat) x, xs[k]? = some x → ∃ u, us k = some u ∧ RC P w R B g x u) :
    ∀ (k : Nat) y, ys[k]? = some y → ∃ u, us k = some u ∧ RC P w R' B' g' y u := fun k y hk => by
  obtain ⟨x, h1, h2⟩ := h.get.2 k y hk
  obtain ⟨u, h3, h4⟩ := hx k x h1
  exact ⟨u, h3, h2.rc had hw hv h4⟩
theorem FrA.ra (had : Adv R B g w [] [n] R' B' g' w) (hw : WF R B g w) (hv : ∀ v, RC P w R B g (.loc n 0 els.length) v → RPV w R' B' (.xs true els) v) {x y : AV} {v : Value} (h : FrA n els x y) (hx : RA P w R B g x v) : RA P w R' B' g' y v := by
  cases h with
  | same h => subst h; exact had.ra hw hx
  | c h => exact FrC.rc had hw hv h hx
  | agg h =>
    obtain ⟨vs, h1, h2, h3⟩ := hx
    exact ⟨vs, h1, h2.trans h.get.1, FrL.rl had hw hv h h3⟩
theorem FrO.ro (had : Adv R B g w [] [n] R' B' g' w) (hw : WF R B g w) (hv : ∀ v, RC P w R B g (.loc n 0 els.length) v → RPV w R' B' (.xs true els) v) {k : Nat} (hk : k ≠ n) {x y : Ob} (h : FrO n els x y) (hx : RO P w R B g k x) : RO P w R' B' g' k y := by
  cases h with
  | same h => subst h; exact had.ro hw (by simpa using hk) (by simp) hx
  | @row e xs ys h =>
    have hg : g' k = g k := had.names k (by simpa using hk)
    rcases hx with ⟨h1, h2⟩ | ⟨b, cur, h1, h2, h3, h4, h5⟩
    · cases h2
    · refine .inr ⟨b, cur, hg.trans h1, h2, fun cs hcs => ?_, h4, fun j i cs y hj hi => ?_⟩
      · have : cs = ys := by simpa using hcs
        subst this
        rw [← h.get.1]
        exact h3 xs (by simp)
      · cases j with
        | succ j => simp at hj
        | zero =>
          have : ys = cs := by simpa using hj
          subst this
          exact FrL.rl had hw hv h (us := fun i => cur[0 * szP P e + i]?) (fun i x hi => h5 0 i xs x rfl hi) i y hi
end
variable {α : Type} {enc : α → List PV}
theorem Ent.freezeA (n : Nat) {e : TypeId} {xs : List α} (hU : ∀ b, C.U0 b → ∃ k ∈ C.pn, (C.g0 k).has b) (hn : C.pn.elem n = false) (ho : lk m n = some (.prow e (xs.map enc)))
    (h1 : FrSl n (xs.map enc) σ σ') (h2 : FrM n (xs.map enc) m m') : Ent P C σ m σ' m' := fun R B g a w hs => by
  obtain ⟨R', B', g', had, hs', hv⟩ := hs.freeze ho (fun h => by rw [List.elem_eq_true_of_mem h] at hn; cases hn) hU
  refine ⟨R', B', g', { hs' with sl := fun t v hl => ?_, ob := fun k o hl => ?_, ow := fun k o b hl hg => ?_ }⟩
  · obtain ⟨x, h3, h4⟩ := h1.get t v hl
    exact h4.ra had hs.wf hv (hs.sl t x h3)
  · obtain ⟨hk, x, h3, h4⟩ := h2.get k o hl
    exact h4.ro had hs.wf hv hk (hs.ob k x h3)
  · obtain ⟨hk, x, h3, h4⟩ := h2.get k o hl
    rw [had.names k (by simpa using hk)] at hg
    exact hs.ow k x b h3 hg
end
end Go.Fw
end
section
set_option linter.unusedVariables false
set_option linter.unusedSimpArgs false
set_option linter.unnecessarySimpa false
namespace Go.Fw
abbrev xF {α : Type} (enc : α → List PV) (l : List α) : CV := .pv (.xs false (l.map enc))
abbrev xT {α : Type} (enc : α → List PV) (l : List α) : CV := .pv (.xs true (l.map enc))
abbrev lo (n len : Nat) : CV := .loc n 0 len
abbrev pR {α : Type} (e : TypeId) (enc : α → List PV) (l : List α) : Ob := .prow e (l.map enc)
section
variable {P : Program} {C : Ctx} {σ : Slots} {m : Mem} {is : List It} {τ υ : Type} {M : Option τ} {K : τ → Post} {ops : Array Oper} {l : List Oper} {done : List Ct} {rest : List Oper} {o : Oper}
theorem On (h : AWR P C is σ m M K) : AOR P C ops [] is σ m M K := AOR.nil h
theorem Ob' {x : Option υ} {f : υ → Option τ} (h : ∀ u, x = some u → AOR P C ops rest is σ m (f u) K) : AOR P C ops rest is σ m (x.bind f) K := AOR.bind h
theorem Ws {x y : Code} (h : AWR P C (.code x :: .code y :: is) σ m M K) : AWR P C (.code (.seq x y) :: is) σ m M K := AWR.seq h
theorem Wr {id : Nat} {l : List Oper} (h : AOR P C l.toArray l is σ m M K) : AWR P C (.code (.region id l.toArray false) :: is) σ m M K := AWR.region h
theorem Ok {j : Nat} {want : Bool} {d : Tmp} {c : Bool} (hg : o.guard = some (j, want)) (h1 : (ops[j]?).bind (·.dst) = some d) (h2 : lk σ d = some (Bv c)) (h3 : (c == want) = false) (hd : dstOk C.N o.dst = true) (h : AOR P C ops rest is (setD σ o.dst (.tup [])) m M K) : AOR P C ops (o :: rest) is σ m M K :=
  AOR.skip (by unfold GuardIs; rw [hg]; exact ⟨d, h1, .inl ⟨c, h2, h3.symm⟩⟩) hd h
theorem Oj {j : Nat} {want : Bool} {d : Tmp} (hg : o.guard = some (j, want)) (h1 : (ops[j]?).bind (·.dst) = some d) (h2 : lk σ d = some (.tup [])) (hd : dstOk C.N o.dst = true) (h : AOR P C ops rest is (setD σ o.dst (.tup [])) m M K) : AOR P C ops (o :: rest) is σ m M K :=
  AOR.skip (by unfold GuardIs; rw [hg]; exact ⟨d, h1, .inr ⟨h2, rfl⟩⟩) hd h
theorem Op00   {v : AV} (hlt : LT P o [] [] v [] [] [])   (hg : GuardIs ops σ o true) (hd : dstOk C.N o.dst = true) (h : AOR P C ops rest is (setD σ o.dst v) m M K) : AOR P C ops (o :: rest) is σ m M K := AOR.pure hlt trivial trivial hg hd h
theorem Os00   {v : AV} {df : Mem} {W X : List Nat} (hlt : LT P o [] [] v df W X)   (hg : GuardIs ops σ o true) (hs : (dstOk C.N o.dst && subL W (X ++ keys df) && subL W (keys ([] : Mem)) && subL (keys df) (X ++ W) && disL X C.pn) = true) (h : AOR P C ops rest is (setD (junkSl X σ) o.dst v) (df ++ junkM X m) M K) : AOR P C ops (o :: rest) is σ m M K := AOR.step hlt trivial trivial hg hs h
theorem Ds00   {v : AV} {df : Mem} {W X : List Nat} (hlt : LT P o [] [] v df W X)   (hg : GuardIs l.toArray σ o true) (hs : (dstOk C.N o.dst && subL W (X ++ keys df) && subL W (keys ([] : Mem)) && subL (keys df) (X ++ W) && disL X C.pn) = true) (h : AOD P C l (⟨[], [], v, df, W, X, true⟩ :: done) rest is (setD (junkSl X σ) o.dst v) (df ++ junkM X m) M K) : AOD P C l done (o :: rest) is σ m M K := AOD.step hlt trivial trivial hg hs h
theorem Op10 {x0 : Operand} {v0 : AV}  {v : AV} (hlt : LT P o [(x0, v0)] [] v [] [] []) (e0 : EvO σ x0 v0)  (hg : GuardIs ops σ o true) (hd : dstOk C.N o.dst = true) (h : AOR P C ops rest is (setD σ o.dst v) m M K) : AOR P C ops (o :: rest) is σ m M K := AOR.pure hlt ⟨e0, trivial⟩ trivial hg hd h
theorem Os10 {x0 : Operand} {v0 : AV}  {v : AV} {df : Mem} {W X : List Nat} (hlt : LT P o [(x0, v0)] [] v df W X) (e0 : EvO σ x0 v0)  (hg : GuardIs ops σ o true) (hs : (dstOk C.N o.dst && subL W (X ++ keys df) && subL W (keys ([] : Mem)) && subL (keys df) (X ++ W) && disL X C.pn) = true) (h : AOR P C ops rest is (setD (junkSl X σ) o.dst v) (df ++ junkM X m) M K) : AOR P C ops (o :: rest) is σ m M K := AOR.step hlt ⟨e0, trivial⟩ trivial hg hs h
theorem Dp10 {x0 : Operand} {v0 : AV}  {v : AV} (hlt : LT P o [(x0, v0)] [] v [] [] []) (e0 : EvO σ x0 v0)  (hg : GuardIs l.toArray σ o true) (hd : dstOk C.N o.dst = true) (h : AOD P C l (⟨[(x0, v0)], [], v, [], [], [], true⟩ :: done) rest is (setD σ o.dst v) m M K) : AOD P C l done (o :: rest) is σ m M K := AOD.pure hlt ⟨e0, trivial⟩ trivial hg hd h
theorem Ds10 {x0 : Operand} {v0 : AV}  {v : AV} {df : Mem} {W X : List Nat} (hlt : LT P o [(x0, v0)] [] v df W X) (e0 : EvO σ x0 v0)  (hg : GuardIs l.toArray σ o true) (hs : (dstOk C.N o.dst && subL W (X ++ keys df) && subL W (keys ([] : Mem)) && subL (keys df) (X ++ W) && disL X C.pn) = true) (h : AOD P C l (⟨[(x0, v0)], [], v, df, W, X, true⟩ :: done) rest is (setD (junkSl X σ) o.dst v) (df ++ junkM X m) M K) : AOD P C l done (o :: rest) is σ m M K := AOD.step hlt ⟨e0, trivial⟩ trivial hg hs h
theorem Op11 {x0 : Operand} {v0 : AV} {n0 : Nat} {o0 : Ob} {v : AV} (hlt : LT P o [(x0, v0)] [(n0, o0)] v [] [] []) (e0 : EvO σ x0 v0) (l0 : lk m n0 = some o0) (hg : GuardIs ops σ o true) (hd : dstOk C.N o.dst = true) (h : AOR P C ops rest is (setD σ o.dst v) m M K) : AOR P C ops (o :: rest) is σ m M K := AOR.pure hlt ⟨e0, trivial⟩ ⟨l0, trivial⟩ hg hd h
theorem Dp11 {x0 : Operand} {v0 : AV} {n0 : Nat} {o0 : Ob} {v : AV} (hlt : LT P o [(x0, v0)] [(n0, o0)] v [] [] []) (e0 : EvO σ x0 v0) (l0 : lk m n0 = some o0) (hg : GuardIs l.toArray σ o true) (hd : dstOk C.N o.dst = true) (h : AOD P C l (⟨[(x0, v0)], [(n0, o0)], v, [], [], [], true⟩ :: done) rest is (setD σ o.dst v) m M K) : AOD P C l done (o :: rest) is σ m M K := AOD.pure hlt ⟨e0, trivial⟩ ⟨l0, trivial⟩ hg hd h
theorem Op20 {x0 : Operand} {v0 : AV} {x1 : Operand} {v1 : AV}  {v : AV} (hlt : LT P o [(x0, v0), (x1, v1)] [] v [] [] []) (e0 : EvO σ x0 v0) (e1 : EvO σ x1 v1)  (hg : GuardIs ops σ o true) (hd : dstOk C.N o.dst = true) (h : AOR P C ops rest is (setD σ o.dst v) m M K) : AOR P C ops (o :: rest) is σ m M K := AOR.pure hlt ⟨e0, e1, trivial⟩ trivial hg hd h
theorem Os20 {x0 : Operand} {v0 : AV} {x1 : Operand} {v1 : AV}  {v : AV} {df : Mem} {W X : List Nat} (hlt : LT P o [(x0, v0), (x1, v1)] [] v df W X) (e0 : EvO σ x0 v0) (e1 : EvO σ x1 v1)  (hg : GuardIs ops σ o true) (hs : (dstOk C.N o.dst && subL W (X ++ keys df) && subL W (keys ([] : Mem)) && subL (keys df) (X ++ W) && disL X C.pn) = true) (h : AOR P C ops rest is (setD (junkSl X σ) o.dst v) (df ++ junkM X m) M K) : AOR P C ops (o :: rest) is σ m M K := AOR.step hlt ⟨e0, e1, trivial⟩ trivial hg hs h
theorem Dp20 {x0 : Operand} {v0 : AV} {x1 : Operand} {v1 : AV}  {v : AV} (hlt : LT P o [(x0, v0), (x1, v1)] [] v [] [] []) (e0 : EvO σ x0 v0) (e1 : EvO σ x1 v1)  (hg : GuardIs l.toArray σ o true) (hd : dstOk C.N o.dst = true) (h : AOD P C l (⟨[(x0, v0), (x1, v1)], [], v, [], [], [], true⟩ :: done) rest is (setD σ o.dst v) m M K) : AOD P C l done (o :: rest) is σ m M K := AOD.pure hlt ⟨e0, e1, trivial⟩ trivial hg hd h
theorem Op21 {x0 : Operand} {v0 : AV} {x1 : Operand} {v1 : AV} {n0 : Nat} {o0 : Ob} {v : AV} (hlt : LT P o [(x0, v0), (x1, v1)] [(n0, o0)] v [] [] []) (e0 : EvO σ x0 v0) (e1 : EvO σ x1 v1) (l0 : lk m n0 = some o0) (hg : GuardIs ops σ o true) (hd : dstOk C.N o.dst = true) (h : AOR P C ops rest is (setD σ o.dst v) m M K) : AOR P C ops (o :: rest) is σ m M K := AOR.pure hlt ⟨e0, e1, trivial⟩ ⟨l0, trivial⟩ hg hd h
theorem Os21 {x0 : Operand} {v0 : AV} {x1 : Operand} {v1 : AV} {n0 : Nat} {o0 : Ob} {v : AV} {df : Mem} {W X : List Nat} (hlt : LT P o [(x0, v0), (x1, v1)] [(n0, o0)] v df W X) (e0 : EvO σ x0 v0) (e1 : EvO σ x1 v1) (l0 : lk m n0 = some o0) (hg : GuardIs ops σ o true) (hs : (dstOk C.N o.dst && subL W (X ++ keys df) && subL W (keys [(n0, o0)]) && subL (keys df) (X ++ W) && disL X C.pn) = true) (h : AOR P C ops rest is (setD (junkSl X σ) o.dst v) (df ++ junkM X m) M K) : AOR P C ops (o :: rest) is σ m M K := AOR.step hlt ⟨e0, e1, trivial⟩ ⟨l0, trivial⟩ hg hs h
theorem Dp21 {x0 : Operand} {v0 : AV} {x1 : Operand} {v1 : AV} {n0 : Nat} {o0 : Ob} {v : AV} (hlt : LT P o [(x0, v0), (x1, v1)] [(n0, o0)] v [] [] []) (e0 : EvO σ x0 v0) (e1 : EvO σ x1 v1) (l0 : lk m n0 = some o0) (hg : GuardIs l.toArray σ o true) (hd : dstOk C.N o.dst = true) (h : AOD P C l (⟨[(x0, v0), (x1, v1)], [(n0, o0)], v, [], [], [], true⟩ :: done) rest is (setD σ o.dst v) m M K) : AOD P C l done (o :: rest) is σ m M K := AOD.pure hlt ⟨e0, e1, trivial⟩ ⟨l0, trivial⟩ hg hd h
theorem Ds21 {x0 : Operand} {v0 : AV} {x1 : Operand} {v1 : AV} {n0 : Nat} {o0 : Ob} {v : AV} {df : Mem} {W X : List Nat} (hlt : LT P o [(x0, v0), (x1, v1)] [(n0, o0)] v df W X) (e0 : EvO σ x0 v0) (e1 : EvO σ x1 v1) (l0 : lk m n0 = some o0) (hg : GuardIs l.toArray σ o true) (hs : (dstOk C.N o.dst && subL W (X ++ keys df) && subL W (keys [(n0, o0)]) && subL (keys df) (X ++ W) && disL X C.pn) = true) (h : AOD P C l (⟨[(x0, v0), (x1, v1)], [(n0, o0)], v, df, W, X, true⟩ :: done) rest is (setD (junkSl X σ) o.dst v) (df ++ junkM X m) M K) : AOD P C l done (o :: rest) is σ m M K := AOD.step hlt ⟨e0, e1, trivial⟩ ⟨l0, trivial⟩ hg hs h
theorem Os22 {x0 : Operand} {v0 : AV} {x1 : Operand} {v1 : AV} {n0 : Nat} {o0 : Ob} {n1 : Nat} {o1 : Ob} {v : AV} {df : Mem} {W X : List Nat} (hlt : LT P o [(x0, v0), (x1, v1)] [(n0, o0), (n1, o1)] v df W X) (e0 : EvO σ x0 v0) (e1 : EvO σ x1 v1) (l0 : lk m n0 = some o0) (l1 : lk m n1 = some o1) (hg : GuardIs ops σ o true) (hs : (dstOk C.N o.dst && subL W (X ++ keys df) && subL W (keys [(n0, o0), (n1, o1)]) && subL (keys df) (X ++ W) && disL X C.pn) = true) (h : AOR P C ops rest is (setD (junkSl X σ) o.dst v) (df ++ junkM X m) M K) : AOR P C ops (o :: rest) is σ m M K := AOR.step hlt ⟨e0, e1, trivial⟩ ⟨l0, l1, trivial⟩ hg hs h
theorem Ds22 {x0 : Operand} {v0 : AV} {x1 : Operand} {v1 : AV} {n0 : Nat} {o0 : Ob} {n1 : Nat} {o1 : Ob} {v : AV} {df : Mem} {W X : List Nat} (hlt : LT P o [(x0, v0), (x1, v1)] [(n0, o0), (n1, o1)] v df W X) (e0 : EvO σ x0 v0) (e1 : EvO σ x1 v1) (l0 : lk m n0 = some o0) (l1 : lk m n1 = some o1) (hg : GuardIs l.toArray σ o true) (hs : (dstOk C.N o.dst && subL W (X ++ keys df) && subL W (keys [(n0, o0), (n1, o1)]) && subL (keys df) (X ++ W) && disL X C.pn) = true) (h : AOD P C l (⟨[(x0, v0), (x1, v1)], [(n0, o0), (n1, o1)], v, df, W, X, true⟩ :: done) rest is (setD (junkSl X σ) o.dst v) (df ++ junkM X m) M K) : AOD P C l done (o :: rest) is σ m M K := AOD.step hlt ⟨e0, e1, trivial⟩ ⟨l0, l1, trivial⟩ hg hs h
theorem Op30 {x0 : Operand} {v0 : AV} {x1 : Operand} {v1 : AV} {x2 : Operand} {v2 : AV}  {v : AV} (hlt : LT P o [(x0, v0), (x1, v1), (x2, v2)] [] v [] [] []) (e0 : EvO σ x0 v0) (e1 : EvO σ x1 v1) (e2 : EvO σ x2 v2)  (hg : GuardIs ops σ o true) (hd : dstOk C.N o.dst = true) (h : AOR P C ops rest is (setD σ o.dst v) m M K) : AOR P C ops (o :: rest) is σ m M K := AOR.pure hlt ⟨e0, e1, e2, trivial⟩ trivial hg hd h
theorem Os30 {x0 : Operand} {v0 : AV} {x1 : Operand} {v1 : AV} {x2 : Operand} {v2 : AV}  {v : AV} {df : Mem} {W X : List Nat} (hlt : LT P o [(x0, v0), (x1, v1), (x2, v2)] [] v df W X) (e0 : EvO σ x0 v0) (e1 : EvO σ x1 v1) (e2 : EvO σ x2 v2)  (hg : GuardIs ops σ o true) (hs : (dstOk C.N o.dst && subL W (X ++ keys df) && subL W (keys ([] : Mem)) && subL (keys df) (X ++ W) && disL X C.pn) = true) (h : AOR P C ops rest is (setD (junkSl X σ) o.dst v) (df ++ junkM X m) M K) : AOR P C ops (o :: rest) is σ m M K := AOR.step hlt ⟨e0, e1, e2, trivial⟩ trivial hg hs h
theorem Dp30 {x0 : Operand} {v0 : AV} {x1 : Operand} {v1 : AV} {x2 : Operand} {v2 : AV}  {v : AV} (hlt : LT P o [(x0, v0), (x1, v1), (x2, v2)] [] v [] [] []) (e0 : EvO σ x0 v0) (e1 : EvO σ x1 v1) (e2 : EvO σ x2 v2)  (hg : GuardIs l.toArray σ o true) (hd : dstOk C.N o.dst = true) (h : AOD P C l (⟨[(x0, v0), (x1, v1), (x2, v2)], [], v, [], [], [], true⟩ :: done) rest is (setD σ o.dst v) m M K) : AOD P C l done (o :: rest) is σ m M K := AOD.pure hlt ⟨e0, e1, e2, trivial⟩ trivial hg hd h
theorem Ds30 {x0 : Operand} {v0 : AV} {x1 : Operand} {v1 : AV} {x2 : Operand} {v2 : AV}  {v : AV} {df : Mem} {W X : List Nat} (hlt : LT P o [(x0, v0), (x1, v1), (x2, v2)] [] v df W X) (e0 : EvO σ x0 v0) (e1 : EvO σ x1 v1) (e2 : EvO σ x2 v2)  (hg : GuardIs l.toArray σ o true) (hs : (dstOk C.N o.dst && subL W (X ++ keys df) && subL W (keys ([] : Mem)) && subL (keys df) (X ++ W) && disL X C.pn) = true) (h : AOD P C l (⟨[(x0, v0), (x1, v1), (x2, v2)], [], v, df, W, X, true⟩ :: done) rest is (setD (junkSl X σ) o.dst v) (df ++ junkM X m) M K) : AOD P C l done (o :: rest) is σ m M K := AOD.step hlt ⟨e0, e1, e2, trivial⟩ trivial hg hs h
theorem Os31 {x0 : Operand} {v0 : AV} {x1 : Operand} {v1 : AV} {x2 : Operand} {v2 : AV} {n0 : Nat} {o0 : Ob} {v : AV} {df : Mem} {W X : List Nat} (hlt : LT P o [(x0, v0), (x1, v1), (x2, v2)] [(n0, o0)] v df W X) (e0 : EvO σ x0 v0) (e1 : EvO σ x1 v1) (e2 : EvO σ x2 v2) (l0 : lk m n0 = some o0) (hg : GuardIs ops σ o true) (hs : (dstOk C.N o.dst && subL W (X ++ keys df) && subL W (keys [(n0, o0)]) && subL (keys df) (X ++ W) && disL X C.pn) = true) (h : AOR P C ops rest is (setD (junkSl X σ) o.dst v) (df ++ junkM X m) M K) : AOR P C ops (o :: rest) is σ m M K := AOR.step hlt ⟨e0, e1, e2, trivial⟩ ⟨l0, trivial⟩ hg hs h
theorem mv (v : AV) {x : Operand} (ho : o.op = .move x) (e : EvO σ x v) (hg : GuardIs ops σ o true) (hd : dstOk C.N o.dst = true) (h : AOR P C ops rest is (setD σ o.dst v) m M K) : AOR P C ops (o :: rest) is σ m M K := AOR.pure (LT.move ho) ⟨e, trivial⟩ trivial hg hd h
theorem asg (v : AV) {x : Operand} (ho : o.op = .assign x) (e : EvO σ x v) (hg : GuardIs ops σ o true) (hd : dstOk C.N o.dst = true) (h : AOR P C ops rest is (setD σ o.dst v) m M K) : AOR P C ops (o :: rest) is σ m M K := AOR.pure (LT.assign ho) ⟨e, trivial⟩ trivial hg hd h
theorem en (σ' : Slots) (m' : Mem) (h1 : SubS σ' σ) (h2 : SubM m' m) (k : AWR P C is σ' m' M K) : AWR P C is σ m M K := AWR.ent (Ent.of h1 h2) k
end
end Go.Fw
end
section
set_option linter.unusedVariables false
set_option linter.unusedSimpArgs false
set_option linter.unnecessarySimpa false
set_option maxRecDepth 100000
set_option maxHeartbeats 8000000
open Go Go.Fw
namespace Go.Proofs.Ytghofbijdnenoaa
structure TBar where
  mk ::
  A : Int
  B : Int
structure TGraph where
  mk ::
  Points : Int
  Bars : (List TBar)
structure TPlace where
  mk ::
  X : Int
  Y : Int
structure TFramework where
  mk ::
  Graph : TGraph
  Places : (List TPlace)
structure Tl1Cur where
  mk ::
  b : (List Int)
  i : Int
  h : Int
structure TPebbles where
  mk ::
  Free : (List Int)
  Tails : (List Int)
  Placed : (List Int)
def encInt_u8 (a : Int) : List PV := [.sc (.int .u8 a)]
theorem perm_encInt_u8 (a : Int) : PermPL (encInt_u8 a) := ⟨.sc, trivial⟩
theorem qw_encInt_u8 (a : Int) : QWL (encInt_u8 a) (encInt_u8 a) := ⟨.sc, trivial⟩
def encTBar (a : TBar) : List PV := [.sc (.int .i64 a.A), .sc (.int .i64 a.B)]
theorem perm_encTBar (a : TBar) : PermPL (encTBar a) := ⟨.sc, .sc, trivial⟩
def encTPlace (a : TPlace) : List PV := [.sc (.int .i64 a.X), .sc (.int .i64 a.Y)]
theorem perm_encTPlace (a : TPlace) : PermPL (encTPlace a) := ⟨.sc, .sc, trivial⟩
theorem qw_encTPlace (a : TPlace) : QWL (encTPlace a) (encTPlace a) := ⟨.sc, .sc, trivial⟩
def encInt (a : Int) : List PV := [.sc (.int .i64 a)]
theorem perm_encInt (a : Int) : PermPL (encInt a) := ⟨.sc, trivial⟩
theorem qw_encInt (a : Int) : QWL (encInt a) (encInt a) := ⟨.sc, trivial⟩
def encLInt (q : Bool) (a : (List Int)) : List PV := [.xs q (a.map encInt)]
theorem perm_encLInt (a : (List Int)) : PermPL (encLInt true a) := ⟨permP_xs perm_encInt _, trivial⟩
theorem qw_encLInt (a : (List Int)) : QWL (encLInt true a) (encLInt false a) := ⟨QW.xsm qw_encInt (fun h => by cases h) _, trivial⟩
def encBool (a : Bool) : List PV := [.sc (.bool a)]
def m_laws_big (code : (List Int)) : Option Bool :=
 some (decide (1048576 < (code.length : Int)))
def m_spec_l1New_L1 (code : (List Int)) (s1 : (Int × Int)) : Option ((Int × Int) ⊕ Int) :=
(((
(bif (decide (s1.2 < (code.length : Int))) then
 some (decide (s1.2 < 4000))
 else
 some false
)
) : Option Bool).bind (fun j14 =>
(bif j14 then
(idx code s1.2).bind (fun x17 =>
 some (.inl ((bits .and .i64 (w64 ((w64 ((w64 (s1.1 * 131)) + (w64 x17))) + 7)) 1073741823), (w64 (s1.2 + 1))))
)
 else
 some (.inr s1.1)
)
))
def m_spec_l1New (code : (List Int)) : Option Tl1Cur :=
((loopM (m_spec_l1New_L1 code) BIG ((w64 (10101 + (code.length : Int))), 0)).bind (fun b12 =>
 some (Tl1Cur.mk code 0 b12)
))
def m_spec_l1Byte (c : Tl1Cur) : Option (Int × Tl1Cur) :=
(((
(bif (decide (c.i < (c.b.length : Int))) then
(idx c.b c.i).bind (fun x5 =>
 some ((bits .and .i64 (w64 ((bits .and .i64 (bits .xor .i64 (shrI (w64 ((w64 (c.h * 6364136223846793005)) + 1442695040888963407)) 33) (shrI (w64 ((w64 (c.h * 6364136223846793005)) + 1442695040888963407)) 45)) 255) + (w64 x5))) 255), (w64 (c.i + 1)))
)
 else
 some ((bits .and .i64 (bits .xor .i64 (shrI (w64 ((w64 (c.h * 6364136223846793005)) + 1442695040888963407)) 33) (shrI (w64 ((w64 (c.h * 6364136223846793005)) + 1442695040888963407)) 45)) 255), c.i)
)
) : Option (Int × Int)).bind (fun j3 =>
 some (j3.1, (Tl1Cur.mk c.b j3.2 (w64 ((w64 (c.h * 6364136223846793005)) + 1442695040888963407))))
))
def m_spec_l1Below (c : Tl1Cur) (n : Int) : Option (Int × Tl1Cur) :=
(bif (decide (n ≤ 0)) then
 some (0, c)
 else
(bif (decide (n ≤ 256)) then
(m_spec_l1Byte c).bind (fun r3 =>
(nz n).bind (fun u4 =>
 some ((Int.tmod r3.1 n), r3.2)
)
)
 else
(m_spec_l1Byte c).bind (fun r5 =>
(m_spec_l1Byte r5.2).bind (fun r6 =>
(m_spec_l1Byte r6.2).bind (fun r7 =>
(m_spec_l1Byte r7.2).bind (fun r8 =>
(nz n).bind (fun u9 =>
 some ((Int.tmod (w64 ((w64 ((w64 ((w64 (r5.1 * 16777216)) + (w64 (r6.1 * 65536)))) + (w64 (r7.1 * 256)))) + r8.1)) n), r8.2)
)
)
)
)
)
)
)
def m_spec_l2Simple_L4 (n : Int) (odd : Int) (s1 : (Int × (List Int) × Int × Int × (List TBar))) (s54 : (Int × (List Int) × Int × Int × (List TBar))) : Option ((Int × (List Int) × Int × Int × (List TBar)) ⊕ (Int × (List Int) × Int × Int × (List TBar))) :=
(bif (decide (s54.1 < n)) then
(((
(m_spec_l1Below (Tl1Cur.mk s54.2.1 s54.2.2.1 s54.2.2.2.1) 10).bind (fun r82 =>
(bif (decide (r82.1 < odd)) then
 some ((decide ((s54.2.2.2.2.length : Int) < 24)), r82.2.b, r82.2.i, r82.2.h)
 else
 some (false, r82.2.b, r82.2.i, r82.2.h)
)
)
) : Option (Bool × (List Int) × Int × Int)).bind (fun j81 =>
(((
(bif j81.1 then
(lim (s54.2.2.2.2.length + [(TBar.mk s1.1 s54.1)].length)).bind (fun u88 =>
 some (s54.2.2.2.2 ++ [(TBar.mk s1.1 s54.1)])
)
 else
 some s54.2.2.2.2
)
) : Option (List TBar)).bind (fun j86 =>
 some (.inl ((w64 (s54.1 + 1)), j81.2.1, j81.2.2.1, j81.2.2.2, j86))
))
))
 else
 some (.inr (s1.1, s54.2.1, s54.2.2.1, s54.2.2.2.1, s54.2.2.2.2))
)
def m_spec_l2Simple_L3 (n : Int) (odd : Int) (s1 : (Int × (List Int) × Int × Int × (List TBar))) : Option ((Int × (List Int) × Int × Int × (List TBar)) ⊕ ((List Int) × Int × Int × (List TBar))) :=
(bif (decide (s1.1 < n)) then
((loopM (m_spec_l2Simple_L4 n odd s1) BIG ((w64 (s1.1 + 1)), s1.2.1, s1.2.2.1, s1.2.2.2.1, s1.2.2.2.2)).bind (fun b77 =>
 some (.inl ((w64 (b77.1 + 1)), b77.2.1, b77.2.2.1, b77.2.2.2.1, b77.2.2.2.2))
))
 else
 some (.inr (s1.2.1, s1.2.2.1, s1.2.2.2.1, s1.2.2.2.2))
)
def m_spec_l2Simple (c : Tl1Cur) (n : Int) (odd : Int) : Option (TGraph × Tl1Cur) :=
((loopM (m_spec_l2Simple_L3 n odd) BIG (0, c.b, c.i, c.h, ([] : List TBar))).bind (fun b52 =>
 some ((TGraph.mk n b52.2.2.2), (Tl1Cur.mk b52.1 b52.2.1 b52.2.2.1))
))
def m_spec_l10Of_L1 (g : TGraph) (s1 : (Int × (List Int) × Int × Int × (List TPlace))) : Option ((Int × (List Int) × Int × Int × (List TPlace)) ⊕ ((List Int) × Int × Int × (List TPlace))) :=
(bif (decide (s1.1 < g.Points)) then
(m_spec_l1Below (Tl1Cur.mk s1.2.1 s1.2.2.1 s1.2.2.2.1) 5).bind (fun r12 =>
(m_spec_l1Below r12.2 5).bind (fun r13 =>
(lim (s1.2.2.2.2.length + [(TPlace.mk r12.1 r13.1)].length)).bind (fun u14 =>
 some (.inl ((w64 (s1.1 + 1)), r13.2.b, r13.2.i, r13.2.h, (s1.2.2.2.2 ++ [(TPlace.mk r12.1 r13.1)])))
)
)
)
 else
 some (.inr (s1.2.1, s1.2.2.1, s1.2.2.2.1, s1.2.2.2.2))
)
def m_spec_l10Of_L2 (g : TGraph) (b10 : ((List Int) × Int × Int × (List TPlace))) (s15 : (Int × (List TBar))) : Option ((Int × (List TBar)) ⊕ ((List Int) × Int × Int × (List TBar) × (List TPlace))) :=
(bif (decide (s15.1 < (g.Bars.length : Int))) then
(idx g.Bars s15.1).bind (fun x54 =>
(((
(idx b10.2.2.2 x54.A).bind (fun x61 =>
(idx b10.2.2.2 x54.B).bind (fun x62 =>
(bif (!(eqI [x61.X, x61.Y] [x62.X, x62.Y])) then
(bif (s15.1 == 0) then
 some true
 else
(idx g.Bars (w64 (s15.1 - 1))).bind (fun x65 =>
 some (!(eqI [x65.A, x65.B] [x54.A, x54.B]))
)
)
 else
 some false
)
)
)
) : Option Bool).bind (fun j60 =>
(((
(bif j60 then
(lim (s15.2.length + [x54].length)).bind (fun u70 =>
 some (s15.2 ++ [x54])
)
 else
 some s15.2
)
) : Option (List TBar)).bind (fun j68 =>
 some (.inl ((w64 (s15.1 + 1)), j68))
))
))
)
 else
 some (.inr (b10.1, b10.2.1, b10.2.2.1, s15.2, b10.2.2.2))
)
def m_spec_l10Of (c : Tl1Cur) (g : TGraph) : Option (TFramework × Tl1Cur) :=
((loopM (m_spec_l10Of_L1 g) BIG (0, c.b, c.i, c.h, ([] : List TPlace))).bind (fun b10 =>
((loopM (m_spec_l10Of_L2 g b10) BIG (0, ([] : List TBar))).bind (fun b52 =>
 some ((TFramework.mk (TGraph.mk g.Points b52.2.2.2.1) b52.2.2.2.2), (Tl1Cur.mk b52.1 b52.2.1 b52.2.2.1))
))
))
def m_spec_l2After (a : TBar) (b : TBar) : Option Bool :=
(((
(bif (decide (a.A < b.A)) then
 some true
 else
(bif (a.A == b.A) then
 some (decide (a.B ≤ b.B))
 else
 some false
)
)
) : Option Bool).bind (fun j3 =>
 some j3
))
def m_spec_l2Put_L1 (g : TGraph) (x : TBar) (s1 : (Bool × Int × (List TBar))) : Option ((Bool × Int × (List TBar)) ⊕ (Bool × (List TBar))) :=
(bif (decide (s1.2.1 < (g.Bars.length : Int))) then
(((
(bif (!s1.1) then
(idx g.Bars s1.2.1).bind (fun x36 =>
(m_spec_l2After x36 x).bind (fun r37 =>
 some (!r37)
)
)
 else
 some false
)
) : Option Bool).bind (fun j34 =>
(((
(bif j34 then
(lim (s1.2.2.length + [x].length)).bind (fun u42 =>
 some (true, (s1.2.2 ++ [x]))
)
 else
 some (s1.1, s1.2.2)
)
) : Option (Bool × (List TBar))).bind (fun j40 =>
(idx g.Bars s1.2.1).bind (fun x43 =>
(lim (j40.2.length + [x43].length)).bind (fun u44 =>
 some (.inl (j40.1, (w64 (s1.2.1 + 1)), (j40.2 ++ [x43])))
)
)
))
))
 else
 some (.inr (s1.1, s1.2.2))
)
def m_spec_l2Put (g : TGraph) (x : TBar) : Option TGraph :=
((loopM (m_spec_l2Put_L1 g x) BIG (false, 0, ([] : List TBar))).bind (fun b29 =>
(((
(bif (!b29.1) then
(lim (b29.2.length + [x].length)).bind (fun u49 =>
 some (b29.2 ++ [x])
)
 else
 some b29.2
)
) : Option (List TBar)).bind (fun j47 =>
 some (TGraph.mk g.Points j47)
))
))
def m_spec_l1Once (c : Tl1Cur) (n : Int) : Option (Bool × Tl1Cur) :=
(m_spec_l1Below c n).bind (fun r1 =>
 some ((r1.1 == 0), r1.2)
)
def m_spec_l6Third (c : Tl1Cur) (n : Int) (x : TBar) (other : Int) : Option (Int × Tl1Cur) :=
(m_spec_l1Below c n).bind (fun r1 =>
(((
(bif (r1.1 == x.A) then
 some true
 else
 some (r1.1 == x.B)
)
) : Option Bool).bind (fun j3 =>
(bif j3 then
 some (other, r1.2)
 else
 some (r1.1, r1.2)
)
))
)
def m_spec_l1In (x : Int) (low : Int) (high : Int) : Option Bool :=
(((
(bif (decide (low ≤ x)) then
 some (decide (x ≤ high))
 else
 some false
)
) : Option Bool).bind (fun j2 =>
 some j2
))
def m_spec_IsGraph_L1 (g : TGraph) (s7 : Int) : Option (Int ⊕ (Unit ⊕ Bool)) :=
(bif (decide (s7 < (g.Bars.length : Int))) then
(idx g.Bars s7).bind (fun x42 =>
(((
(bif (decide (x42.A < 0)) then
 some true
 else
(bif (decide (x42.B ≤ x42.A)) then
 some true
 else
(bif (decide (g.Points ≤ x42.B)) then
 some true
 else
(bif (decide (0 < s7)) then
(idx g.Bars (w64 (s7 - 1))).bind (fun x54 =>
(m_spec_l2After x54 x42).bind (fun r55 =>
 some (!r55)
)
)
 else
 some false
)
)
)
)
) : Option Bool).bind (fun j49 =>
(bif j49 then
 some (.inr (.inr false))
 else
 some (.inl (w64 (s7 + 1)))
)
))
)
 else
 some (.inr (.inl ()))
)
def m_spec_IsGraph (g : TGraph) : Option Bool :=
(((
(m_spec_l1In g.Points 1 8).bind (fun r4 =>
(bif (!r4) then
 some true
 else
 some (decide (24 < (g.Bars.length : Int)))
)
)
) : Option Bool).bind (fun j3 =>
(bif j3 then
 some false
 else
((loopM (m_spec_IsGraph_L1 g) BIG 0).bind (Sum.elim (fun b40 => (
 some true
)) (fun r => some r)))
)
))
def m_spec_l2Copy (g : TGraph) : Option TGraph :=
(lim (([] : List TBar).length + g.Bars.length)).bind (fun u1 =>
 some (TGraph.mk g.Points (([] : List TBar) ++ g.Bars))
)
def m_spec_RemoveBar (g : TGraph) (k : Int) : Option (TGraph × Bool) :=
(((
(m_spec_IsGraph g).bind (fun r5 =>
(bif (!r5) then
 some true
 else
(bif (decide (k < 0)) then
 some true
 else
 some (decide ((g.Bars.length : Int) ≤ k))
)
)
)
) : Option Bool).bind (fun j4 =>
(bif j4 then
(m_spec_l2Copy g).bind (fun r9 =>
 some (r9, false)
)
 else
(slc g.Bars 0 k).bind (fun v10 =>
(lim (([] : List TBar).length + ((g.Bars.take k.toNat).drop 0).length)).bind (fun u11 =>
(slc g.Bars (w64 (k + 1)) (g.Bars.length : Int)).bind (fun v12 =>
(lim ((([] : List TBar) ++ ((g.Bars.take k.toNat).drop 0)).length + ((g.Bars.take g.Bars.length).drop ((w64 (k + 1)).toNat)).length)).bind (fun u13 =>
 some ((TGraph.mk g.Points ((([] : List TBar) ++ ((g.Bars.take k.toNat).drop 0)) ++ ((g.Bars.take g.Bars.length).drop ((w64 (k + 1)).toNat)))), true)
)
)
)
)
)
))
def m_spec_l6Laman_L7 (s3 : (Int × (List Int) × Int × Int × Int × (List TBar))) (r135 : (Int × Tl1Cur)) (x136 : TBar) (s137 : Int) : Option (Int ⊕ (Int × Int × Int × (List Int) × Int × Int × Int × (List TBar) × Int × Int)) :=
(((
(bif (s137 == x136.A) then
 some true
 else
 some (s137 == x136.B)
)
) : Option Bool).bind (fun j148 =>
(bif j148 then
 some (.inl (w64 (s137 + 1)))
 else
 some (.inr (s3.1, r135.1, s137, r135.2.b, r135.2.i, r135.2.h, s3.2.2.2.2.1, s3.2.2.2.2.2, x136.A, x136.B))
)
))
def m_spec_l6Laman_L5 (n : Int) (s3 : (Int × (List Int) × Int × Int × Int × (List TBar))) : Option ((Int × (List Int) × Int × Int × Int × (List TBar)) ⊕ ((List Int) × Int × Int × Int × (List TBar))) :=
(bif (decide (s3.1 < n)) then
(m_spec_l1Below (Tl1Cur.mk s3.2.1 s3.2.2.1 s3.2.2.2.1) s3.1).bind (fun r105 =>
(m_spec_l1Below r105.2 (w64 (s3.1 - 1))).bind (fun r106 =>
(nz s3.1).bind (fun u107 =>
(((
(m_spec_l1Once r106.2 2).bind (fun r111 =>
(bif r111.1 then
 some ((decide (2 < s3.1)), r111.2.b, r111.2.i, r111.2.h)
 else
 some (false, r111.2.b, r111.2.i, r111.2.h)
)
)
) : Option (Bool × (List Int) × Int × Int)).bind (fun j110 =>
(((
(bif j110.1 then
(m_spec_l1Below (Tl1Cur.mk j110.2.1 j110.2.2.1 j110.2.2.2) (s3.2.2.2.2.2.length : Int)).bind (fun r135 =>
(idx s3.2.2.2.2.2 r135.1).bind (fun x136 =>
((loopM (m_spec_l6Laman_L7 s3 r135 x136) BIG 0).bind (fun b146 =>
(m_spec_l6Third (Tl1Cur.mk b146.2.2.2.1 b146.2.2.2.2.1 b146.2.2.2.2.2.1) b146.1 (TBar.mk b146.2.2.2.2.2.2.2.2.1 b146.2.2.2.2.2.2.2.2.2) b146.2.2.1).bind (fun r151 =>
(m_spec_RemoveBar (TGraph.mk b146.2.2.2.2.2.2.1 b146.2.2.2.2.2.2.2.1) b146.2.1).bind (fun r152 =>
(m_spec_l2Put r152.1 (TBar.mk b146.2.2.2.2.2.2.2.2.1 b146.1)).bind (fun r153 =>
(m_spec_l2Put r153 (TBar.mk b146.2.2.2.2.2.2.2.2.2 b146.1)).bind (fun r154 =>
(m_spec_l2Put r154 (TBar.mk r151.1 b146.1)).bind (fun r155 =>
 some (b146.1, r151.2.b, r151.2.i, r151.2.h, r155.Points, r155.Bars)
)
)
)
)
)
))
)
)
 else
(m_spec_l2Put (TGraph.mk s3.2.2.2.2.1 s3.2.2.2.2.2) (TBar.mk r105.1 s3.1)).bind (fun r156 =>
(m_spec_l2Put r156 (TBar.mk (Int.tmod (w64 ((w64 (r105.1 + 1)) + r106.1)) s3.1) s3.1)).bind (fun r157 =>
 some (s3.1, j110.2.1, j110.2.2.1, j110.2.2.2, r157.Points, r157.Bars)
)
)
)
) : Option (Int × (List Int) × Int × Int × Int × (List TBar))).bind (fun j133 =>
 some (.inl ((w64 (j133.1 + 1)), j133.2.1, j133.2.2.1, j133.2.2.2.1, j133.2.2.2.2.1, j133.2.2.2.2.2))
))
))
)
)
)
 else
 some (.inr (s3.2.1, s3.2.2.1, s3.2.2.2.1, s3.2.2.2.2.1, s3.2.2.2.2.2))
)
def m_spec_l6Laman (c : Tl1Cur) (n : Int) : Option (TGraph × Tl1Cur) :=
(bif (decide (n < 2)) then
 some ((TGraph.mk n ([] : List TBar)), c)
 else
(m_spec_l2Put (TGraph.mk n ([] : List TBar)) (TBar.mk 0 1)).bind (fun r2 =>
((loopM (m_spec_l6Laman_L5 n) BIG (2, c.b, c.i, c.h, r2.Points, r2.Bars)).bind (fun b103 =>
 some ((TGraph.mk b103.2.2.2.1 b103.2.2.2.2), (Tl1Cur.mk b103.1 b103.2.1 b103.2.2.1))
))
)
)
def m_spec_AddBar (g : TGraph) (a : Int) (b : Int) : Option (TGraph × Bool) :=
(((
(m_spec_IsGraph g).bind (fun r9 =>
(bif (!r9) then
 some true
 else
(bif (decide (a < 0)) then
 some true
 else
(bif (decide (b < 0)) then
 some true
 else
(bif (decide (g.Points ≤ a)) then
 some true
 else
(bif (decide (g.Points ≤ b)) then
 some true
 else
(bif (a == b) then
 some true
 else
 some (decide (24 ≤ (g.Bars.length : Int)))
)
)
)
)
)
)
)
) : Option Bool).bind (fun j8 =>
(bif j8 then
(m_spec_l2Copy g).bind (fun r17 =>
 some (r17, false)
)
 else
(m_spec_l2Put g (TBar.mk (if b < a then b else a) (if a < b then b else a))).bind (fun r18 =>
 some (r18, true)
)
)
))
def m_spec_l10Framework (c : Tl1Cur) : Option (TFramework × Tl1Cur) :=
(m_spec_l1Below c 3).bind (fun r1 =>
(bif (r1.1 == 0) then
(m_spec_l1Below r1.2 5).bind (fun r3 =>
(m_spec_l2Simple r3.2 (w64 (2 + r3.1)) 7).bind (fun r4 =>
(m_spec_l10Of r4.2 r4.1).bind (fun r5 =>
 some (r5.1, r5.2)
)
)
)
 else
(bif (r1.1 == 1) then
(m_spec_l1Below r1.2 4).bind (fun r7 =>
(m_spec_l6Laman r7.2 (w64 (2 + r7.1))).bind (fun r8 =>
(m_spec_l1Below r8.2 (w64 (2 + r7.1))).bind (fun r9 =>
(m_spec_l1Below r9.2 (w64 (2 + r7.1))).bind (fun r10 =>
(m_spec_AddBar r8.1 r9.1 r10.1).bind (fun r11 =>
(m_spec_l10Of r10.2 r11.1).bind (fun r12 =>
 some (r12.1, r12.2)
)
)
)
)
)
)
 else
(m_spec_l1Below r1.2 5).bind (fun r13 =>
(m_spec_l6Laman r13.2 (w64 (2 + r13.1))).bind (fun r14 =>
(m_spec_l10Of r14.2 r14.1).bind (fun r15 =>
 some (r15.1, r15.2)
)
)
)
)
)
)
def m_spec_l1PickInt (c : Tl1Cur) (list : (List Int)) : Option (Int × Tl1Cur) :=
(m_spec_l1Below c (list.length : Int)).bind (fun r1 =>
(idx list r1.1).bind (fun x2 =>
 some (x2, r1.2)
)
)
def m_spec_l10Any (c : Tl1Cur) : Option (TFramework × Tl1Cur) :=
(m_spec_l10Framework c).bind (fun r1 =>
(m_spec_l1Below r1.2 14).bind (fun r2 =>
(((
(bif (r2.1 == 0) then
(m_spec_l1PickInt r2.2 ([(-1), 5, 9] : List Int)).bind (fun r10 =>
(idx r1.1.Places 0).bind (fun x11 =>
 some (r10.2.b, r10.2.i, r10.2.h, (r1.1.Places.set (Int.toNat 0) (TPlace.mk r10.1 x11.Y)))
)
)
 else
(bif (r2.1 == 1) then
(slc r1.1.Places 1 (r1.1.Places.length : Int)).bind (fun v13 =>
 some (r2.2.b, r2.2.i, r2.2.h, ((r1.1.Places.take r1.1.Places.length).drop (Int.toNat 1)))
)
 else
 some (r2.2.b, r2.2.i, r2.2.h, r1.1.Places)
)
)
) : Option ((List Int) × Int × Int × (List TPlace))).bind (fun j8 =>
 some ((TFramework.mk r1.1.Graph j8.2.2.2), (Tl1Cur.mk j8.1 j8.2.1 j8.2.2.1))
))
)
)
def m_impl_within (x : Int) (loV : Int) (hi : Int) : Option Bool :=
(((
(bif (decide (loV ≤ x)) then
 some (decide (x ≤ hi))
 else
 some false
)
) : Option Bool).bind (fun j2 =>
 some j2
))
def m_impl_compareInts (a : Int) (b : Int) : Option Int :=
(bif (decide (a < b)) then
 some (-1)
 else
(bif (decide (b < a)) then
 some 1
 else
 some 0
)
)
def m_impl_compareBars (x : TBar) (y : TBar) : Option Int :=
(m_impl_compareInts x.A y.A).bind (fun r1 =>
(bif (r1 != 0) then
 some r1
 else
(m_impl_compareInts x.B y.B).bind (fun r3 =>
 some r3
)
)
)
def m_impl_IsGraph_L1 (g : TGraph) (s7 : Int) : Option (Int ⊕ (Unit ⊕ Bool)) :=
(bif (decide (s7 < (g.Bars.length : Int))) then
(idx g.Bars s7).bind (fun x42 =>
(((
(bif (decide (x42.A < 0)) then
 some true
 else
(bif (decide (x42.B ≤ x42.A)) then
 some true
 else
(bif (decide (g.Points ≤ x42.B)) then
 some true
 else
(bif (decide (0 < s7)) then
(idx g.Bars (w64 (s7 - 1))).bind (fun x54 =>
(m_impl_compareBars x54 x42).bind (fun r55 =>
 some (decide (0 < r55))
)
)
 else
 some false
)
)
)
)
) : Option Bool).bind (fun j49 =>
(bif j49 then
 some (.inr (.inr false))
 else
 some (.inl (w64 (s7 + 1)))
)
))
)
 else
 some (.inr (.inl ()))
)
def m_impl_IsGraph (g : TGraph) : Option Bool :=
(((
(m_impl_within g.Points 1 8).bind (fun r4 =>
(bif (!r4) then
 some true
 else
 some (decide (24 < (g.Bars.length : Int)))
)
)
) : Option Bool).bind (fun j3 =>
(bif j3 then
 some false
 else
((loopM (m_impl_IsGraph_L1 g) BIG 0).bind (Sum.elim (fun b40 => (
 some true
)) (fun r => some r)))
)
))
def m_impl_isPlace (p : TPlace) : Option Bool :=
(((
(m_impl_within p.X 0 4).bind (fun r5 =>
(bif r5 then
(m_impl_within p.Y 0 4).bind (fun r7 =>
 some r7
)
 else
 some false
)
)
) : Option Bool).bind (fun j4 =>
 some j4
))
def m_impl_IsFramework_L1 (f : TFramework) (s11 : Int) : Option (Int ⊕ (Unit ⊕ Bool)) :=
(bif (decide (s11 < (f.Places.length : Int))) then
(idx f.Places s11).bind (fun x22 =>
(m_impl_isPlace x22).bind (fun r23 =>
(bif (!r23) then
 some (.inr (.inr false))
 else
 some (.inl (w64 (s11 + 1)))
)
)
)
 else
 some (.inr (.inl ()))
)
def m_impl_IsFramework_L2 (f : TFramework) (s25 : Int) : Option (Int ⊕ (Unit ⊕ Bool)) :=
(bif (decide (s25 < (f.Graph.Bars.length : Int))) then
(idx f.Graph.Bars s25).bind (fun x64 =>
(((
(bif (decide (0 < s25)) then
(idx f.Graph.Bars (w64 (s25 - 1))).bind (fun x74 =>
(bif (eqI [x74.A, x74.B] [x64.A, x64.B]) then
 some true
 else
(idx f.Places x64.A).bind (fun x76 =>
(idx f.Places x64.B).bind (fun x77 =>
 some (eqI [x76.X, x76.Y] [x77.X, x77.Y])
)
)
)
)
 else
(idx f.Places x64.A).bind (fun x78 =>
(idx f.Places x64.B).bind (fun x79 =>
 some (eqI [x78.X, x78.Y] [x79.X, x79.Y])
)
)
)
) : Option Bool).bind (fun j72 =>
(bif j72 then
 some (.inr (.inr false))
 else
 some (.inl (w64 (s25 + 1)))
)
))
)
 else
 some (.inr (.inl ()))
)
def m_impl_IsFramework (f : TFramework) : Option Bool :=
(((
(m_impl_IsGraph f.Graph).bind (fun r6 =>
(bif (!r6) then
 some true
 else
(bif (decide (6 < f.Graph.Points)) then
 some true
 else
(bif (decide (15 < (f.Graph.Bars.length : Int))) then
 some true
 else
 some ((f.Places.length : Int) != f.Graph.Points)
)
)
)
)
) : Option Bool).bind (fun j5 =>
(bif j5 then
 some false
 else
((loopM (m_impl_IsFramework_L1 f) BIG 0).bind (Sum.elim (fun b20 => (
((loopM (m_impl_IsFramework_L2 f) BIG 0).bind (Sum.elim (fun b62 => (
 some true
)) (fun r => some r)))
)) (fun r => some r)))
)
))
def m_impl_RigidityMatrix_L1 (f : TFramework) (s3 : (Int × (List (List Int)))) : Option ((Int × (List (List Int))) ⊕ (List (List Int))) :=
(bif (decide (s3.1 < (f.Graph.Bars.length : Int))) then
(idx f.Graph.Bars s3.1).bind (fun x26 =>
(lenOk (w64 (2 * f.Graph.Points))).bind (fun u27 =>
(idx f.Places x26.A).bind (fun x28 =>
(idx f.Places x26.B).bind (fun x29 =>
(idx (List.replicate (w64 (2 * f.Graph.Points)).toNat (0 : Int)) (w64 (2 * x26.A))).bind (fun x30 =>
(idx ((List.replicate (w64 (2 * f.Graph.Points)).toNat (0 : Int)).set (w64 (2 * x26.A)).toNat (w64 (x28.X - x29.X))) (w64 ((w64 (2 * x26.A)) + 1))).bind (fun x31 =>
(idx (((List.replicate (w64 (2 * f.Graph.Points)).toNat (0 : Int)).set (w64 (2 * x26.A)).toNat (w64 (x28.X - x29.X))).set (w64 ((w64 (2 * x26.A)) + 1)).toNat (w64 (x28.Y - x29.Y))) (w64 (2 * x26.B))).bind (fun x32 =>
(idx ((((List.replicate (w64 (2 * f.Graph.Points)).toNat (0 : Int)).set (w64 (2 * x26.A)).toNat (w64 (x28.X - x29.X))).set (w64 ((w64 (2 * x26.A)) + 1)).toNat (w64 (x28.Y - x29.Y))).set (w64 (2 * x26.B)).toNat (w64 (x29.X - x28.X))) (w64 ((w64 (2 * x26.B)) + 1))).bind (fun x33 =>
(lim (s3.2.length + 1)).bind (fun u34 =>
 some (.inl ((w64 (s3.1 + 1)), (s3.2 ++ [(((((List.replicate (w64 (2 * f.Graph.Points)).toNat (0 : Int)).set (w64 (2 * x26.A)).toNat (w64 (x28.X - x29.X))).set (w64 ((w64 (2 * x26.A)) + 1)).toNat (w64 (x28.Y - x29.Y))).set (w64 (2 * x26.B)).toNat (w64 (x29.X - x28.X))).set (w64 ((w64 (2 * x26.B)) + 1)).toNat (w64 (x29.Y - x28.Y)))])))
)
)
)
)
)
)
)
)
)
 else
 some (.inr s3.2)
)
def m_impl_RigidityMatrix (f : TFramework) : Option (List (List Int)) :=
(m_impl_IsFramework f).bind (fun r1 =>
(bif (!r1) then
 some ([] : List (List Int))
 else
((loopM (m_impl_RigidityMatrix_L1 f) BIG (0, ([] : List (List Int)))).bind (fun b24 =>
 some b24
))
)
)
def m_impl_copyInts (l : (List Int)) : Option (List Int) :=
(lim (([] : List Int).length + l.length)).bind (fun u1 =>
 some (([] : List Int) ++ l)
)
def m_impl_copyLists_L1 (l : (List (List Int))) (s1 : (Int × (List (List Int)))) : Option ((Int × (List (List Int))) ⊕ (List (List Int))) :=
(bif (decide (s1.1 < (l.length : Int))) then
(idx l s1.1).bind (fun x12 =>
(m_impl_copyInts x12).bind (fun r13 =>
(lim (s1.2.length + 1)).bind (fun u14 =>
 some (.inl ((w64 (s1.1 + 1)), (s1.2 ++ [r13])))
)
)
)
 else
 some (.inr s1.2)
)
def m_impl_copyLists (l : (List (List Int))) : Option (List (List Int)) :=
((loopM (m_impl_copyLists_L1 l) BIG (0, ([] : List (List Int)))).bind (fun b10 =>
 some b10
))
def m_impl_reduced_L10 (s2 : (Int × (List (List Int)) × Int × (List Int))) (s156 : Int) : Option (Int ⊕ (Int × Int × Int × Int × (List (List Int)) × (List Int))) :=
(((
(bif (decide (s156 < (s2.2.1.length : Int))) then
(idx s2.2.1 s156).bind (fun x179 =>
(idx x179 s2.1).bind (fun x180 =>
 some (x180 == 0)
)
)
 else
 some false
)
) : Option Bool).bind (fun j177 =>
(bif j177 then
 some (.inl (w64 (s156 + 1)))
 else
 some (.inr (s2.2.2.1, s2.1, (s2.2.2.2.length : Int), s156, s2.2.1, s2.2.2.2))
)
))
def m_impl_reduced_L14 (columns : Int) (s189 : (Int × Int × Int × Int × Int × Int × (List Int) × (List (List Int)))) (x238 : Int) (s239 : (Int × (List (List Int)))) : Option ((Int × (List (List Int))) ⊕ (Int × Int × Int × Int × Int × Int × (List (List Int)) × (List Int))) :=
(bif (decide (s239.1 < columns)) then
(idx s239.2 s189.1).bind (fun x258 =>
(idx s239.2 s189.1).bind (fun x259 =>
(idx x259 s239.1).bind (fun x260 =>
(idx s239.2 s189.2.2.2.1).bind (fun x261 =>
(idx x261 s239.1).bind (fun x262 =>
(nz s189.2.1).bind (fun u263 =>
(idx x258 s239.1).bind (fun x264 =>
 some (.inl ((w64 (s239.1 + 1)), (s239.2.set s189.1.toNat (x258.set s239.1.toNat (w64 (Int.tdiv (w64 ((w64 (s189.2.2.2.2.1 * x260)) - (w64 (x238 * x262)))) s189.2.1))))))
)
)
)
)
)
)
)
 else
 some (.inr (s189.2.1, s189.2.2.1, s189.2.2.2.1, s189.2.2.2.2.1, s189.2.2.2.2.2.1, s189.1, s239.2, s189.2.2.2.2.2.2.1))
)
def m_impl_reduced_L13 (columns : Int) (s189 : (Int × Int × Int × Int × Int × Int × (List Int) × (List (List Int)))) : Option ((Int × Int × Int × Int × Int × Int × (List Int) × (List (List Int))) ⊕ (Int × Int × (List (List Int)) × (List Int))) :=
(bif (decide (s189.1 < s189.2.2.2.2.2.1)) then
(bif (s189.1 == s189.2.2.2.1) then
 some (.inl ((w64 (s189.1 + 1)), s189.2.1, s189.2.2.1, s189.2.2.2.1, s189.2.2.2.2.1, s189.2.2.2.2.2.1, s189.2.2.2.2.2.2.1, s189.2.2.2.2.2.2.2))
 else
(idx s189.2.2.2.2.2.2.2 s189.1).bind (fun x237 =>
(idx x237 s189.2.2.1).bind (fun x238 =>
((loopM (m_impl_reduced_L14 columns s189 x238) BIG (0, s189.2.2.2.2.2.2.2)).bind (fun b256 =>
 some (.inl ((w64 (b256.2.2.2.2.2.1 + 1)), b256.1, b256.2.1, b256.2.2.1, b256.2.2.2.1, b256.2.2.2.2.1, b256.2.2.2.2.2.2.2, b256.2.2.2.2.2.2.1))
))
)
)
)
 else
 some (.inr (s189.2.2.1, s189.2.2.2.2.1, s189.2.2.2.2.2.2.2, s189.2.2.2.2.2.2.1))
)
def m_impl_reduced_L9 (columns : Int) (s2 : (Int × (List (List Int)) × Int × (List Int))) : Option ((Int × (List (List Int)) × Int × (List Int)) ⊕ (Int × (List (List Int)) × (List Int))) :=
(((
(bif (decide (s2.1 < columns)) then
 some (decide ((s2.2.2.2.length : Int) < (s2.2.1.length : Int)))
 else
 some false
)
) : Option Bool).bind (fun j153 =>
(bif j153 then
((loopM (m_impl_reduced_L10 s2) BIG (s2.2.2.2.length : Int)).bind (fun b173 =>
(bif (b173.2.2.2.1 == (b173.2.2.2.2.1.length : Int)) then
 some (.inl ((w64 (b173.2.1 + 1)), b173.2.2.2.2.1, b173.1, b173.2.2.2.2.2))
 else
(idx b173.2.2.2.2.1 b173.2.2.2.1).bind (fun x183 =>
(idx b173.2.2.2.2.1 b173.2.2.1).bind (fun x184 =>
(idx b173.2.2.2.2.1 b173.2.2.1).bind (fun x185 =>
(idx b173.2.2.2.2.1 b173.2.2.2.1).bind (fun x186 =>
(idx ((b173.2.2.2.2.1.set b173.2.2.1.toNat x183).set b173.2.2.2.1.toNat x184) b173.2.2.1).bind (fun x187 =>
(idx x187 b173.2.1).bind (fun x188 =>
((loopM (m_impl_reduced_L13 columns) BIG (0, b173.1, b173.2.1, b173.2.2.1, x188, (b173.2.2.2.2.1.length : Int), b173.2.2.2.2.2, ((b173.2.2.2.2.1.set b173.2.2.1.toNat x183).set b173.2.2.2.1.toNat x184))).bind (fun b234 =>
(lim (b234.2.2.2.length + ([b234.1] : List Int).length)).bind (fun u265 =>
 some (.inl ((w64 (b234.1 + 1)), b234.2.2.1, b234.2.1, (b234.2.2.2 ++ ([b234.1] : List Int))))
)
))
)
)
)
)
)
)
)
))
 else
 some (.inr (s2.2.2.1, s2.2.1, s2.2.2.2))
)
))
def m_impl_reduced (m : (List (List Int))) (columns : Int) : Option ((List (List Int)) × (List Int) × Int) :=
(m_impl_copyLists m).bind (fun r1 =>
((loopM (m_impl_reduced_L9 columns) BIG (0, r1, 1, ([] : List Int))).bind (fun b151 =>
 some (b151.2.1, b151.2.2, b151.1)
))
)
def m_spec_IsFramework_L1 (f : TFramework) (s11 : Int) : Option (Int ⊕ (Unit ⊕ Bool)) :=
(bif (decide (s11 < (f.Places.length : Int))) then
(((
(idx f.Places s11).bind (fun x46 =>
(m_spec_l1In x46.X 0 4).bind (fun r47 =>
(bif (!r47) then
 some true
 else
(idx f.Places s11).bind (fun x49 =>
(m_spec_l1In x49.Y 0 4).bind (fun r50 =>
 some (!r50)
)
)
)
)
)
) : Option Bool).bind (fun j45 =>
(bif j45 then
 some (.inr (.inr false))
 else
 some (.inl (w64 (s11 + 1)))
)
))
 else
 some (.inr (.inl ()))
)
def m_spec_IsFramework_L2 (f : TFramework) (s52 : Int) : Option (Int ⊕ (Unit ⊕ Bool)) :=
(bif (decide (s52 < (f.Graph.Bars.length : Int))) then
(idx f.Graph.Bars s52).bind (fun x83 =>
(((
(idx f.Places x83.A).bind (fun x90 =>
(idx f.Places x83.B).bind (fun x91 =>
(bif (eqI [x90.X, x90.Y] [x91.X, x91.Y]) then
 some true
 else
(bif (decide (0 < s52)) then
(idx f.Graph.Bars (w64 (s52 - 1))).bind (fun x94 =>
 some (eqI [x94.A, x94.B] [x83.A, x83.B])
)
 else
 some false
)
)
)
)
) : Option Bool).bind (fun j89 =>
(bif j89 then
 some (.inr (.inr false))
 else
 some (.inl (w64 (s52 + 1)))
)
))
)
 else
 some (.inr (.inl ()))
)
def m_spec_IsFramework (f : TFramework) : Option Bool :=
(((
(m_spec_IsGraph f.Graph).bind (fun r6 =>
(bif (!r6) then
 some true
 else
(bif (decide (6 < f.Graph.Points)) then
 some true
 else
(bif ((f.Places.length : Int) != f.Graph.Points) then
 some true
 else
 some (decide (15 < (f.Graph.Bars.length : Int)))
)
)
)
)
) : Option Bool).bind (fun j5 =>
(bif j5 then
 some false
 else
((loopM (m_spec_IsFramework_L1 f) BIG 0).bind (Sum.elim (fun b38 => (
((loopM (m_spec_IsFramework_L2 f) BIG 0).bind (Sum.elim (fun b81 => (
 some true
)) (fun r => some r)))
)) (fun r => some r)))
)
))
def m_spec_RigidityMatrix_L1 (f : TFramework) (s1 : (Int × (List (List Int)))) : Option ((Int × (List (List Int))) ⊕ (List (List Int))) :=
(((
(bif (decide (s1.1 < (f.Graph.Bars.length : Int))) then
(m_spec_IsFramework f).bind (fun r41 =>
 some r41
)
 else
 some false
)
) : Option Bool).bind (fun j39 =>
(bif j39 then
(idx f.Graph.Bars s1.1).bind (fun x43 =>
(lenOk (w64 (2 * f.Graph.Points))).bind (fun u44 =>
(idx f.Places x43.A).bind (fun x45 =>
(idx f.Places x43.B).bind (fun x46 =>
(idx f.Places x43.A).bind (fun x47 =>
(idx f.Places x43.B).bind (fun x48 =>
(idx (List.replicate (w64 (2 * f.Graph.Points)).toNat (0 : Int)) (w64 (2 * x43.A))).bind (fun x49 =>
(idx ((List.replicate (w64 (2 * f.Graph.Points)).toNat (0 : Int)).set (w64 (2 * x43.A)).toNat (w64 (x45.X - x46.X))) (w64 ((w64 (2 * x43.A)) + 1))).bind (fun x50 =>
(idx (((List.replicate (w64 (2 * f.Graph.Points)).toNat (0 : Int)).set (w64 (2 * x43.A)).toNat (w64 (x45.X - x46.X))).set (w64 ((w64 (2 * x43.A)) + 1)).toNat (w64 (x47.Y - x48.Y))) (w64 (2 * x43.B))).bind (fun x51 =>
(idx ((((List.replicate (w64 (2 * f.Graph.Points)).toNat (0 : Int)).set (w64 (2 * x43.A)).toNat (w64 (x45.X - x46.X))).set (w64 ((w64 (2 * x43.A)) + 1)).toNat (w64 (x47.Y - x48.Y))).set (w64 (2 * x43.B)).toNat (w64 (-(w64 (x45.X - x46.X))))) (w64 ((w64 (2 * x43.B)) + 1))).bind (fun x52 =>
(lim (s1.2.length + [(((((List.replicate (w64 (2 * f.Graph.Points)).toNat (0 : Int)).set (w64 (2 * x43.A)).toNat (w64 (x45.X - x46.X))).set (w64 ((w64 (2 * x43.A)) + 1)).toNat (w64 (x47.Y - x48.Y))).set (w64 (2 * x43.B)).toNat (w64 (-(w64 (x45.X - x46.X))))).set (w64 ((w64 (2 * x43.B)) + 1)).toNat (w64 (-(w64 (x47.Y - x48.Y)))))].length)).bind (fun u53 =>
 some (.inl ((w64 (s1.1 + 1)), (s1.2 ++ [(((((List.replicate (w64 (2 * f.Graph.Points)).toNat (0 : Int)).set (w64 (2 * x43.A)).toNat (w64 (x45.X - x46.X))).set (w64 ((w64 (2 * x43.A)) + 1)).toNat (w64 (x47.Y - x48.Y))).set (w64 (2 * x43.B)).toNat (w64 (-(w64 (x45.X - x46.X))))).set (w64 ((w64 (2 * x43.B)) + 1)).toNat (w64 (-(w64 (x47.Y - x48.Y)))))])))
)
)
)
)
)
)
)
)
)
)
)
 else
 some (.inr s1.2)
)
))
def m_spec_RigidityMatrix (f : TFramework) : Option (List (List Int)) :=
((loopM (m_spec_RigidityMatrix_L1 f) BIG (0, ([] : List (List Int)))).bind (fun b36 =>
 some b36
))
def m_spec_GcdOf_L1  (s9 : (Int × Int)) : Option ((Int × Int) ⊕ Int) :=
(bif (decide (0 < s9.2)) then
(nz s9.2).bind (fun u16 =>
 some (.inl (s9.2, (Int.tmod s9.1 s9.2)))
)
 else
 some (.inr s9.1)
)
def m_spec_GcdOf (a : Int) (b : Int) : Option Int :=
(((
(m_spec_l1In a (-9000000000000000000) 9000000000000000000).bind (fun r5 =>
(bif (!r5) then
 some true
 else
(m_spec_l1In b (-9000000000000000000) 9000000000000000000).bind (fun r7 =>
 some (!r7)
)
)
)
) : Option Bool).bind (fun j4 =>
(bif j4 then
 some 0
 else
((loopM (m_spec_GcdOf_L1) BIG ((if a < (w64 (-a)) then (w64 (-a)) else a), (if b < (w64 (-b)) then (w64 (-b)) else b))).bind (fun b14 =>
 some b14
))
)
))
def m_spec_PrimitiveVector_L1 (v : (List Int)) (s1 : (Int × Int)) : Option ((Int × Int) ⊕ (Int ⊕ (List Int))) :=
(bif (decide (s1.2 < (v.length : Int))) then
(idx v s1.2).bind (fun x18 =>
(m_spec_l1In x18 (-9000000000000000000) 9000000000000000000).bind (fun r19 =>
(bif (!r19) then
(lim (([] : List Int).length + v.length)).bind (fun u21 =>
 some (.inr (.inr (([] : List Int) ++ v)))
)
 else
(idx v s1.2).bind (fun x22 =>
(m_spec_GcdOf s1.1 x22).bind (fun r23 =>
 some (.inl (r23, (w64 (s1.2 + 1))))
)
)
)
)
)
 else
 some (.inr (.inl s1.1))
)
def m_spec_PrimitiveVector_L2 (v : (List Int)) (b16 : Int) (s26 : (Int × Int)) : Option ((Int × Int) ⊕ (Int × Int)) :=
(bif (decide (s26.2 < (v.length : Int))) then
(((
(bif (s26.1 == 0) then
(idx v s26.2).bind (fun x45 =>
 some x45
)
 else
 some s26.1
)
) : Option Int).bind (fun j43 =>
 some (.inl (j43, (w64 (s26.2 + 1))))
))
 else
 some (.inr (b16, s26.1))
)
def m_spec_PrimitiveVector_L3 (v : (List Int)) (j47 : Int) (s49 : (Int × (List Int))) : Option ((Int × (List Int)) ⊕ (List Int)) :=
(bif (decide (s49.1 < (v.length : Int))) then
(idx v s49.1).bind (fun x60 =>
(nz j47).bind (fun u61 =>
(lim (s49.2.length + ([(w64 (Int.tdiv x60 j47))] : List Int).length)).bind (fun u62 =>
 some (.inl ((w64 (s49.1 + 1)), (s49.2 ++ ([(w64 (Int.tdiv x60 j47))] : List Int))))
)
)
)
 else
 some (.inr s49.2)
)
def m_spec_PrimitiveVector (v : (List Int)) : Option (List Int) :=
((loopM (m_spec_PrimitiveVector_L1 v) BIG (0, 0)).bind (Sum.elim (fun b16 => (
(bif (b16 == 0) then
(lim (([] : List Int).length + v.length)).bind (fun u25 =>
 some (([] : List Int) ++ v)
)
 else
((loopM (m_spec_PrimitiveVector_L2 v b16) BIG (0, 0)).bind (fun b39 =>
(((
(bif (decide (b39.2 < 0)) then
 some (w64 (-b39.1))
 else
 some b39.1
)
) : Option Int).bind (fun j47 =>
((loopM (m_spec_PrimitiveVector_L3 v j47) BIG (0, ([] : List Int))).bind (fun b58 =>
 some b58
))
))
))
)
)) (fun r => some r)))
def m_spec_l9Clean (row : (List Int)) : Option (List Int) :=
(m_spec_PrimitiveVector row).bind (fun r1 =>
 some r1
)
def m_spec_l9Without_L1 (a : (List Int)) (row : (List Int)) (r3 : Int) (x4 : Int) (x6 : Int) (s8 : (Int × (List Int))) : Option ((Int × (List Int)) ⊕ (List Int)) :=
(bif (decide (s8.1 < (a.length : Int))) then
(idx a s8.1).bind (fun x19 =>
(idx row s8.1).bind (fun x20 =>
(lim (s8.2.length + ([(w64 ((w64 (x19 * (w64 (Int.tdiv x4 r3)))) - (w64 (x20 * (w64 (Int.tdiv x6 r3))))))] : List Int).length)).bind (fun u21 =>
 some (.inl ((w64 (s8.1 + 1)), (s8.2 ++ ([(w64 ((w64 (x19 * (w64 (Int.tdiv x4 r3)))) - (w64 (x20 * (w64 (Int.tdiv x6 r3))))))] : List Int))))
)
)
)
 else
 some (.inr s8.2)
)
def m_spec_l9Without (a : (List Int)) (row : (List Int)) (j : Int) : Option (List Int) :=
(idx a j).bind (fun x1 =>
(idx row j).bind (fun x2 =>
(m_spec_GcdOf x1 x2).bind (fun r3 =>
(idx row j).bind (fun x4 =>
(nz r3).bind (fun u5 =>
(idx a j).bind (fun x6 =>
(nz r3).bind (fun u7 =>
((loopM (m_spec_l9Without_L1 a row r3 x4 x6) BIG (0, ([] : List Int))).bind (fun b17 =>
(m_spec_l9Clean b17).bind (fun r22 =>
 some r22
)
))
)
)
)
)
)
)
)
def m_spec_l9Reduced_L1 (m : (List (List Int))) (s1 : (Int × (List (List Int)))) : Option ((Int × (List (List Int))) ⊕ (List (List Int))) :=
(bif (decide (s1.1 < (m.length : Int))) then
(idx m s1.1).bind (fun x12 =>
(m_spec_l9Clean x12).bind (fun r13 =>
(lim (s1.2.length + [r13].length)).bind (fun u14 =>
 some (.inl ((w64 (s1.1 + 1)), (s1.2 ++ [r13])))
)
)
)
 else
 some (.inr s1.2)
)
def m_spec_l9Reduced_L7 (s15 : (Int × (List (List Int)) × (List Int))) (s155 : Int) : Option (Int ⊕ (Int × Int × (List (List Int)) × (List Int))) :=
(((
(bif (decide (s155 < (s15.2.1.length : Int))) then
(idx s15.2.1 s155).bind (fun x178 =>
(idx x178 s15.1).bind (fun x179 =>
 some (x179 == 0)
)
)
 else
 some false
)
) : Option Bool).bind (fun j176 =>
(bif j176 then
 some (.inl (w64 (s155 + 1)))
 else
 some (.inr (s15.1, s155, s15.2.1, s15.2.2))
)
))
def m_spec_l9Reduced_L8 (b172 : (Int × Int × (List (List Int)) × (List Int))) (x182 : (List Int)) (s186 : (Int × (List (List Int)))) : Option ((Int × (List (List Int))) ⊕ (Int × (List (List Int)) × (List Int))) :=
(bif (decide (s186.1 < (s186.2.length : Int))) then
(((
(bif (s186.1 != (b172.2.2.2.length : Int)) then
(idx s186.2 s186.1).bind (fun x228 =>
(idx x228 b172.1).bind (fun x229 =>
 some (x229 != 0)
)
)
 else
 some false
)
) : Option Bool).bind (fun j226 =>
(((
(bif j226 then
(idx s186.2 s186.1).bind (fun x236 =>
(m_spec_l9Without x236 x182 b172.1).bind (fun r237 =>
(idx s186.2 s186.1).bind (fun x238 =>
 some (s186.2.set s186.1.toNat r237)
)
)
)
 else
 some s186.2
)
) : Option (List (List Int))).bind (fun j234 =>
 some (.inl ((w64 (s186.1 + 1)), j234))
))
))
 else
 some (.inr (b172.1, s186.2, b172.2.2.2))
)
def m_spec_l9Reduced_L6  (s15 : (Int × (List (List Int)) × (List Int))) : Option ((Int × (List (List Int)) × (List Int)) ⊕ ((List (List Int)) × (List Int))) :=
(((
(bif (decide (0 < (s15.2.1.length : Int))) then
(idx s15.2.1 0).bind (fun x153 =>
 some (decide (s15.1 < (x153.length : Int)))
)
 else
 some false
)
) : Option Bool).bind (fun j151 =>
(bif j151 then
((loopM (m_spec_l9Reduced_L7 s15) BIG (s15.2.2.length : Int)).bind (fun b172 =>
(bif (b172.2.1 == (b172.2.2.1.length : Int)) then
 some (.inl ((w64 (b172.1 + 1)), b172.2.2.1, b172.2.2.2))
 else
(idx b172.2.2.1 b172.2.1).bind (fun x182 =>
(idx b172.2.2.1 (b172.2.2.2.length : Int)).bind (fun x183 =>
(idx b172.2.2.1 b172.2.1).bind (fun x184 =>
(idx (b172.2.2.1.set b172.2.1.toNat x183) (b172.2.2.2.length : Int)).bind (fun x185 =>
((loopM (m_spec_l9Reduced_L8 b172 x182) BIG (0, ((b172.2.2.1.set b172.2.1.toNat x183).set (b172.2.2.2.length : Int).toNat x182))).bind (fun b221 =>
(lim (b221.2.2.length + ([b221.1] : List Int).length)).bind (fun u239 =>
 some (.inl ((w64 (b221.1 + 1)), b221.2.1, (b221.2.2 ++ ([b221.1] : List Int))))
)
))
)
)
)
)
)
))
 else
 some (.inr (s15.2.1, s15.2.2))
)
))
def m_spec_l9Reduced (m : (List (List Int))) : Option ((List (List Int)) × (List Int)) :=
((loopM (m_spec_l9Reduced_L1 m) BIG (0, ([] : List (List Int)))).bind (fun b10 =>
((loopM (m_spec_l9Reduced_L6) BIG (0, b10, ([] : List Int))).bind (fun b148 =>
 some (b148.1, b148.2)
))
))
def m_laws_sameInts_L1 (a : (List Int)) (b : (List Int)) (s2 : Int) : Option (Int ⊕ (Unit ⊕ Bool)) :=
(bif (decide (s2 < (a.length : Int))) then
(idx a s2).bind (fun x13 =>
(idx b s2).bind (fun x14 =>
(bif (x13 != x14) then
 some (.inr (.inr false))
 else
 some (.inl (w64 (s2 + 1)))
)
)
)
 else
 some (.inr (.inl ()))
)
def m_laws_sameInts (a : (List Int)) (b : (List Int)) : Option Bool :=
(bif ((a.length : Int) != (b.length : Int)) then
 some false
 else
((loopM (m_laws_sameInts_L1 a b) BIG 0).bind (Sum.elim (fun b11 => (
 some true
)) (fun r => some r)))
)
def m_laws_sameSets_L1 (a : (List (List Int))) (b : (List (List Int))) (s2 : Int) : Option (Int ⊕ (Unit ⊕ Bool)) :=
(bif (decide (s2 < (a.length : Int))) then
(idx a s2).bind (fun x15 =>
(idx b s2).bind (fun x16 =>
(m_laws_sameInts x15 x16).bind (fun r17 =>
(bif (!r17) then
 some (.inr (.inr false))
 else
 some (.inl (w64 (s2 + 1)))
)
)
)
)
 else
 some (.inr (.inl ()))
)
def m_laws_sameSets (a : (List (List Int))) (b : (List (List Int))) : Option Bool :=
(bif ((a.length : Int) != (b.length : Int)) then
 some false
 else
((loopM (m_laws_sameSets_L1 a b) BIG 0).bind (Sum.elim (fun b13 => (
 some true
)) (fun r => some r)))
)
def m_impl_rank (m : (List (List Int))) (columns : Int) : Option Int :=
(m_impl_reduced m columns).bind (fun r1 =>
 some (r1.2.1.length : Int)
)
def m_impl_FrameworkRank (f : TFramework) : Option Int :=
(m_impl_IsFramework f).bind (fun r1 =>
(bif (!r1) then
 some (-1)
 else
(m_impl_RigidityMatrix f).bind (fun r3 =>
(m_impl_rank r3 (w64 (2 * f.Graph.Points))).bind (fun r4 =>
 some r4
)
)
)
)
def m_impl_CountStresses (f : TFramework) : Option Int :=
(m_impl_IsFramework f).bind (fun r1 =>
(bif (!r1) then
 some (-1)
 else
(m_impl_FrameworkRank f).bind (fun r3 =>
 some (w64 ((f.Graph.Bars.length : Int) - r3))
)
)
)
def m_impl_Bar_other (x : TBar) (v : Int) : Option Int :=
(bif (x.A == v) then
 some x.B
 else
 some x.A
)
def m_spec_l11Trivial_L1 (f : TFramework) (s1 : Int) : Option (Int ⊕ (Unit ⊕ Int)) :=
(bif (decide (s1 < (f.Places.length : Int))) then
(idx f.Places s1).bind (fun x12 =>
(idx f.Places 0).bind (fun x13 =>
(bif (!(eqI [x12.X, x12.Y] [x13.X, x13.Y])) then
 some (.inr (.inr 3))
 else
 some (.inl (w64 (s1 + 1)))
)
)
)
 else
 some (.inr (.inl ()))
)
def m_spec_l11Trivial (f : TFramework) : Option Int :=
((loopM (m_spec_l11Trivial_L1 f) BIG 1).bind (Sum.elim (fun b10 => (
 some 2
)) (fun r => some r)))
def m_spec_FrameworkRank (f : TFramework) : Option Int :=
(m_spec_IsFramework f).bind (fun r1 =>
(bif (!r1) then
 some (-1)
 else
(m_spec_RigidityMatrix f).bind (fun r3 =>
(m_spec_l9Reduced r3).bind (fun r4 =>
 some (r4.2.length : Int)
)
)
)
)
def m_spec_FrameworkFreedom (f : TFramework) : Option Int :=
(m_spec_IsFramework f).bind (fun r1 =>
(bif (!r1) then
 some (-1)
 else
(m_spec_l11Trivial f).bind (fun r3 =>
(m_spec_FrameworkRank f).bind (fun r4 =>
 some (w64 ((w64 ((w64 (2 * f.Graph.Points)) - r3)) - r4))
)
)
)
)
def m_spec_l4Other (b : TBar) (v : Int) : Option Int :=
 some (w64 ((w64 (b.A + b.B)) - v))
def m_spec_NewPebbles_L1 (g : TGraph) (k : Int) (s9 : (Int × (List Int))) : Option ((Int × (List Int)) ⊕ (List Int)) :=
(bif (decide (s9.1 < g.Points)) then
(lim (s9.2.length + ([k] : List Int).length)).bind (fun u16 =>
 some (.inl ((w64 (s9.1 + 1)), (s9.2 ++ ([k] : List Int))))
)
 else
 some (.inr s9.2)
)
def m_spec_NewPebbles (g : TGraph) (k : Int) : Option (TPebbles × Bool) :=
(((
(m_spec_IsGraph g).bind (fun r5 =>
(bif (!r5) then
 some true
 else
(m_spec_l1In k 1 3).bind (fun r7 =>
 some (!r7)
)
)
)
) : Option Bool).bind (fun j4 =>
(bif j4 then
 some ((TPebbles.mk ([] : List Int) ([] : List Int) ([] : List Int)), false)
 else
((loopM (m_spec_NewPebbles_L1 g k) BIG (0, ([] : List Int))).bind (fun b14 =>
 some ((TPebbles.mk b14 ([] : List Int) ([] : List Int)), true)
))
)
))
def m_spec_IsRange (k : Int) (l : Int) : Option Bool :=
(((
(m_spec_l1In k 1 3).bind (fun r5 =>
(bif r5 then
(bif (decide (0 ≤ l)) then
 some (decide (l < (w64 (2 * k))))
 else
 some false
)
 else
 some false
)
)
) : Option Bool).bind (fun j4 =>
 some j4
))
def m_spec_l4Tail_L1 (p : TPebbles) (v : Int) (s1 : (Int × Int)) : Option ((Int × Int) ⊕ Int) :=
(bif (decide (s1.2 < (p.Tails.length : Int))) then
(idx p.Tails s1.2).bind (fun x14 =>
(((
(bif (x14 == v) then
 some (w64 (s1.1 + 1))
 else
 some s1.1
)
) : Option Int).bind (fun j16 =>
 some (.inl (j16, (w64 (s1.2 + 1))))
))
)
 else
 some (.inr s1.1)
)
def m_spec_l4Tail (p : TPebbles) (v : Int) : Option Int :=
((loopM (m_spec_l4Tail_L1 p v) BIG (0, 0)).bind (fun b12 =>
 some b12
))
def m_spec_IsPebbles_L1 (g : TGraph) (p : TPebbles) (s13 : Int) : Option (Int ⊕ (Unit ⊕ Bool)) :=
(bif (decide (s13 < (p.Placed.length : Int))) then
(idx p.Placed s13).bind (fun x84 =>
(((
(bif (decide (x84 < 0)) then
 some true
 else
(bif (decide ((g.Bars.length : Int) ≤ x84)) then
 some true
 else
(bif (decide (0 < s13)) then
(idx p.Placed (w64 (s13 - 1))).bind (fun x104 =>
(bif (decide (x84 ≤ x104)) then
 some true
 else
(idx p.Tails s13).bind (fun x106 =>
(idx g.Bars x84).bind (fun x107 =>
(bif (x106 != x107.A) then
(idx p.Tails s13).bind (fun x109 =>
(idx g.Bars x84).bind (fun x110 =>
 some (x109 != x110.B)
)
)
 else
 some false
)
)
)
)
)
 else
(idx p.Tails s13).bind (fun x111 =>
(idx g.Bars x84).bind (fun x112 =>
(bif (x111 != x112.A) then
(idx p.Tails s13).bind (fun x114 =>
(idx g.Bars x84).bind (fun x115 =>
 some (x114 != x115.B)
)
)
 else
 some false
)
)
)
)
)
)
) : Option Bool).bind (fun j100 =>
(bif j100 then
 some (.inr (.inr false))
 else
 some (.inl (w64 (s13 + 1)))
)
))
)
 else
 some (.inr (.inl ()))
)
def m_spec_IsPebbles_L2 (g : TGraph) (k : Int) (p : TPebbles) (s117 : Int) : Option (Int ⊕ (Unit ⊕ Bool)) :=
(bif (decide (s117 < g.Points)) then
(((
(idx p.Free s117).bind (fun x147 =>
(bif (decide (x147 < 0)) then
 some true
 else
(idx p.Free s117).bind (fun x149 =>
(m_spec_l4Tail p s117).bind (fun r150 =>
 some ((w64 (x149 + r150)) != k)
)
)
)
)
) : Option Bool).bind (fun j146 =>
(bif j146 then
 some (.inr (.inr false))
 else
 some (.inl (w64 (s117 + 1)))
)
))
 else
 some (.inr (.inl ()))
)
def m_spec_IsPebbles (g : TGraph) (k : Int) (p : TPebbles) : Option Bool :=
(((
(m_spec_IsGraph g).bind (fun r7 =>
(bif (!r7) then
 some true
 else
(m_spec_l1In k 1 3).bind (fun r9 =>
(bif (!r9) then
 some true
 else
(bif ((p.Free.length : Int) != g.Points) then
 some true
 else
 some ((p.Tails.length : Int) != (p.Placed.length : Int))
)
)
)
)
)
) : Option Bool).bind (fun j6 =>
(bif j6 then
 some false
 else
((loopM (m_spec_IsPebbles_L1 g p) BIG 0).bind (Sum.elim (fun b82 => (
((loopM (m_spec_IsPebbles_L2 g k p) BIG 0).bind (Sum.elim (fun b140 => (
 some true
)) (fun r => some r)))
)) (fun r => some r)))
)
))
def m_spec_l4Copy (p : TPebbles) : Option TPebbles :=
(lim (([] : List Int).length + p.Free.length)).bind (fun u1 =>
(lim (([] : List Int).length + p.Tails.length)).bind (fun u2 =>
(lim (([] : List Int).length + p.Placed.length)).bind (fun u3 =>
 some (TPebbles.mk (([] : List Int) ++ p.Free) (([] : List Int) ++ p.Tails) (([] : List Int) ++ p.Placed))
)
)
)
def m_spec_l4Shift_L1 (g : TGraph) (p : TPebbles) (fromV : (List Int)) (a : Int) (u : Int) (r1 : TPebbles) (x2 : Int) (x4 : Int) (s6 : (Int × (List Int))) : Option ((Int × (List Int)) ⊕ ((List Int) × (List Int) × (List Int))) :=
(bif (s6.1 != a) then
(idx fromV s6.1).bind (fun x21 =>
(idx p.Placed x21).bind (fun x22 =>
(idx g.Bars x22).bind (fun x23 =>
(m_spec_l4Other x23 s6.1).bind (fun r24 =>
(idx s6.2 x21).bind (fun x25 =>
 some (.inl (r24, (s6.2.set x21.toNat s6.1)))
)
)
)
)
)
 else
 some (.inr (((r1.Free.set u.toNat (w64 (x2 - 1))).set a.toNat (w64 (x4 + 1))), s6.2, r1.Placed))
)
def m_spec_l4Shift (g : TGraph) (p : TPebbles) (fromV : (List Int)) (a : Int) (u : Int) : Option TPebbles :=
(m_spec_l4Copy p).bind (fun r1 =>
(idx r1.Free u).bind (fun x2 =>
(idx r1.Free u).bind (fun x3 =>
(idx (r1.Free.set u.toNat (w64 (x2 - 1))) a).bind (fun x4 =>
(idx (r1.Free.set u.toNat (w64 (x2 - 1))) a).bind (fun x5 =>
((loopM (m_spec_l4Shift_L1 g p fromV a u r1 x2 x4) BIG (u, r1.Tails)).bind (fun b19 =>
 some (TPebbles.mk b19.1 b19.2.1 b19.2.2)
))
)
)
)
)
)
def m_spec_l4Find_L1 (g : TGraph) (s2 : (Int × (List Int))) : Option ((Int × (List Int)) ⊕ (List Int)) :=
(bif (decide (s2.1 < g.Points)) then
(idx s2.2 s2.1).bind (fun x9 =>
 some (.inl ((w64 (s2.1 + 1)), (s2.2.set s2.1.toNat (-1))))
)
 else
 some (.inr s2.2)
)
def m_spec_l4Find_L5 (g : TGraph) (p : TPebbles) (a : Int) (b : Int) (s12 : (Int × (List Int) × (List Int) × (List Bool))) (x95 : Int) (s96 : (Int × (List Int) × (List Int) × (List Bool))) : Option ((Int × (List Int) × (List Int) × (List Bool)) ⊕ ((Int × (List Int) × (List Int) × (List Bool)) ⊕ (TPebbles × Bool))) :=
(bif (decide (s96.1 < (p.Placed.length : Int))) then
(idx p.Tails s96.1).bind (fun x135 =>
(bif (x135 != x95) then
 some (.inl ((w64 (s96.1 + 1)), s96.2.1, s96.2.2.1, s96.2.2.2))
 else
(idx p.Placed s96.1).bind (fun x137 =>
(idx g.Bars x137).bind (fun x138 =>
(m_spec_l4Other x138 x95).bind (fun r139 =>
(idx s96.2.2.2 r139).bind (fun x140 =>
(bif x140 then
 some (.inl ((w64 (s96.1 + 1)), s96.2.1, s96.2.2.1, s96.2.2.2))
 else
(idx s96.2.2.2 r139).bind (fun x142 =>
(idx s96.2.1 r139).bind (fun x143 =>
(((
(bif (r139 != b) then
(idx p.Free r139).bind (fun x148 =>
 some (decide (0 < x148))
)
 else
 some false
)
) : Option Bool).bind (fun j146 =>
(bif j146 then
(m_spec_l4Shift g p (s96.2.1.set r139.toNat s96.1) a r139).bind (fun r150 =>
 some (.inr (.inr (r150, true)))
)
 else
(lim (s96.2.2.1.length + ([r139] : List Int).length)).bind (fun u151 =>
 some (.inl ((w64 (s96.1 + 1)), (s96.2.1.set r139.toNat s96.1), (s96.2.2.1 ++ ([r139] : List Int)), (s96.2.2.2.set r139.toNat true)))
)
)
))
)
)
)
)
)
)
)
)
)
 else
 some (.inr (.inl (s12.1, s96.2.1, s96.2.2.1, s96.2.2.2)))
)
def m_spec_l4Find_L4 (g : TGraph) (p : TPebbles) (a : Int) (b : Int) (s12 : (Int × (List Int) × (List Int) × (List Bool))) : Option ((Int × (List Int) × (List Int) × (List Bool)) ⊕ (Unit ⊕ (TPebbles × Bool))) :=
(bif (decide (s12.1 < (s12.2.2.1.length : Int))) then
(idx s12.2.2.1 s12.1).bind (fun x95 =>
((loopM (m_spec_l4Find_L5 g p a b s12 x95) BIG (0, s12.2.1, s12.2.2.1, s12.2.2.2)).bind (Sum.elim (fun b133 => (
 some (.inl ((w64 (b133.1 + 1)), b133.2.1, b133.2.2.1, b133.2.2.2))
)) (fun r => some (.inr (.inr r)))))
)
 else
 some (.inr (.inl ()))
)
def m_spec_l4Find (g : TGraph) (p : TPebbles) (a : Int) (b : Int) : Option (TPebbles × Bool) :=
(lenOk g.Points).bind (fun u1 =>
((loopM (m_spec_l4Find_L1 g) BIG (0, (List.replicate g.Points.toNat (0 : Int)))).bind (fun b7 =>
(lenOk g.Points).bind (fun u10 =>
(idx (List.replicate g.Points.toNat false) a).bind (fun x11 =>
((loopM (m_spec_l4Find_L4 g p a b) BIG (0, b7, ([a] : List Int), ((List.replicate g.Points.toNat false).set a.toNat true))).bind (Sum.elim (fun b93 => (
 some (p, false)
)) (fun r => some r)))
)
)
))
)
def m_spec_l4Gather_L1 (g : TGraph) (a : Int) (b : Int) (want : Int) (s2 : ((List Int) × (List Int) × (List Int))) : Option (((List Int) × (List Int) × (List Int)) ⊕ (((List Int) × (List Int) × (List Int)) ⊕ (TPebbles × Bool))) :=
(idx s2.1 a).bind (fun x28 =>
(idx s2.1 b).bind (fun x29 =>
(bif (decide ((w64 (x28 + x29)) < want)) then
(m_spec_l4Find g (TPebbles.mk s2.1 s2.2.1 s2.2.2) a b).bind (fun r31 =>
(bif r31.2 then
(bif (!true) then
 none
 else
(bif (!true) then
 none
 else
 some (.inl (r31.1.Free, r31.1.Tails, r31.1.Placed))
)
)
 else
(bif (!false) then
(m_spec_l4Find g (TPebbles.mk s2.1 s2.2.1 s2.2.2) b a).bind (fun r36 =>
(bif r36.2 then
(bif (!true) then
 none
 else
 some (.inl (r36.1.Free, r36.1.Tails, r36.1.Placed))
)
 else
(bif (!false) then
 some (.inr (.inr ((TPebbles.mk s2.1 s2.2.1 s2.2.2), false)))
 else
 none
)
)
)
 else
 none
)
)
)
 else
 some (.inr (.inl (s2.1, s2.2.1, s2.2.2)))
)
)
)
def m_spec_l4Gather (g : TGraph) (p : TPebbles) (a : Int) (b : Int) (want : Int) : Option (TPebbles × Bool) :=
(m_spec_l4Copy p).bind (fun r1 =>
((loopM (m_spec_l4Gather_L1 g a b want) BIG (r1.Free, r1.Tails, r1.Placed)).bind (Sum.elim (fun b27 => (
 some ((TPebbles.mk b27.1 b27.2.1 b27.2.2), true)
)) (fun r => some r)))
)
def m_spec_PlaceBar (g : TGraph) (k : Int) (l : Int) (p : TPebbles) (bar : Int) : Option (TPebbles × Bool) :=
(((
(m_spec_IsPebbles g k p).bind (fun r10 =>
(bif (!r10) then
 some true
 else
(m_spec_IsRange k l).bind (fun r12 =>
(bif (!r12) then
 some true
 else
(bif (decide (bar < 0)) then
 some true
 else
(bif (decide ((g.Bars.length : Int) ≤ bar)) then
 some true
 else
(bif (decide (0 < (p.Placed.length : Int))) then
(idx p.Placed (w64 ((p.Placed.length : Int) - 1))).bind (fun x17 =>
 some (decide (bar ≤ x17))
)
 else
 some false
)
)
)
)
)
)
)
) : Option Bool).bind (fun j9 =>
(bif j9 then
(m_spec_l4Copy p).bind (fun r19 =>
 some (r19, false)
)
 else
(idx g.Bars bar).bind (fun x20 =>
(m_spec_l4Gather g p x20.A x20.B (w64 (l + 1))).bind (fun r21 =>
(bif (!r21.2) then
(m_spec_l4Copy p).bind (fun r23 =>
 some (r23, false)
)
 else
(idx r21.1.Free x20.A).bind (fun x24 =>
(((
(bif (x24 == 0) then
 some x20.B
 else
 some x20.A
)
) : Option Int).bind (fun j26 =>
(idx r21.1.Free j26).bind (fun x28 =>
(idx r21.1.Free j26).bind (fun x29 =>
(lim (r21.1.Tails.length + ([j26] : List Int).length)).bind (fun u30 =>
(lim (r21.1.Placed.length + ([bar] : List Int).length)).bind (fun u31 =>
 some ((TPebbles.mk (r21.1.Free.set j26.toNat (w64 (x28 - 1))) (r21.1.Tails ++ ([j26] : List Int)) (r21.1.Placed ++ ([bar] : List Int))), true)
)
)
)
)
))
)
)
)
)
)
))
def m_spec_RunPebbles_L1 (g : TGraph) (k : Int) (l : Int) (s8 : (Int × (List Int) × (List Int) × (List Int))) : Option ((Int × (List Int) × (List Int) × (List Int)) ⊕ ((List Int) × (List Int) × (List Int))) :=
(bif (decide (s8.1 < (g.Bars.length : Int))) then
(m_spec_PlaceBar g k l (TPebbles.mk s8.2.1 s8.2.2.1 s8.2.2.2) s8.1).bind (fun r15 =>
 some (.inl ((w64 (s8.1 + 1)), r15.1.Free, r15.1.Tails, r15.1.Placed))
)
 else
 some (.inr (s8.2.1, s8.2.2.1, s8.2.2.2))
)
def m_spec_RunPebbles (g : TGraph) (k : Int) (l : Int) : Option (TPebbles × Bool) :=
(m_spec_NewPebbles g k).bind (fun r1 =>
(((
(bif (!r1.2) then
 some true
 else
(m_spec_IsRange k l).bind (fun r6 =>
 some (!r6)
)
)
) : Option Bool).bind (fun j4 =>
(bif j4 then
 some ((TPebbles.mk ([] : List Int) ([] : List Int) ([] : List Int)), false)
 else
((loopM (m_spec_RunPebbles_L1 g k l) BIG (0, r1.1.Free, r1.1.Tails, r1.1.Placed)).bind (fun b13 =>
 some ((TPebbles.mk b13.1 b13.2.1 b13.2.2), true)
))
)
))
)
def m_spec_RankOf (g : TGraph) (k : Int) (l : Int) : Option Int :=
(m_spec_RunPebbles g k l).bind (fun r1 =>
(bif (!r1.2) then
 some (-1)
 else
 some (r1.1.Placed.length : Int)
)
)
def m_spec_IsGenericHere (f : TFramework) : Option Bool :=
(((
(m_spec_IsFramework f).bind (fun r6 =>
(bif r6 then
(m_spec_FrameworkRank f).bind (fun r8 =>
(m_spec_RankOf f.Graph 2 3).bind (fun r9 =>
 some (r8 == r9)
)
)
 else
 some false
)
)
) : Option Bool).bind (fun j5 =>
 some j5
))
def m_impl_IsRange (k : Int) (l : Int) : Option Bool :=
(((
(m_impl_within k 1 3).bind (fun r5 =>
(bif r5 then
(m_impl_within l 0 (w64 ((w64 (2 * k)) - 1))).bind (fun r7 =>
 some r7
)
 else
 some false
)
)
) : Option Bool).bind (fun j4 =>
 some j4
))
def m_impl_copyPebbles (p : TPebbles) : Option TPebbles :=
(m_impl_copyInts p.Free).bind (fun r1 =>
(m_impl_copyInts p.Tails).bind (fun r2 =>
(m_impl_copyInts p.Placed).bind (fun r3 =>
 some (TPebbles.mk r1 r2 r3)
)
)
)
def m_impl_moveTo_L11 (p : TPebbles) (a : Int) (s122 : (Int × (List (Int × Int)) × (List Int))) (r187 : Int) (x196 : Int) (x198 : Int) (s200 : (Int × (List Int))) : Option ((Int × (List Int)) ⊕ ((List Int) × (List Int))) :=
(bif (s200.1 != a) then
(idx s200.2 (mget (mput s122.2.1 r187 s122.1) s200.1)).bind (fun x209 =>
(idx s200.2 (mget (mput s122.2.1 r187 s122.1) s200.1)).bind (fun x210 =>
 some (.inl (x209, (s200.2.set (mget (mput s122.2.1 r187 s122.1) s200.1).toNat s200.1)))
)
)
 else
 some (.inr (((p.Free.set r187.toNat (w64 (x196 - 1))).set a.toNat (w64 (x198 + 1))), s200.2))
)
def m_impl_moveTo_L10 (bars : (List TBar)) (p : TPebbles) (a : Int) (b : Int) (s1 : (Int × (List (Int × Int)) × (List Int))) (s122 : (Int × (List (Int × Int)) × (List Int))) : Option ((Int × (List (Int × Int)) × (List Int)) ⊕ ((Int × (List (Int × Int)) × (List Int)) ⊕ (Bool × TPebbles))) :=
(bif (decide (s122.1 < (p.Placed.length : Int))) then
(idx p.Placed s122.1).bind (fun x181 =>
(idx p.Tails s122.1).bind (fun x182 =>
(idx s122.2.2 s1.1).bind (fun x183 =>
(bif (x182 != x183) then
 some (.inl ((w64 (s122.1 + 1)), s122.2.1, s122.2.2))
 else
(idx bars x181).bind (fun x185 =>
(idx s122.2.2 s1.1).bind (fun x186 =>
(m_impl_Bar_other x185 x186).bind (fun r187 =>
(bif (mhas s122.2.1 r187) then
 some (.inl ((w64 (s122.1 + 1)), s122.2.1, s122.2.2))
 else
(((
(bif (r187 == b) then
 some true
 else
(idx p.Free r187).bind (fun x193 =>
 some (x193 == 0)
)
)
) : Option Bool).bind (fun j191 =>
(bif j191 then
(lim (s122.2.2.length + ([r187] : List Int).length)).bind (fun u195 =>
 some (.inl ((w64 (s122.1 + 1)), (mput s122.2.1 r187 s122.1), (s122.2.2 ++ ([r187] : List Int))))
)
 else
(idx p.Free r187).bind (fun x196 =>
(idx p.Free r187).bind (fun x197 =>
(idx (p.Free.set r187.toNat (w64 (x196 - 1))) a).bind (fun x198 =>
(idx (p.Free.set r187.toNat (w64 (x196 - 1))) a).bind (fun x199 =>
((loopM (m_impl_moveTo_L11 p a s122 r187 x196 x198) BIG (r187, p.Tails)).bind (fun b207 =>
 some (.inr (.inr (true, (TPebbles.mk b207.1 b207.2 p.Placed))))
))
)
)
)
)
)
))
)
)
)
)
)
)
)
)
 else
 some (.inr (.inl (s1.1, s122.2.1, s122.2.2)))
)
def m_impl_moveTo_L7 (bars : (List TBar)) (p : TPebbles) (a : Int) (b : Int) (s1 : (Int × (List (Int × Int)) × (List Int))) : Option ((Int × (List (Int × Int)) × (List Int)) ⊕ (Unit ⊕ (Bool × TPebbles))) :=
(bif (decide (s1.1 < (s1.2.2.length : Int))) then
((loopM (m_impl_moveTo_L10 bars p a b s1) BIG (0, s1.2.1, s1.2.2)).bind (Sum.elim (fun b179 => (
 some (.inl ((w64 (b179.1 + 1)), b179.2.1, b179.2.2))
)) (fun r => some (.inr (.inr r)))))
 else
 some (.inr (.inl ()))
)
def m_impl_moveTo (bars : (List TBar)) (p : TPebbles) (a : Int) (b : Int) : Option (Bool × TPebbles) :=
((loopM (m_impl_moveTo_L7 bars p a b) BIG (0, (mput ([] : List (Int × Int)) a (-1)), ([a] : List Int))).bind (Sum.elim (fun b120 => (
 some (false, p)
)) (fun r => some r)))
def m_impl_gather_L1 (bars : (List TBar)) (a : Int) (b : Int) (want : Int) (s1 : ((List Int) × (List Int) × (List Int))) : Option (((List Int) × (List Int) × (List Int)) ⊕ (((List Int) × (List Int) × (List Int)) ⊕ (Bool × TPebbles))) :=
(idx s1.1 a).bind (fun x25 =>
(idx s1.1 b).bind (fun x26 =>
(bif (decide ((w64 (x25 + x26)) < want)) then
(((
(m_impl_moveTo bars (TPebbles.mk s1.1 s1.2.1 s1.2.2) a b).bind (fun r32 =>
(bif (!r32.1) then
(m_impl_moveTo bars r32.2 b a).bind (fun r34 =>
 some ((!r34.1), r34.2.Free, r34.2.Tails, r34.2.Placed)
)
 else
 some (false, r32.2.Free, r32.2.Tails, r32.2.Placed)
)
)
) : Option (Bool × (List Int) × (List Int) × (List Int))).bind (fun j31 =>
(bif j31.1 then
 some (.inr (.inr (false, (TPebbles.mk j31.2.1 j31.2.2.1 j31.2.2.2))))
 else
 some (.inl (j31.2.1, j31.2.2.1, j31.2.2.2))
)
))
 else
 some (.inr (.inl (s1.1, s1.2.1, s1.2.2)))
)
)
)
def m_impl_gather (bars : (List TBar)) (p : TPebbles) (a : Int) (b : Int) (want : Int) : Option (Bool × TPebbles) :=
((loopM (m_impl_gather_L1 bars a b want) BIG (p.Free, p.Tails, p.Placed)).bind (Sum.elim (fun b24 => (
 some (true, (TPebbles.mk b24.1 b24.2.1 b24.2.2))
)) (fun r => some r)))
def m_impl_place (bars : (List TBar)) (l : Int) (p : TPebbles) (e : Int) : Option (Bool × TPebbles) :=
(idx bars e).bind (fun x1 =>
(m_impl_gather bars p x1.A x1.B (w64 (l + 1))).bind (fun r2 =>
(bif (!r2.1) then
 some (false, r2.2)
 else
(idx r2.2.Free x1.A).bind (fun x4 =>
(((
(bif (x4 == 0) then
 some x1.B
 else
 some x1.A
)
) : Option Int).bind (fun j6 =>
(idx r2.2.Free j6).bind (fun x8 =>
(idx r2.2.Free j6).bind (fun x9 =>
(lim (r2.2.Tails.length + ([j6] : List Int).length)).bind (fun u10 =>
(lim (r2.2.Placed.length + ([e] : List Int).length)).bind (fun u11 =>
 some (true, (TPebbles.mk (r2.2.Free.set j6.toNat (w64 (x8 - 1))) (r2.2.Tails ++ ([j6] : List Int)) (r2.2.Placed ++ ([e] : List Int))))
)
)
)
)
))
)
)
)
)
def m_impl_play_L1 (points : Int) (k : Int) (s1 : (Int × (List Int))) : Option ((Int × (List Int)) ⊕ (List Int)) :=
(bif (decide (s1.1 < points)) then
(lim (s1.2.length + ([k] : List Int).length)).bind (fun u8 =>
 some (.inl ((w64 (s1.1 + 1)), (s1.2 ++ ([k] : List Int))))
)
 else
 some (.inr s1.2)
)
def m_impl_play_L2 (bars : (List TBar)) (l : Int) (s9 : (Int × (List Int) × (List Int) × (List Int))) : Option ((Int × (List Int) × (List Int) × (List Int)) ⊕ ((List Int) × (List Int) × (List Int))) :=
(bif (decide (s9.1 < (bars.length : Int))) then
(m_impl_copyPebbles (TPebbles.mk s9.2.1 s9.2.2.1 s9.2.2.2)).bind (fun r24 =>
(m_impl_place bars l r24 s9.1).bind (fun r25 =>
(((
(bif r25.1 then
 some (r25.2.Free, r25.2.Tails, r25.2.Placed)
 else
 some (s9.2.1, s9.2.2.1, s9.2.2.2)
)
) : Option ((List Int) × (List Int) × (List Int))).bind (fun j27 =>
 some (.inl ((w64 (s9.1 + 1)), j27.1, j27.2.1, j27.2.2))
))
)
)
 else
 some (.inr (s9.2.1, s9.2.2.1, s9.2.2.2))
)
def m_impl_play (points : Int) (bars : (List TBar)) (k : Int) (l : Int) : Option TPebbles :=
((loopM (m_impl_play_L1 points k) BIG (0, ([] : List Int))).bind (fun b6 =>
((loopM (m_impl_play_L2 bars l) BIG (0, b6, ([] : List Int), ([] : List Int))).bind (fun b22 =>
 some (TPebbles.mk b22.1 b22.2.1 b22.2.2)
))
))
def m_impl_RunPebbles (g : TGraph) (k : Int) (l : Int) : Option (TPebbles × Bool) :=
(((
(m_impl_IsGraph g).bind (fun r5 =>
(bif (!r5) then
 some true
 else
(m_impl_IsRange k l).bind (fun r7 =>
 some (!r7)
)
)
)
) : Option Bool).bind (fun j4 =>
(bif j4 then
 some ((TPebbles.mk ([] : List Int) ([] : List Int) ([] : List Int)), false)
 else
(m_impl_play g.Points g.Bars k l).bind (fun r9 =>
 some (r9, true)
)
)
))
def m_impl_RankOf (g : TGraph) (k : Int) (l : Int) : Option Int :=
(m_impl_RunPebbles g k l).bind (fun r1 =>
(bif (!r1.2) then
 some (-1)
 else
 some (r1.1.Placed.length : Int)
)
)
def m_impl_IsGenericHere (f : TFramework) : Option Bool :=
(((
(m_impl_IsFramework f).bind (fun r6 =>
(bif r6 then
(m_impl_FrameworkRank f).bind (fun r8 =>
(m_impl_RankOf f.Graph 2 3).bind (fun r9 =>
 some (r8 == r9)
)
)
 else
 some false
)
)
) : Option Bool).bind (fun j5 =>
 some j5
))
def m_spec_DrawFrameworkFreedom (code : (List Int)) : Option TFramework :=
(m_spec_l1New code).bind (fun r1 =>
(m_spec_l10Any r1).bind (fun r2 =>
 some r2.1
)
)
def m_impl_FrameworkFreedom_L1 (f : TFramework) (s3 : (Bool × Int)) : Option ((Bool × Int) ⊕ Bool) :=
(bif (decide (s3.2 < (f.Places.length : Int))) then
(idx f.Places s3.2).bind (fun x17 =>
(((
(bif s3.1 then
(idx f.Places 0).bind (fun x22 =>
 some (eqI [x17.X, x17.Y] [x22.X, x22.Y])
)
 else
 some false
)
) : Option Bool).bind (fun j20 =>
 some (.inl (j20, (w64 (s3.2 + 1))))
))
)
 else
 some (.inr s3.1)
)
def m_impl_FrameworkFreedom (f : TFramework) : Option Int :=
(m_impl_IsFramework f).bind (fun r1 =>
(bif (!r1) then
 some (-1)
 else
((loopM (m_impl_FrameworkFreedom_L1 f) BIG (true, 0)).bind (fun b15 =>
(((
(bif b15 then
 some 2
 else
 some 3
)
) : Option Int).bind (fun j24 =>
(m_impl_FrameworkRank f).bind (fun r26 =>
 some (w64 ((w64 ((w64 (2 * f.Graph.Points)) - j24)) - r26))
)
))
))
)
)
def m_impl_IsStiff (f : TFramework) : Option Bool :=
(m_impl_FrameworkFreedom f).bind (fun r1 =>
 some (r1 == 0)
)
def m_impl_IsIndependentFramework (f : TFramework) : Option Bool :=
(((
(m_impl_IsFramework f).bind (fun r5 =>
(bif r5 then
(m_impl_FrameworkRank f).bind (fun r7 =>
 some (r7 == (f.Graph.Bars.length : Int))
)
 else
 some false
)
)
) : Option Bool).bind (fun j4 =>
 some j4
))
def m_spec_IsIndependentFramework (f : TFramework) : Option Bool :=
(((
(m_spec_IsFramework f).bind (fun r5 =>
(bif r5 then
(m_spec_FrameworkRank f).bind (fun r7 =>
 some (r7 == (f.Graph.Bars.length : Int))
)
 else
 some false
)
)
) : Option Bool).bind (fun j4 =>
 some j4
))
def m_impl_AreCollinear (a : TPlace) (b : TPlace) (c : TPlace) : Option Bool :=
(((
(m_impl_isPlace a).bind (fun r8 =>
(bif r8 then
(m_impl_isPlace b).bind (fun r10 =>
(bif r10 then
(m_impl_isPlace c).bind (fun r12 =>
(bif r12 then
 some ((w64 ((w64 (b.X - a.X)) * (w64 (c.Y - a.Y)))) == (w64 ((w64 (c.X - a.X)) * (w64 (b.Y - a.Y)))))
 else
 some false
)
)
 else
 some false
)
)
 else
 some false
)
)
) : Option Bool).bind (fun j7 =>
 some j7
))
def m_impl_FlatSets_L11 (f : TFramework) (s104 : (Int × Int × Int × (List (List Int)))) (s153 : (Int × (List (List Int)))) : Option ((Int × (List (List Int))) ⊕ (Int × Int × Int × (List (List Int)))) :=
(bif (decide (s153.1 < (f.Places.length : Int))) then
(idx f.Places s104.1).bind (fun x176 =>
(idx f.Places s104.2.1).bind (fun x177 =>
(idx f.Places s153.1).bind (fun x178 =>
(m_impl_AreCollinear x176 x177 x178).bind (fun r179 =>
(((
(bif r179 then
(lim (s153.2.length + 1)).bind (fun u184 =>
 some (s153.2 ++ [([s104.1, s104.2.1, s153.1] : List Int)])
)
 else
 some s153.2
)
) : Option (List (List Int))).bind (fun j182 =>
 some (.inl ((w64 (s153.1 + 1)), j182))
))
)
)
)
)
 else
 some (.inr (s104.1, s104.2.1, s104.2.2.1, s153.2))
)
def m_impl_FlatSets_L10 (f : TFramework) (s104 : (Int × Int × Int × (List (List Int)))) : Option ((Int × Int × Int × (List (List Int))) ⊕ (Int × (List (List Int)))) :=
(bif (decide (s104.2.1 < (f.Places.length : Int))) then
((loopM (m_impl_FlatSets_L11 f s104) BIG ((w64 (s104.2.1 + 1)), s104.2.2.2)).bind (fun b174 =>
 some (.inl (b174.1, (w64 (b174.2.1 + 1)), b174.2.2.1, b174.2.2.2))
))
 else
 some (.inr (s104.2.2.1, s104.2.2.2))
)
def m_impl_FlatSets_L7 (f : TFramework) (s3 : (Int × (List (List Int)))) : Option ((Int × (List (List Int))) ⊕ (List (List Int))) :=
(bif (decide (s3.1 < (f.Places.length : Int))) then
((loopM (m_impl_FlatSets_L10 f) BIG (s3.1, (w64 (s3.1 + 1)), s3.1, s3.2)).bind (fun b151 =>
 some (.inl ((w64 (b151.1 + 1)), b151.2))
))
 else
 some (.inr s3.2)
)
def m_impl_FlatSets (f : TFramework) : Option (List (List Int)) :=
(m_impl_IsFramework f).bind (fun r1 =>
(bif (!r1) then
 some ([] : List (List Int))
 else
((loopM (m_impl_FlatSets_L7 f) BIG (0, ([] : List (List Int)))).bind (fun b102 =>
 some b102
))
)
)
def m_spec_l10On (p : TPlace) : Option Bool :=
(((
(m_spec_l1In p.X 0 4).bind (fun r5 =>
(bif r5 then
(m_spec_l1In p.Y 0 4).bind (fun r7 =>
 some r7
)
 else
 some false
)
)
) : Option Bool).bind (fun j4 =>
 some j4
))
def m_spec_AreCollinear (a : TPlace) (b : TPlace) (c : TPlace) : Option Bool :=
(((
(m_spec_l10On a).bind (fun r7 =>
(bif (!r7) then
 some true
 else
(m_spec_l10On b).bind (fun r9 =>
(bif (!r9) then
 some true
 else
(m_spec_l10On c).bind (fun r11 =>
 some (!r11)
)
)
)
)
)
) : Option Bool).bind (fun j6 =>
(bif j6 then
 some false
 else
 some ((w64 ((w64 (b.X - a.X)) * (w64 (c.Y - a.Y)))) == (w64 ((w64 (b.Y - a.Y)) * (w64 (c.X - a.X)))))
)
))
def m_spec_FlatSets_L11 (f : TFramework) (s117 : (Int × Int × (List (List Int)))) (s166 : (Int × (List (List Int)))) : Option ((Int × (List (List Int))) ⊕ (Int × Int × (List (List Int)))) :=
(bif (decide (s166.1 < (f.Places.length : Int))) then
(idx f.Places s117.1).bind (fun x189 =>
(idx f.Places s117.2.1).bind (fun x190 =>
(idx f.Places s166.1).bind (fun x191 =>
(m_spec_AreCollinear x189 x190 x191).bind (fun r192 =>
(((
(bif r192 then
(lim (s166.2.length + [([s117.1, s117.2.1, s166.1] : List Int)].length)).bind (fun u197 =>
 some (s166.2 ++ [([s117.1, s117.2.1, s166.1] : List Int)])
)
 else
 some s166.2
)
) : Option (List (List Int))).bind (fun j195 =>
 some (.inl ((w64 (s166.1 + 1)), j195))
))
)
)
)
)
 else
 some (.inr (s117.1, s117.2.1, s166.2))
)
def m_spec_FlatSets_L10 (f : TFramework) (s117 : (Int × Int × (List (List Int)))) : Option ((Int × Int × (List (List Int))) ⊕ (Int × (List (List Int)))) :=
(bif (decide (s117.2.1 < (f.Places.length : Int))) then
((loopM (m_spec_FlatSets_L11 f s117) BIG ((w64 (s117.2.1 + 1)), s117.2.2)).bind (fun b187 =>
 some (.inl (b187.1, (w64 (b187.2.1 + 1)), b187.2.2))
))
 else
 some (.inr (s117.1, s117.2.2))
)
def m_spec_FlatSets_L7 (f : TFramework) (s1 : (Int × (List (List Int)))) : Option ((Int × (List (List Int))) ⊕ (List (List Int))) :=
(((
(bif (decide (s1.1 < (f.Places.length : Int))) then
(m_spec_IsFramework f).bind (fun r115 =>
 some r115
)
 else
 some false
)
) : Option Bool).bind (fun j113 =>
(bif j113 then
((loopM (m_spec_FlatSets_L10 f) BIG (s1.1, (w64 (s1.1 + 1)), s1.2)).bind (fun b164 =>
 some (.inl ((w64 (b164.1 + 1)), b164.2))
))
 else
 some (.inr s1.2)
)
))
def m_spec_FlatSets (f : TFramework) : Option (List (List Int)) :=
((loopM (m_spec_FlatSets_L7 f) BIG (0, ([] : List (List Int)))).bind (fun b110 =>
 some b110
))
def m_spec_CountBar_L1 (g : TGraph) (a : Int) (b : Int) (s1 : (Int × Int)) : Option ((Int × Int) ⊕ Int) :=
(bif (decide (s1.2 < (g.Bars.length : Int))) then
(((
(idx g.Bars s1.2).bind (fun x65 =>
(bif (x65.A == a) then
(idx g.Bars s1.2).bind (fun x67 =>
(bif (x67.B == b) then
 some true
 else
(idx g.Bars s1.2).bind (fun x69 =>
(bif (x69.A == b) then
(idx g.Bars s1.2).bind (fun x71 =>
 some (x71.B == a)
)
 else
 some false
)
)
)
)
 else
(idx g.Bars s1.2).bind (fun x72 =>
(bif (x72.A == b) then
(idx g.Bars s1.2).bind (fun x74 =>
 some (x74.B == a)
)
 else
 some false
)
)
)
)
) : Option Bool).bind (fun j64 =>
(((
(bif j64 then
 some (w64 (s1.1 + 1))
 else
 some s1.1
)
) : Option Int).bind (fun j76 =>
 some (.inl (j76, (w64 (s1.2 + 1))))
))
))
 else
 some (.inr s1.1)
)
def m_spec_CountBar (g : TGraph) (a : Int) (b : Int) : Option Int :=
((loopM (m_spec_CountBar_L1 g a b) BIG (0, 0)).bind (fun b52 =>
 some b52
))
def m_spec_MissingBars_L4 (g : TGraph) (s1 : (Int × (List TBar))) (s53 : (Int × (List TBar))) : Option ((Int × (List TBar)) ⊕ (Int × (List TBar))) :=
(bif (decide (s53.1 < g.Points)) then
(m_spec_CountBar g s1.1 s53.1).bind (fun r70 =>
(((
(bif (r70 == 0) then
(lim (s53.2.length + [(TBar.mk s1.1 s53.1)].length)).bind (fun u75 =>
 some (s53.2 ++ [(TBar.mk s1.1 s53.1)])
)
 else
 some s53.2
)
) : Option (List TBar)).bind (fun j73 =>
 some (.inl ((w64 (s53.1 + 1)), j73))
))
)
 else
 some (.inr (s1.1, s53.2))
)
def m_spec_MissingBars_L3 (g : TGraph) (s1 : (Int × (List TBar))) : Option ((Int × (List TBar)) ⊕ (List TBar)) :=
(((
(bif (decide (s1.1 < g.Points)) then
(m_spec_IsGraph g).bind (fun r51 =>
 some r51
)
 else
 some false
)
) : Option Bool).bind (fun j49 =>
(bif j49 then
((loopM (m_spec_MissingBars_L4 g s1) BIG ((w64 (s1.1 + 1)), s1.2)).bind (fun b68 =>
 some (.inl ((w64 (b68.1 + 1)), b68.2))
))
 else
 some (.inr s1.2)
)
))
def m_spec_MissingBars (g : TGraph) : Option (List TBar) :=
((loopM (m_spec_MissingBars_L3 g) BIG (0, ([] : List TBar))).bind (fun b46 =>
 some b46
))
def m_laws_at (code : (List Int)) (i : Int) : Option Int :=
(bif (decide (i < (code.length : Int))) then
(idx code i).bind (fun x2 =>
 some (w64 x2)
)
 else
 some (Int.tmod (w64 ((w64 (i * 37)) + (w64 ((code.length : Int) * 11)))) 256)
)
def m_laws_FnRigidity (code : (List Int)) : Option Bool :=
(m_laws_big code).bind (fun r1 =>
(bif r1 then
 some true
 else
(m_spec_DrawFrameworkFreedom code).bind (fun r3 =>
(m_impl_FrameworkFreedom r3).bind (fun r4 =>
(m_impl_RigidityMatrix r3).bind (fun r5 =>
(((
(m_spec_FrameworkFreedom r3).bind (fun r23 =>
(bif (r4 != r23) then
 some true
 else
(m_spec_RigidityMatrix r3).bind (fun r25 =>
(m_laws_sameSets r5 r25).bind (fun r26 =>
(bif (!r26) then
 some true
 else
(m_impl_IsStiff r3).bind (fun r28 =>
(bif (r28 != (r4 == 0)) then
 some true
 else
(m_impl_IsIndependentFramework r3).bind (fun r30 =>
(m_spec_IsIndependentFramework r3).bind (fun r31 =>
(bif (r30 != r31) then
 some true
 else
(m_impl_IsGenericHere r3).bind (fun r33 =>
(m_spec_IsGenericHere r3).bind (fun r34 =>
(bif (r33 != r34) then
 some true
 else
(m_impl_FlatSets r3).bind (fun r36 =>
(m_spec_FlatSets r3).bind (fun r37 =>
(m_laws_sameSets r36 r37).bind (fun r38 =>
 some (!r38)
)
)
)
)
)
)
)
)
)
)
)
)
)
)
)
)
) : Option Bool).bind (fun j22 =>
(bif j22 then
 some false
 else
(m_spec_IsFramework r3).bind (fun r40 =>
(bif (!r40) then
 some (r4 == (-1))
 else
(((
(bif (decide (r4 < 0)) then
 some true
 else
(m_impl_IsIndependentFramework r3).bind (fun r47 =>
(m_impl_CountStresses r3).bind (fun r48 =>
 some (r47 != (r48 == 0))
)
)
)
) : Option Bool).bind (fun j45 =>
(bif j45 then
 some false
 else
(m_spec_MissingBars r3.Graph).bind (fun r50 =>
(((
(bif (decide (0 < (r50.length : Int))) then
(m_laws_at code 4).bind (fun r65 =>
(nz (r50.length : Int)).bind (fun u66 =>
(idx r50 (Int.tmod r65 (r50.length : Int))).bind (fun x67 =>
(m_spec_AddBar r3.Graph x67.A x67.B).bind (fun r68 =>
(m_spec_IsFramework (TFramework.mk r68.1 r3.Places)).bind (fun r69 =>
(bif r69 then
(m_impl_FrameworkRank (TFramework.mk r68.1 r3.Places)).bind (fun r71 =>
(m_spec_FrameworkRank r3).bind (fun r72 =>
(((
(bif ((w64 (r71 - r72)) == 0) then
 some true
 else
 some ((w64 (r71 - r72)) == 1)
)
) : Option Bool).bind (fun j74 =>
 some (.inr j74)
))
)
)
 else
 some (.inl ())
)
)
)
)
)
)
 else
 some (.inl ())
)
) : Option (Unit ⊕ Bool)).bind (Sum.elim (fun j63 => (
 some true
)) (fun r => some r)))
)
)
))
)
)
)
))
)
)
)
)
)
end Go.Proofs.Ytghofbijdnenoaa
end
section
set_option linter.unusedVariables false
set_option linter.unusedSimpArgs false
set_option linter.unnecessarySimpa false
open Go Go.Fw
namespace Go.Proofs.Ytghofbijdnenoaa
abbrev SM (n : Nat) : Prop := n ≤ 2147483648
end Go.Proofs.Ytghofbijdnenoaa
end
section
set_option linter.unusedVariables false
set_option linter.unusedSimpArgs false
set_option linter.unnecessarySimpa false
open Go Go.Fw
namespace Go.Proofs.Ytghofbijdnenoaa
theorem l1In_eq (x lo hi : Int) : m_spec_l1In x lo hi = some (decide (lo ≤ x) && decide (x ≤ hi)) := by
  unfold m_spec_l1In
  cases decide (lo ≤ x) <;> simp
theorem within_eq (x lo hi : Int) : m_impl_within x lo hi = some (decide (lo ≤ x) && decide (x ≤ hi)) := by
  unfold m_impl_within
  cases decide (lo ≤ x) <;> simp
theorem compareInts_eq (a b : Int) : m_impl_compareInts a b = some (if a < b then -1 else if b < a then 1 else 0) := by
  unfold m_impl_compareInts
  by_cases h1 : a < b
  · simp [h1]
  · by_cases h2 : b < a <;> simp [h1, h2]
def barGt (x y : TBar) : Bool := decide (y.A < x.A) || (x.A == y.A && decide (y.B < x.B))
theorem compareBars_some (x y : TBar) : ∃ c, m_impl_compareBars x y = some c ∧ decide (0 < c) = barGt x y := by
  unfold m_impl_compareBars barGt
  rw [compareInts_eq, compareInts_eq]
  by_cases h1 : x.A < y.A
  · have h3 : (x.A == y.A) = false := by simp; omega
    exact ⟨-1, by simp [h1], by simp [h3]; omega⟩
  · by_cases h2 : y.A < x.A
    · exact ⟨1, by simp [h1, h2], by simp [h2]⟩
    · have : x.A = y.A := by omega
      by_cases h3 : x.B < y.B
      · exact ⟨-1, by simp [this, h3], by simp [this]; omega⟩
      · by_cases h4 : y.B < x.B
        · exact ⟨1, by simp [this, h3, h4], by simp [this, h4]⟩
        · exact ⟨0, by simp [this, h3, h4], by simp [this]; omega⟩
theorem l2After_eq (x y : TBar) : m_spec_l2After x y = some (!barGt x y) := by
  unfold m_spec_l2After barGt
  by_cases h1 : x.A < y.A
  · have h3 : (x.A == y.A) = false := by simp; omega
    simp [h1, h3]; omega
  · by_cases h2 : y.A < x.A
    · have h3 : (x.A == y.A) = false := by simp; omega
      simp [h1, h2, h3]
    · have : x.A = y.A := by omega
      by_cases h4 : y.B < x.B
      · have h5 : ¬ x.B ≤ y.B := by omega
        simp [this, h4, h5]
      · have h5 : x.B ≤ y.B := by omega
        simp [this, h4, h5]
def badBar (g : TGraph) (k : Nat) : Bool := match g.Bars[k]? with
  | none => false
  | some x => decide (x.A < 0) || decide (x.B ≤ x.A) || decide (g.Points ≤ x.B) || (decide (0 < k) && match g.Bars[k - 1]? with
    | none => false
    | some y => barGt y x)
def vG (g : TGraph) : Bool := decide (1 ≤ g.Points) && decide (g.Points ≤ 8) && !decide (24 < (g.Bars.length : Int)) && !(List.range' 0 g.Bars.length).any (badBar g)
theorem isGraphI_eq (g : TGraph) (h : SM g.Bars.length) : m_impl_IsGraph g = some (vG g) := by
  have e : loopM (m_impl_IsGraph_L1 g) BIG 0 = some (bif (List.range' 0 g.Bars.length).any (badBar g) then .inr false else .inl ()) := by
    refine any_loop0 (badBar g) false g.Bars.length (by omega) (fun k hk => ?_) (by simp [m_impl_IsGraph_L1])
    unfold m_impl_IsGraph_L1 badBar
    rw [decide_eq_true (by omega), cond_true, idx_at hk, Option.bind_some, List.getElem?_eq_getElem hk]
    simp only
    cases decide (g.Bars[k].A < 0)
    · cases decide (g.Bars[k].B ≤ g.Bars[k].A)
      · cases decide (g.Points ≤ g.Bars[k].B)
        · by_cases h0 : 0 < k
          · have e1 : w64 ((k : Int) - 1) = ((k - 1 : Nat) : Int) := by rw [w64_small (by omega) (by omega)]; omega
            obtain ⟨c, hc, hd⟩ := compareBars_some (g.Bars[k - 1]'(by omega)) g.Bars[k]
            rw [decide_eq_true (show (0 : Int) < (k : Int) by omega), decide_eq_true h0, e1, idx_at (show k - 1 < g.Bars.length by omega), List.getElem?_eq_getElem (show k - 1 < g.Bars.length by omega)]
            simp only [cond_false, cond_true, Option.bind_some, hc, hd, Bool.false_or, Bool.true_and]
          · rw [decide_eq_false (show ¬ (0 : Int) < (k : Int) by omega), decide_eq_false h0]
            rfl
        · rfl
      · rfl
    · rfl
  unfold m_impl_IsGraph vG
  rw [within_eq, e]
  simp only [Option.bind_some]
  cases decide (1 ≤ g.Points) && decide (g.Points ≤ 8)
  · rfl
  · cases decide (24 < (g.Bars.length : Int))
    · cases (List.range' 0 g.Bars.length).any (badBar g) <;> rfl
    · rfl
theorem isGraph_L1 (g : TGraph) : m_spec_IsGraph_L1 g = m_impl_IsGraph_L1 g := by
  funext s
  unfold m_spec_IsGraph_L1 m_impl_IsGraph_L1
  have e : ∀ x y, ((m_spec_l2After x y).bind fun r => some (!r)) = (m_impl_compareBars x y).bind fun r => some (decide (0 < r)) := fun x y => by
    obtain ⟨c, hc, hd⟩ := compareBars_some x y
    rw [l2After_eq, hc]
    simp [hd]
  simp only [e]
theorem isGraphS_eq (g : TGraph) (h : SM g.Bars.length) : m_spec_IsGraph g = some (vG g) := by
  rw [← isGraphI_eq g h]
  unfold m_spec_IsGraph m_impl_IsGraph
  rw [l1In_eq, within_eq, isGraph_L1]
structure VG (g : TGraph) : Prop where
  p1 : 1 ≤ g.Points
  p8 : g.Points ≤ 8
  len : g.Bars.length ≤ 24
  a0 : ∀ {k : Nat} {x : TBar}, g.Bars[k]? = some x → 0 ≤ x.A
  ab : ∀ {k : Nat} {x : TBar}, g.Bars[k]? = some x → x.A < x.B
  bp : ∀ {k : Nat} {x : TBar}, g.Bars[k]? = some x → x.B < g.Points
  srt : ∀ {k : Nat} {x y : TBar}, g.Bars[k]? = some x → g.Bars[k + 1]? = some y → barGt x y = false
theorem vG_VG {g : TGraph} (h : vG g = true) : VG g := by
  unfold vG at h
  simp only [Bool.and_eq_true, Bool.not_eq_true', decide_eq_true_eq, decide_eq_false_iff_not] at h
  obtain ⟨⟨⟨h1, h2⟩, h3⟩, h4⟩ := h
  rw [any_range_false] at h4
  have hb : ∀ {k : Nat} {x : TBar}, g.Bars[k]? = some x → 0 ≤ x.A ∧ x.A < x.B ∧ x.B < g.Points ∧ ∀ {y : TBar}, 0 < k → g.Bars[k - 1]? = some y → barGt y x = false := fun {k x} hx => by
    have hk : k < g.Bars.length := (List.getElem?_eq_some_iff.1 hx).1
    have := h4 k (by omega) (by omega)
    unfold badBar at this
    rw [hx] at this
    simp only [Bool.or_eq_false_iff, decide_eq_false_iff_not, Bool.and_eq_false_iff] at this
    obtain ⟨⟨⟨a, b⟩, c⟩, d⟩ := this
    refine ⟨by omega, by omega, by omega, fun {y} hk hy => ?_⟩
    rw [hy] at d
    rcases d with d | d
    · exact absurd hk d
    · exact d
  exact ⟨h1, h2, by omega, fun hx => (hb hx).1, fun hx => (hb hx).2.1, fun hx => (hb hx).2.2.1, fun {k x y} hx hy => (hb hy).2.2.2 (by omega) (by simpa using hx)⟩
theorem VG.sm {g : TGraph} (h : VG g) : SM g.Bars.length := by have := h.len; omega
def hasI (l : List Int) (x : Int) : Bool := l.any (· == x)
def atB {α : Type} (l : List α) (p : α → Bool) (k : Nat) : Bool := match l[k]? with
  | some x => p x
  | none => false
theorem atB_at {α : Type} {l : List α} {k : Nat} (h : k < l.length) (p : α → Bool) : atB l p k = p l[k] := by simp [atB, h]
end Go.Proofs.Ytghofbijdnenoaa
end
section
set_option linter.unusedVariables false
set_option linter.unusedSimpArgs false
set_option linter.unnecessarySimpa false
open Go Go.Fw
namespace Go.Proofs.Ytghofbijdnenoaa
theorem idx_in {α : Type} {l : List α} {i : Int} (d : α) (h0 : 0 ≤ i) (h1 : i < (l.length : Int)) : idx l i = some ((l[i.toNat]?).getD d) := by
  unfold idx
  rw [if_pos h0, List.getElem?_eq_getElem (by omega)]
  rfl
def plAt (f : TFramework) (v : Int) : TPlace := (f.Places[v.toNat]?).getD ⟨0, 0⟩
def onGrid (p : TPlace) : Bool := (decide (0 ≤ p.X) && decide (p.X ≤ 4)) && (decide (0 ≤ p.Y) && decide (p.Y ≤ 4))
theorem isPlace_eq (p : TPlace) : m_impl_isPlace p = some (onGrid p) := by
  unfold m_impl_isPlace onGrid
  rw [within_eq, within_eq]
  simp only [Option.bind_some]
  cases decide (0 ≤ p.X) && decide (p.X ≤ 4) <;> rfl
def badLen (f : TFramework) (k : Nat) : Bool := match f.Graph.Bars[k]? with
  | none => false
  | some x => eqI [(plAt f x.A).X, (plAt f x.A).Y] [(plAt f x.B).X, (plAt f x.B).Y] || (decide (0 < k) && match f.Graph.Bars[k - 1]? with
    | none => false
    | some y => eqI [y.A, y.B] [x.A, x.B])
def vF (f : TFramework) : Bool := vG f.Graph && !decide (6 < f.Graph.Points) && !((f.Places.length : Int) != f.Graph.Points) && !decide (15 < (f.Graph.Bars.length : Int)) && !(List.range' 0 f.Places.length).any (atB f.Places fun p => !onGrid p) && !(List.range' 0 f.Graph.Bars.length).any (badLen f)
theorem isFI_L1 (f : TFramework) (h : SM f.Places.length) : loopM (m_impl_IsFramework_L1 f) BIG 0 = some (bif (List.range' 0 f.Places.length).any (atB f.Places fun p => !onGrid p) then .inr false else .inl ()) := by
  refine any_loop0 _ false f.Places.length (by omega) (fun k hk => ?_) (by simp [m_impl_IsFramework_L1])
  unfold m_impl_IsFramework_L1
  rw [decide_eq_true (by omega), cond_true, idx_at hk, Option.bind_some, atB_at hk, isPlace_eq, Option.bind_some]
theorem isFS_L1 (f : TFramework) (h : SM f.Places.length) : loopM (m_spec_IsFramework_L1 f) BIG 0 = some (bif (List.range' 0 f.Places.length).any (atB f.Places fun p => !onGrid p) then .inr false else .inl ()) := by
  refine any_loop0 _ false f.Places.length (by omega) (fun k hk => ?_) (by simp [m_spec_IsFramework_L1])
  unfold m_spec_IsFramework_L1 onGrid
  rw [decide_eq_true (by omega), cond_true, idx_at hk, atB_at hk]
  simp only [l1In_eq, Option.bind_some]
  cases decide (0 ≤ f.Places[k].X) && decide (f.Places[k].X ≤ 4) <;> rfl
theorem isFI_L2 (f : TFramework) (hv : VG f.Graph) (hp : (f.Places.length : Int) = f.Graph.Points) : loopM (m_impl_IsFramework_L2 f) BIG 0 = some (bif (List.range' 0 f.Graph.Bars.length).any (badLen f) then .inr false else .inl ()) := by
  refine any_loop0 _ false f.Graph.Bars.length (by have := hv.len; omega) (fun k hk => ?_) (by simp [m_impl_IsFramework_L2])
  have hx := List.getElem?_eq_getElem hk
  have a0 := hv.a0 hx
  have ab := hv.ab hx
  have bp := hv.bp hx
  unfold m_impl_IsFramework_L2 badLen
  rw [decide_eq_true (by omega), cond_true, idx_at hk, Option.bind_some, hx]
  simp only [idx_in (⟨0, 0⟩ : TPlace) a0 (show f.Graph.Bars[k].A < (f.Places.length : Int) by omega), idx_in (⟨0, 0⟩ : TPlace) (show 0 ≤ f.Graph.Bars[k].B by omega) (show f.Graph.Bars[k].B < (f.Places.length : Int) by omega), Option.bind_some]
  by_cases h0 : 0 < k
  · have hl := hv.len
    have e1 : w64 ((k : Int) - 1) = ((k - 1 : Nat) : Int) := by rw [w64_small (by omega) (by omega)]; omega
    rw [decide_eq_true (show (0 : Int) < (k : Int) by omega), decide_eq_true h0, cond_true, e1, idx_at (show k - 1 < f.Graph.Bars.length by omega), Option.bind_some, List.getElem?_eq_getElem (show k - 1 < f.Graph.Bars.length by omega)]
    simp only [Bool.true_and, plAt]
    cases eqI [f.Graph.Bars[k - 1].A, f.Graph.Bars[k - 1].B] [f.Graph.Bars[k].A, f.Graph.Bars[k].B] <;> simp
  · rw [decide_eq_false (show ¬ (0 : Int) < (k : Int) by omega), decide_eq_false h0]
    simp [plAt]
theorem isFS_L2 (f : TFramework) (hv : VG f.Graph) (hp : (f.Places.length : Int) = f.Graph.Points) : loopM (m_spec_IsFramework_L2 f) BIG 0 = some (bif (List.range' 0 f.Graph.Bars.length).any (badLen f) then .inr false else .inl ()) := by
  refine any_loop0 _ false f.Graph.Bars.length (by have := hv.len; omega) (fun k hk => ?_) (by simp [m_spec_IsFramework_L2])
  have hx := List.getElem?_eq_getElem hk
  have a0 := hv.a0 hx
  have ab := hv.ab hx
  have bp := hv.bp hx
  unfold m_spec_IsFramework_L2 badLen
  rw [decide_eq_true (by omega), cond_true, idx_at hk, Option.bind_some, hx]
  simp only [idx_in (⟨0, 0⟩ : TPlace) a0 (show f.Graph.Bars[k].A < (f.Places.length : Int) by omega), idx_in (⟨0, 0⟩ : TPlace) (show 0 ≤ f.Graph.Bars[k].B by omega) (show f.Graph.Bars[k].B < (f.Places.length : Int) by omega), Option.bind_some]
  by_cases h0 : 0 < k
  · have hl := hv.len
    have e1 : w64 ((k : Int) - 1) = ((k - 1 : Nat) : Int) := by rw [w64_small (by omega) (by omega)]; omega
    rw [decide_eq_true (show (0 : Int) < (k : Int) by omega), decide_eq_true h0, cond_true, e1, idx_at (show k - 1 < f.Graph.Bars.length by omega), Option.bind_some, List.getElem?_eq_getElem (show k - 1 < f.Graph.Bars.length by omega)]
    simp only [Bool.true_and, plAt]
    generalize eqI [((f.Places[f.Graph.Bars[k].A.toNat]?).getD ⟨0, 0⟩).X, _] _ = c
    cases c <;> simp
  · rw [decide_eq_false (show ¬ (0 : Int) < (k : Int) by omega), decide_eq_false h0]
    simp only [cond_false, Bool.false_and, Bool.or_false, plAt]
    generalize eqI [((f.Places[f.Graph.Bars[k].A.toNat]?).getD ⟨0, 0⟩).X, _] _ = c
    cases c <;> simp
theorem bne_int {a b : Int} : (a != b) = false ↔ a = b := by simp
theorem isFI_eq (f : TFramework) (h : SM f.Graph.Bars.length) (h2 : SM f.Places.length) : m_impl_IsFramework f = some (vF f) := by
  unfold m_impl_IsFramework vF
  rw [isGraphI_eq _ h, isFI_L1 f h2]
  cases hg : vG f.Graph
  · rfl
  · cases decide (6 < f.Graph.Points)
    · cases decide (15 < (f.Graph.Bars.length : Int))
      · cases hp : ((f.Places.length : Int) != f.Graph.Points)
        · rw [isFI_L2 f (vG_VG hg) (bne_int.1 hp)]
          cases (List.range' 0 f.Places.length).any (atB f.Places fun p => !onGrid p)
          · cases (List.range' 0 f.Graph.Bars.length).any (badLen f) <;> rfl
          · rfl
        · rfl
      · cases ((f.Places.length : Int) != f.Graph.Points) <;> rfl
    · rfl
theorem isFS_eq (f : TFramework) (h : SM f.Graph.Bars.length) (h2 : SM f.Places.length) : m_spec_IsFramework f = some (vF f) := by
  unfold m_spec_IsFramework vF
  rw [isGraphS_eq _ h, isFS_L1 f h2]
  cases hg : vG f.Graph
  · rfl
  · cases decide (6 < f.Graph.Points)
    · cases hp : ((f.Places.length : Int) != f.Graph.Points)
      · cases decide (15 < (f.Graph.Bars.length : Int))
        · rw [isFS_L2 f (vG_VG hg) (bne_int.1 hp)]
          cases (List.range' 0 f.Places.length).any (atB f.Places fun p => !onGrid p)
          · cases (List.range' 0 f.Graph.Bars.length).any (badLen f) <;> rfl
          · rfl
        · rfl
      · rfl
    · rfl
structure VF (f : TFramework) : Prop where
  g : VG f.Graph
  p6 : f.Graph.Points ≤ 6
  len : f.Graph.Bars.length ≤ 15
  pls : (f.Places.length : Int) = f.Graph.Points
  grid : ∀ {k : Nat} {p : TPlace}, f.Places[k]? = some p → 0 ≤ p.X ∧ p.X ≤ 4 ∧ 0 ≤ p.Y ∧ p.Y ≤ 4
  dif : ∀ {k : Nat} {x : TBar}, f.Graph.Bars[k]? = some x → eqI [(plAt f x.A).X, (plAt f x.A).Y] [(plAt f x.B).X, (plAt f x.B).Y] = false
  nod : ∀ {k : Nat} {x y : TBar}, f.Graph.Bars[k]? = some x → f.Graph.Bars[k + 1]? = some y → eqI [x.A, x.B] [y.A, y.B] = false
theorem vF_VF {f : TFramework} (h : vF f = true) : VF f := by
  unfold vF at h
  simp only [Bool.and_eq_true, Bool.not_eq_true', decide_eq_false_iff_not] at h
  obtain ⟨⟨⟨⟨⟨h1, h2⟩, h3⟩, h4⟩, h5⟩, h6⟩ := h
  rw [any_range_false] at h5 h6
  refine ⟨vG_VG h1, by omega, by omega, bne_int.1 h3, fun {k p} hk => ?_, fun {k x} hk => ?_, fun {k x y} hx hy => ?_⟩
  · have hl := (List.getElem?_eq_some_iff.1 hk).1
    have := h5 k (by omega) (by omega)
    unfold atB at this
    rw [hk] at this
    simp only [Bool.not_eq_false', onGrid, Bool.and_eq_true, decide_eq_true_eq] at this
    exact ⟨this.1.1, this.1.2, this.2.1, this.2.2⟩
  · have hl := (List.getElem?_eq_some_iff.1 hk).1
    have := h6 k (by omega) (by omega)
    unfold badLen at this
    rw [hk] at this
    simp only [Bool.or_eq_false_iff] at this
    exact this.1
  · have hl := (List.getElem?_eq_some_iff.1 hy).1
    have := h6 (k + 1) (by omega) (by omega)
    unfold badLen at this
    rw [hy] at this
    simp only [Bool.or_eq_false_iff, Nat.add_sub_cancel, hx] at this
    simpa using this.2
theorem VF.pl_in {f : TFramework} (h : VF f) {v : Int} (h0 : 0 ≤ v) (h1 : v < f.Graph.Points) : idx f.Places v = some (plAt f v) := idx_in _ h0 (by have := h.pls; omega)
theorem VF.pl_grid {f : TFramework} (h : VF f) {v : Int} (h0 : 0 ≤ v) (h1 : v < f.Graph.Points) : 0 ≤ (plAt f v).X ∧ (plAt f v).X ≤ 4 ∧ 0 ≤ (plAt f v).Y ∧ (plAt f v).Y ≤ 4 := by
  have hp := h.pls
  have hl : v.toNat < f.Places.length := by omega
  have e : f.Places[v.toNat]? = some (plAt f v) := by unfold plAt; rw [List.getElem?_eq_getElem hl]; rfl
  exact h.grid e
end Go.Proofs.Ytghofbijdnenoaa
end
section
set_option linter.unusedVariables false
set_option linter.unusedSimpArgs false
set_option linter.unnecessarySimpa false
open Go Go.Fw
namespace Go.Proofs.Ytghofbijdnenoaa
def nameStep (set : List Int) (k : Nat) (a : List Int × Nat) : List Int × Nat := bif hasI set k then (a.1 ++ [-1], a.2) else (a.1 ++ [(a.2 : Int)], a.2 + 1)
def names (set : List Int) (n : Nat) : List Int × Nat := iter (nameStep set) n ([], 0)
def nm (l : List Int) (v : Int) : Int := (l[v.toNat]?).getD 0
theorem l2Copy_eq (g : TGraph) (h : SM g.Bars.length) : m_spec_l2Copy g = some g := by
  unfold m_spec_l2Copy
  rw [lim_ok (by simp; omega)]
  rfl
end Go.Proofs.Ytghofbijdnenoaa
end
section
set_option linter.unusedVariables false
set_option linter.unusedSimpArgs false
set_option linter.unnecessarySimpa false
open Go Go.Fw
namespace Go.Proofs.Ytghofbijdnenoaa
theorem copyInts_eq (l : List Int) (h : SM l.length) : m_impl_copyInts l = some l := by
  unfold m_impl_copyInts
  rw [lim_ok (by simp; omega)]
  rfl
structure VV (f : TFramework) (v : List Int) : Prop where
  fr : VF f
  len : (v.length : Int) = 2 * f.Graph.Points
  sm : ∀ {k : Nat} {x : Int}, v[k]? = some x → -10000000000 ≤ x ∧ x ≤ 10000000000
def gv (v : List Int) (i : Int) : Int := (v[i.toNat]?).getD 0
theorem VV.lt {f : TFramework} {v : List Int} (h : VV f v) {i : Int} (h0 : 0 ≤ i) (h1 : i < 2 * f.Graph.Points) : -10000000000 ≤ gv v i ∧ gv v i ≤ 10000000000 := by
  have hl := h.len
  have hn : i.toNat < v.length := by omega
  refine h.sm (k := i.toNat) ?_
  unfold gv
  rw [List.getElem?_eq_getElem hn]
  rfl
def otherE (x : TBar) (v : Int) : Int := bif x.A == v then x.B else x.A
end Go.Proofs.Ytghofbijdnenoaa
end
section
set_option linter.unusedVariables false
set_option linter.unusedSimpArgs false
set_option linter.unnecessarySimpa false
namespace Go.Mx
def gl (v : List Int) : Int := v.foldl (fun g x => (Int.gcd g x : Int)) 0
def fnz (v : List Int) : Int := v.foldl (fun f x => if f = 0 then x else f) 0
def sg (v : List Int) : Int := if fnz v < 0 then - gl v else gl v
def prim (v : List Int) : List Int := if gl v = 0 then v else v.map fun x => Int.tdiv x (sg v)
theorem gl_from_nonneg : ∀ (v : List Int) (g : Int), 0 ≤ g → 0 ≤ v.foldl (fun g x => (Int.gcd g x : Int)) g
  | [], g, h => h
  | x :: v, g, _ => gl_from_nonneg v _ (Int.natCast_nonneg _)
theorem gl_nonneg (v : List Int) : 0 ≤ gl v := gl_from_nonneg v 0 (Int.le_refl _)
theorem gl_from_dvd : ∀ (v : List Int) (g : Int), v.foldl (fun g x => (Int.gcd g x : Int)) g ∣ g ∧ ∀ x ∈ v, v.foldl (fun g x => (Int.gcd g x : Int)) g ∣ x
  | [], g => ⟨Int.dvd_refl _, fun x hx => by cases hx⟩
  | a :: v, g => by
    obtain ⟨h1, h2⟩ := gl_from_dvd v (Int.gcd g a : Int)
    refine ⟨Int.dvd_trans h1 (Int.gcd_dvd_left ..), fun x hx => ?_⟩
    rcases List.mem_cons.1 hx with rfl | hx
    · exact Int.dvd_trans h1 (Int.gcd_dvd_right ..)
    · exact h2 x hx
theorem gl_dvd {v : List Int} {x : Int} (hx : x ∈ v) : gl v ∣ x := (gl_from_dvd v 0).2 x hx
theorem gl_from_mul (c : Int) : ∀ (v : List Int) (g : Int), 0 ≤ g → (v.map (c * ·)).foldl (fun g x => (Int.gcd g x : Int)) (c.natAbs * g) = c.natAbs * v.foldl (fun g x => (Int.gcd g x : Int)) g
  | [], g, _ => rfl
  | a :: v, g, hg => by
    show (v.map (c * ·)).foldl (fun g x => (Int.gcd g x : Int)) (Int.gcd ((c.natAbs : Int) * g) (c * a) : Int) = _
    have : (Int.gcd ((c.natAbs : Int) * g) (c * a) : Int) = (c.natAbs : Int) * (Int.gcd g a : Int) := by
      have e : Int.gcd ((c.natAbs : Int) * g) (c * a) = c.natAbs * Int.gcd g a := by
        rw [show Int.gcd ((c.natAbs : Int) * g) (c * a) = Nat.gcd (((c.natAbs : Int) * g).natAbs) ((c * a).natAbs) from rfl, Int.natAbs_mul, Int.natAbs_mul, Int.natAbs_natCast, Nat.gcd_mul_left]
        rfl
      rw [e, Int.natCast_mul]
    rw [this]
    exact gl_from_mul c v _ (Int.natCast_nonneg _)
theorem gl_mul (c : Int) (v : List Int) : gl (v.map (c * ·)) = c.natAbs * gl v := by
  have := gl_from_mul c v 0 (Int.le_refl _)
  rwa [Int.mul_zero] at this
theorem gl_zero {v : List Int} : gl v = 0 ↔ ∀ x ∈ v, x = 0 := by
  refine ⟨fun h x hx => ?_, fun h => ?_⟩
  · have := gl_dvd hx
    rw [h] at this
    exact Int.zero_dvd.1 this
  · have key : ∀ (v : List Int), (∀ x ∈ v, x = 0) → v.foldl (fun g x => (Int.gcd g x : Int)) 0 = 0 := fun v => by
      induction v with
      | nil => intro _; rfl
      | cons a v ih =>
        intro h
        have ha := h a List.mem_cons_self
        subst ha
        exact ih fun x hx => h x (List.mem_cons_of_mem _ hx)
    exact key v h
theorem fnz_from : ∀ (v : List Int) (f : Int), f ≠ 0 → v.foldl (fun f x => if f = 0 then x else f) f = f
  | [], f, _ => rfl
  | a :: v, f, h => by
    show v.foldl (fun f x => if f = 0 then x else f) (if f = 0 then a else f) = f
    rw [if_neg h]
    exact fnz_from v f h
theorem fnz_cons (a : Int) (v : List Int) : fnz (a :: v) = if a = 0 then fnz v else a := by
  show v.foldl (fun f x => if f = 0 then x else f) (if (0 : Int) = 0 then a else 0) = _
  rw [if_pos rfl]
  by_cases h : a = 0
  · rw [if_pos h, h]; rfl
  · rw [if_neg h]; exact fnz_from v a h
theorem fnz_mul {c : Int} (hc : c ≠ 0) (v : List Int) : fnz (v.map (c * ·)) = c * fnz v := by
  induction v with
  | nil => show (0 : Int) = c * 0; omega
  | cons a v ih =>
    rw [List.map_cons, fnz_cons, fnz_cons, ih]
    by_cases h : a = 0
    · rw [if_pos (by rw [h]; omega), if_pos h]
    · rw [if_neg (fun e => by rcases Int.mul_eq_zero.1 e with e | e; exact hc e; exact h e), if_neg h]
theorem fnz_zero {v : List Int} : fnz v = 0 ↔ ∀ x ∈ v, x = 0 := by
  induction v with
  | nil => exact ⟨fun _ x hx => (by cases hx), fun _ => rfl⟩
  | cons a v ih =>
    rw [fnz_cons]
    by_cases h : a = 0
    · rw [if_pos h, ih]
      exact ⟨fun hv x hx => by rcases List.mem_cons.1 hx with e | e; rw [e, h]; exact hv x e, fun hv x hx => hv x (List.mem_cons_of_mem _ hx)⟩
    · rw [if_neg h]
      exact ⟨fun e => absurd e h, fun hv => absurd (hv a List.mem_cons_self) h⟩
theorem sg_zero {v : List Int} : sg v = 0 ↔ gl v = 0 := by unfold sg; split <;> omega
theorem sg_dvd {v : List Int} {x : Int} (hx : x ∈ v) : sg v ∣ x := by
  unfold sg
  split
  · exact Int.neg_dvd.2 (gl_dvd hx)
  · exact gl_dvd hx
theorem sg_mul {c : Int} (hc : c ≠ 0) (v : List Int) : sg (v.map (c * ·)) = c * sg v := by
  unfold sg
  rw [fnz_mul hc, gl_mul]
  have h1 := gl_nonneg v
  by_cases hz : fnz v = 0
  · have : gl v = 0 := gl_zero.2 (fnz_zero.1 hz)
    rw [this, hz]; simp
  · rcases Int.lt_or_gt_of_ne hc with h | h
    · have hn : (c.natAbs : Int) = -c := by omega
      rw [hn]
      rcases Int.lt_or_gt_of_ne hz with g | g
      · have := Int.mul_pos_of_neg_of_neg h g
        rw [if_neg (by omega), if_pos g]; grind
      · have := Int.mul_neg_of_neg_of_pos h g
        rw [if_pos (by omega), if_neg (by omega)]; grind
    · have hn : (c.natAbs : Int) = c := by omega
      rw [hn]
      rcases Int.lt_or_gt_of_ne hz with g | g
      · have := Int.mul_neg_of_pos_of_neg h g
        rw [if_pos (by omega), if_pos g]; grind
      · have := Int.mul_pos h g
        rw [if_neg (by omega), if_neg (by omega)]
theorem prim_len (v : List Int) : (prim v).length = v.length := by unfold prim; split <;> simp
theorem prim_eq (v : List Int) : v = (prim v).map ((if gl v = 0 then 1 else sg v) * ·) := by
  unfold prim
  split
  · simp
  · rename_i h
    rw [List.map_map]
    conv => lhs; rw [← List.map_id v]
    exact List.map_congr_left fun x hx => (Int.mul_tdiv_cancel' (sg_dvd hx)).symm
theorem prim_mul {c : Int} (hc : c ≠ 0) {v : List Int} (hv : gl v ≠ 0) : prim (v.map (c * ·)) = prim v := by
  unfold prim
  have h1 : gl (v.map (c * ·)) ≠ 0 := by
    rw [gl_mul]
    intro e
    rcases Int.mul_eq_zero.1 e with e | e
    · omega
    · exact hv e
  rw [if_neg h1, if_neg hv, List.map_map, sg_mul hc]
  refine List.map_congr_left fun x hx => ?_
  show Int.tdiv (c * x) (c * sg v) = _
  obtain ⟨q, hq⟩ := sg_dvd hx
  have hs : sg v ≠ 0 := fun e => hv (sg_zero.1 e)
  rw [hq, Int.mul_tdiv_cancel_left q hs, ← Int.mul_assoc, Int.mul_tdiv_cancel_left q fun e => by
    rcases Int.mul_eq_zero.1 e with e | e
    · exact hc e
    · exact hs e]
def Par (u v : List Int) : Prop := u.length = v.length ∧ ∃ a b : Int, a ≠ 0 ∧ b ≠ 0 ∧ ∀ k : Nat, a * u.getD k 0 = b * v.getD k 0
theorem map_ext {u v : List Int} {a b : Int} (hl : u.length = v.length) (h : ∀ k : Nat, a * u.getD k 0 = b * v.getD k 0) : u.map (a * ·) = v.map (b * ·) := by
  refine List.ext_getElem (by simpa using hl) fun k h1 h2 => ?_
  have h1 : k < u.length := by simpa using h1
  have h2 : k < v.length := by simpa using h2
  have := h k
  simp only [List.getD_eq_getElem?_getD, List.getElem?_eq_getElem h1, List.getElem?_eq_getElem h2, Option.getD_some] at this
  simpa using this
theorem Par.prim {u v : List Int} (h : Par u v) : prim u = prim v := by
  obtain ⟨hl, a, b, ha, hb, h⟩ := h
  have hm := map_ext hl h
  by_cases hu : gl u = 0
  · have hv : gl v = 0 := by
      have := congrArg gl hm
      rw [gl_mul, gl_mul, hu] at this
      have : (b.natAbs : Int) * gl v = 0 := by omega
      rcases Int.mul_eq_zero.1 this with e | e
      · omega
      · exact e
    have e1 : Mx.prim u = u := if_pos hu
    have e2 : Mx.prim v = v := if_pos hv
    rw [e1, e2]
    have z1 := gl_zero.1 hu
    have z2 := gl_zero.1 hv
    refine List.ext_getElem hl fun k h1 h2 => ?_
    rw [z1 _ (List.getElem_mem h1), z2 _ (List.getElem_mem h2)]
  · have hv : gl v ≠ 0 := fun hv => hu (by
      have := congrArg gl hm
      rw [gl_mul, gl_mul, hv] at this
      have : (a.natAbs : Int) * gl u = 0 := by omega
      rcases Int.mul_eq_zero.1 this with e | e
      · omega
      · exact e)
    rw [← prim_mul ha hu, hm, prim_mul hb hv]
theorem Par.refl (u : List Int) : Par u u := ⟨rfl, 1, 1, by decide, by decide, fun _ => rfl⟩
theorem getD_map_mul (c : Int) (v : List Int) (k : Nat) : (v.map (c * ·)).getD k 0 = c * v.getD k 0 := by
  simp only [List.getD_eq_getElem?_getD, List.getElem?_map]
  cases v[k]? <;> simp
theorem prim_fac (v : List Int) : ∃ t : Int, t ≠ 0 ∧ ∀ k : Nat, v.getD k 0 = t * (prim v).getD k 0 := by
  refine ⟨if gl v = 0 then 1 else sg v, ?_, fun k => ?_⟩
  · split
    · decide
    · rename_i h
      exact fun e => h (sg_zero.1 e)
  · conv => lhs; rw [prim_eq v]
    exact getD_map_mul ..
theorem prim_zero_iff (v : List Int) (k : Nat) : (prim v).getD k 0 = 0 ↔ v.getD k 0 = 0 := by
  obtain ⟨t, ht, h⟩ := prim_fac v
  rw [h k]
  refine ⟨fun e => by rw [e, Int.mul_zero], fun e => ?_⟩
  rcases Int.mul_eq_zero.1 e with e | e
  · exact absurd e ht
  · exact e
theorem prim_le (v : List Int) {B : Int} (hB : ∀ k : Nat, (v.getD k 0).natAbs ≤ B) (k : Nat) : ((prim v).getD k 0).natAbs ≤ B := by
  obtain ⟨t, ht, h⟩ := prim_fac v
  have h1 := hB k
  rw [h k, Int.natAbs_mul] at h1
  have h2 : 1 ≤ t.natAbs := by omega
  have h3 : 1 * ((prim v).getD k 0).natAbs ≤ t.natAbs * ((prim v).getD k 0).natAbs := Nat.mul_le_mul_right _ h2
  omega
end Go.Mx
end
section
set_option linter.unusedVariables false
set_option linter.unusedSimpArgs false
set_option linter.unnecessarySimpa false
open Go Go.Fw Go.Mx
namespace Go.Proofs.Ytghofbijdnenoaa
theorem nz_ok {x : Int} (h : x ≠ 0) : nz x = some () := by unfold nz; rw [if_pos h]
theorem tmod_cast (a b : Nat) : Int.tmod (a : Int) (b : Int) = ((a % b : Nat) : Int) := (Int.ofNat_tmod a b).symm
theorem euclid {bm : Int × Int → Option ((Int × Int) ⊕ Int)} (h0 : ∀ a : Nat, bm ((a : Int), ((0 : Nat) : Int)) = some (.inr (a : Int))) (h1 : ∀ a b : Nat, 0 < b → bm ((a : Int), (b : Int)) = some (.inl ((b : Int), ((a % b : Nat) : Int)))) :
    ∀ (m a b f : Nat), b < 2 ^ m → 2 * m + 1 ≤ f → loopM bm f ((a : Int), (b : Int)) = some ((Nat.gcd a b : Nat) : Int) := by
  intro m
  induction m with
  | zero =>
    intro a b f hb hf
    have : b = 0 := by simp at hb; omega
    subst this
    obtain ⟨f, rfl⟩ : ∃ g, f = g + 1 := ⟨f - 1, by omega⟩
    unfold loopM
    rw [h0, Nat.gcd_zero_right]
  | succ m ih =>
    intro a b f hb hf
    obtain ⟨f, rfl⟩ : ∃ g, f = g + 2 := ⟨f - 2, by omega⟩
    by_cases hb0 : b = 0
    · subst hb0
      unfold loopM
      rw [h0, Nat.gcd_zero_right]
    · unfold loopM
      rw [h1 a b (by omega)]
      show loopM bm (f + 1) ((b : Int), ((a % b : Nat) : Int)) = _
      have e1 : Nat.gcd a b = Nat.gcd b (a % b) := by rw [Nat.gcd_comm b, ← Nat.gcd_rec, Nat.gcd_comm]
      rw [e1]
      by_cases hc0 : a % b = 0
      · rw [hc0]
        unfold loopM
        rw [h0, Nat.gcd_zero_right]
      · unfold loopM
        rw [h1 b (a % b) (by omega)]
        show loopM bm f (((a % b : Nat) : Int), ((b % (a % b) : Nat) : Int)) = _
        have e2 : Nat.gcd b (a % b) = Nat.gcd (a % b) (b % (a % b)) := by rw [Nat.gcd_comm (a % b), ← Nat.gcd_rec, Nat.gcd_comm]
        rw [e2]
        refine ih _ _ f ?_ (by omega)
        have hlt : a % b < b := Nat.mod_lt _ (by omega)
        have hlt2 : b % (a % b) < a % b := Nat.mod_lt _ (by omega)
        have hle : (a % b) + b % (a % b) ≤ b := by
          have := Nat.div_add_mod b (a % b)
          have hq : 1 ≤ b / (a % b) := Nat.div_pos (by omega) (by omega)
          have := Nat.mul_le_mul_left (a % b) hq
          omega
        rw [Nat.pow_succ] at hb
        omega
def Small (B : Int) (x : Int) : Prop := -B ≤ x ∧ x ≤ B
def G9 : Int := 9000000000000000000
theorem abs_if {x : Int} (h : Small G9 x) : (if x < w64 (-x) then w64 (-x) else x) = ((x.natAbs : Nat) : Int) := by
  unfold Small G9 at h
  rw [w64_id (by omega) (by omega)]
  split <;> omega
theorem natAbs_lt {x : Int} (h : Small G9 x) : x.natAbs < 2 ^ 63 := by
  unfold Small G9 at h
  have : (2 : Nat) ^ 63 = 9223372036854775808 := by decide
  omega
theorem BIG_big : 1000 ≤ BIG := by unfold BIG; omega
theorem gcdS_eq {a b : Int} (ha : Small G9 a) (hb : Small G9 b) : m_spec_GcdOf a b = some (Int.gcd a b : Int) := by
  have ha' := ha
  have hb' := hb
  unfold Small G9 at ha' hb'
  unfold m_spec_GcdOf
  simp only [l1In_eq, Option.bind_some]
  rw [decide_eq_true (show -9000000000000000000 ≤ a by omega), decide_eq_true (show a ≤ 9000000000000000000 by omega), decide_eq_true (show -9000000000000000000 ≤ b by omega), decide_eq_true (show b ≤ 9000000000000000000 by omega)]
  simp only [Bool.and_self, Bool.not_true, cond_false, Option.bind_some, abs_if ha, abs_if hb]
  rw [euclid (fun a => by simp [m_spec_GcdOf_L1]) (fun a b h => by
    unfold m_spec_GcdOf_L1
    rw [decide_eq_true (by show 0 < (b : Int); omega), cond_true, nz_ok (by show (b : Int) ≠ 0; omega), Option.bind_some, tmod_cast]) 63 a.natAbs b.natAbs BIG (natAbs_lt hb) (by have := BIG_big; omega)]
  rfl
def SmallL (B : Int) (v : List Int) : Prop := ∀ x ∈ v, Small B x
theorem fold_take {β : Type} (f : β → Int → β) (b : β) {v : List Int} {k : Nat} (hk : k < v.length) : (v.take (k + 1)).foldl f b = f ((v.take k).foldl f b) v[k] := by
  rw [take_get hk, List.foldl_append]; rfl
theorem gl_take_small {v : List Int} (h : SmallL G9 v) (k : Nat) : Small G9 (gl (v.take k)) := by
  have h0 := gl_nonneg (v.take k)
  refine ⟨by unfold G9; omega, ?_⟩
  by_cases hz : gl (v.take k) = 0
  · rw [hz]; unfold G9; omega
  · have : ¬ ∀ x ∈ v.take k, x = 0 := fun e => hz (gl_zero.2 e)
    obtain ⟨x, hx⟩ := Classical.not_forall.1 this
    obtain ⟨hx1, hx2⟩ := Classical.not_imp.1 hx
    have hd := gl_dvd hx1
    have hs := h x (List.mem_of_mem_take hx1)
    have := Int.le_of_dvd (by omega : (0 : Int) < x.natAbs) (Int.dvd_natAbs.2 hd)
    unfold Small at hs
    omega
theorem sg_small {v : List Int} (h : SmallL G9 v) : Small G9 (sg v) := by
  have := gl_take_small h v.length
  rw [List.take_length] at this
  have h0 := gl_nonneg v
  unfold Small at this ⊢
  unfold sg
  split <;> omega
theorem tdiv_small {x g : Int} (hx : Small G9 x) (hg : g ≠ 0) (hd : g ∣ x) : w64 (Int.tdiv x g) = Int.tdiv x g := by
  obtain ⟨q, hq⟩ := hd
  have e : Int.tdiv x g = q := by rw [hq, Int.mul_tdiv_cancel_left q hg]
  rw [e]
  have h2 : (q.natAbs : Int) ≤ x.natAbs := by
    rw [hq, Int.natAbs_mul]
    have : 1 * q.natAbs ≤ g.natAbs * q.natAbs := Nat.mul_le_mul_right _ (by omega)
    omega
  unfold Small G9 at hx
  exact w64_id (by omega) (by omega)
theorem primS_eq (v : List Int) (hl : SM v.length) (h : SmallL G9 v) : m_spec_PrimitiveVector v = some (prim v) := by
  unfold m_spec_PrimitiveVector
  have hL1 : loopM (m_spec_PrimitiveVector_L1 v) BIG (0, 0) = some (.inl (gl v)) := by
    refine loopM_run (fun k => (gl (v.take k), (k : Int))) v.length (by omega) (by simp [gl]) (fun k hk => ?_) ?_
    · have hs := h v[k] (List.getElem_mem hk)
      have hs' := hs
      unfold Small G9 at hs'
      have e1 : gl (v.take (k + 1)) = (Int.gcd (gl (v.take k)) v[k] : Int) := fold_take _ _ hk
      unfold m_spec_PrimitiveVector_L1
      simp only [idx_at hk, l1In_eq, gcdS_eq (gl_take_small h k) hs, Option.bind_some, w64_succ (show k ≤ 1099511627776 by omega)]
      rw [decide_eq_true (show (k : Int) < (v.length : Int) by omega), decide_eq_true (show -9000000000000000000 ≤ v[k] by omega), decide_eq_true (show v[k] ≤ 9000000000000000000 by omega), e1]
      rfl
    · unfold m_spec_PrimitiveVector_L1
      simp only [List.take_length]
      rw [decide_eq_false (by omega), cond_false]
  rw [hL1, Option.bind_some]
  show (bif gl v == 0 then _ else _) = _
  have hl0 : lim (([] : List Int).length + v.length) = some () := lim_ok (by simp; exact hl)
  by_cases hz : gl v = 0
  · rw [hz]
    show (lim (([] : List Int).length + v.length)).bind _ = some (prim v)
    rw [hl0, prim, if_pos hz]
    rfl
  · rw [show (gl v == 0) = false by simp [hz], cond_false]
    have hL2 : loopM (m_spec_PrimitiveVector_L2 v (gl v)) BIG (0, 0) = some (gl v, fnz v) := by
      refine loopM_run (fun k => (fnz (v.take k), (k : Int))) v.length (by omega) (by simp [fnz]) (fun k hk => ?_) ?_
      · have e2 : fnz (v.take (k + 1)) = if fnz (v.take k) = 0 then v[k] else fnz (v.take k) := fold_take _ _ hk
        unfold m_spec_PrimitiveVector_L2
        simp only [idx_at hk, Option.bind_some, w64_succ (show k ≤ 1099511627776 by omega)]
        rw [decide_eq_true (by omega), cond_true, e2]
        by_cases hz : fnz (v.take k) = 0
        · rw [hz, if_pos rfl]; rfl
        · rw [if_neg hz, show (fnz (v.take k) == 0) = false by simp [hz]]; rfl
      · unfold m_spec_PrimitiveVector_L2
        simp only [List.take_length]
        rw [decide_eq_false (by omega), cond_false]
    rw [hL2, Option.bind_some]
    have hj : (bif decide (fnz v < 0) then some (w64 (-gl v)) else some (gl v)) = some (sg v) := by
      have := sg_small h
      unfold Small G9 sg at this
      unfold sg
      by_cases hn : fnz v < 0
      · rw [decide_eq_true hn, cond_true, if_pos hn, w64_id (by rw [if_pos hn] at this; omega) (by rw [if_pos hn] at this; omega)]
      · rw [decide_eq_false hn, cond_false, if_neg hn]
    show ((bif decide (fnz v < 0) then some (w64 (-gl v)) else some (gl v)) : Option Int).bind _ = _
    rw [hj, Option.bind_some]
    have hsg : sg v ≠ 0 := fun e => hz (sg_zero.1 e)
    have hL3 : loopM (m_spec_PrimitiveVector_L3 v (sg v)) BIG (0, []) = some (prim v) := by
      have e0 : prim v = v.map fun x => Int.tdiv x (sg v) := by rw [prim, if_neg hz]
      rw [e0]
      refine loopM_run (fun k => ((k : Int), (v.take k).map (fun x => Int.tdiv x (sg v)))) v.length (by omega) (by simp) (fun k hk => ?_) ?_
      · have htl : (v.take k).length = k := by rw [List.length_take]; omega
        have hlm : lim (((v.take k).map (fun x => Int.tdiv x (sg v))).length + ([Int.tdiv v[k] (sg v)] : List Int).length) = some () := lim_ok (by simp; omega)
        unfold m_spec_PrimitiveVector_L3
        simp only [idx_at hk, nz_ok hsg, Option.bind_some, w64_succ (show k ≤ 1099511627776 by omega), tdiv_small (h v[k] (List.getElem_mem hk)) hsg (sg_dvd (List.getElem_mem hk)), hlm]
        rw [decide_eq_true (by omega), cond_true, take_get hk, List.map_append]
        rfl
      · unfold m_spec_PrimitiveVector_L3
        simp only [List.take_length]
        rw [decide_eq_false (by omega), cond_false]
    rw [hL3]
    rfl
end Go.Proofs.Ytghofbijdnenoaa
end
section
set_option linter.unusedVariables false
set_option linter.unusedSimpArgs false
set_option linter.unnecessarySimpa false
open Go Go.Fw Go.Mx
namespace Go.Proofs.Ytghofbijdnenoaa
def mix {α : Type} (u v : List α) (i : Nat) : List α := u.take i ++ v.drop i
section
variable {α : Type} {u v : List α} {i j : Nat}
theorem mix_len (h : u.length = v.length) (hi : i ≤ v.length) : (mix u v i).length = v.length := by
  unfold mix
  rw [List.length_append, List.length_take, List.length_drop]
  omega
theorem mix_zero : mix u v 0 = v := by simp [mix]
theorem mix_full (h : u.length = v.length) : mix u v v.length = u := by
  unfold mix
  rw [List.drop_length, List.append_nil, ← h, List.take_length]
theorem mix_get (d : α) (h : u.length = v.length) (hi : i ≤ v.length) : (mix u v i).getD j d = if j < i then u.getD j d else v.getD j d := by
  unfold mix
  simp only [List.getD_eq_getElem?_getD]
  have hl : (u.take i).length = i := by rw [List.length_take]; omega
  by_cases hj : j < i
  · rw [if_pos hj, List.getElem?_append_left (by omega), List.getElem?_take, if_pos hj]
  · rw [if_neg hj, List.getElem?_append_right (by omega), hl, List.getElem?_drop, show i + (j - i) = j by omega]
theorem mix_set {d x : α} (h : u.length = v.length) (hi : i < v.length) (hx : u.getD i d = x) : (mix u v i).set i x = mix u v (i + 1) := by
  subst hx
  unfold mix
  have hl : (u.take i).length = i := by rw [List.length_take]; omega
  rw [List.set_append_right _ _ (by omega), hl, Nat.sub_self, List.drop_eq_getElem_cons hi, List.set_cons_zero, take_get (by omega), List.append_assoc]
  congr 1
  simp [List.getD_eq_getElem?_getD, List.getElem?_eq_getElem (show i < u.length by omega)]
theorem mix_skip {d : α} (h : u.length = v.length) (hi : i < v.length) (hx : u.getD i d = v.getD i d) : mix u v i = mix u v (i + 1) := by
  rw [← mix_set (d := d) h hi rfl, hx]
  refine (List.ext_getElem? fun j => ?_).symm
  rw [List.getElem?_set]
  by_cases hj : i = j
  · subst hj
    have hl := mix_len h (i := i) (by omega)
    rw [if_pos rfl, if_pos (by omega)]
    have := mix_get (j := i) d h (i := i) (by omega)
    rw [if_neg (by omega)] at this
    rw [← this]
    simp [List.getD_eq_getElem?_getD, List.getElem?_eq_getElem (show i < (mix u v i).length by omega)]
  · rw [if_neg hj]
end
theorem idxD {α : Type} {l : List α} {k : Nat} (d : α) (h : k < l.length) : idx l (k : Int) = some (l.getD k d) := by
  rw [idx_at h]
  simp [List.getD_eq_getElem?_getD, List.getElem?_eq_getElem h]
theorem setD_same {α : Type} {l : List α} {k : Nat} (d : α) (h : k < l.length) : l.set k (l.getD k d) = l := by
  refine List.ext_getElem? fun j => ?_
  rw [List.getElem?_set]
  by_cases hj : k = j
  · subst hj
    rw [if_pos rfl, if_pos h]
    simp [List.getD_eq_getElem?_getD, List.getElem?_eq_getElem h]
  · rw [if_neg hj]
def BB : Nat := 2000000000
theorem mul_b {x y : Int} (hx : x.natAbs ≤ BB) (hy : y.natAbs ≤ BB) : (x * y).natAbs ≤ 4000000000000000000 := by
  rw [Int.natAbs_mul]
  have := Nat.mul_le_mul hx hy
  unfold BB at this
  omega
theorem w64_mul {x y : Int} (hx : x.natAbs ≤ BB) (hy : y.natAbs ≤ BB) : w64 (x * y) = x * y := by
  have := mul_b hx hy
  exact w64_id (by omega) (by omega)
theorem w64_cross {a b c d : Int} (ha : a.natAbs ≤ BB) (hb : b.natAbs ≤ BB) (hc : c.natAbs ≤ BB) (hd : d.natAbs ≤ BB) : w64 (w64 (a * b) - w64 (c * d)) = a * b - c * d ∧ (a * b - c * d).natAbs ≤ 8000000000000000000 := by
  rw [w64_mul ha hb, w64_mul hc hd]
  have := mul_b ha hb
  have := mul_b hc hd
  exact ⟨w64_id (by omega) (by omega), by omega⟩
theorem w64_tdiv {x y : Int} (hx : x.natAbs ≤ 8000000000000000000) : w64 (Int.tdiv x y) = Int.tdiv x y := by
  have : (Int.tdiv x y).natAbs ≤ x.natAbs := by
    rw [Int.natAbs_tdiv]
    exact Nat.div_le_self _ _
  exact w64_id (by omega) (by omega)
structure BndS (s : BS) : Prop where
  ent : ∀ i k : Nat, (at2 s.a i k).natAbs ≤ BB
  last : s.last.natAbs ≤ BB
def Tame (n : Nat) (M : Mat) : Prop := ∀ c, c ≤ n → BndS (bred n M c)
theorem elimI_eq {n : Nat} {a : Mat} {i r : Nat} {d f last c len : Int} {pivs : List Int} (hn : n ≤ 1000000) (hi : i < a.length) (hr : r < a.length) (hir : i ≠ r) (hri : (a.getD i []).length = n) (hrr : (a.getD r []).length = n)
    (hd : d.natAbs ≤ BB) (hf : f.natAbs ≤ BB) (hl : last ≠ 0) (hb : ∀ k : Nat, (at2 a i k).natAbs ≤ BB) (hb2 : ∀ k : Nat, (at2 a r k).natAbs ≤ BB) :
    loopM (m_impl_reduced_L14 (n : Int) ((i : Int), last, c, (r : Int), d, len, pivs, a) f) BIG (0, a) = some (last, c, (r : Int), d, len, (i : Int), a.set i (elim n d f last (a.getD i []) (a.getD r [])), pivs) := by
  have hel : (elim n d f last (a.getD i []) (a.getD r [])).length = (a.getD i []).length := by rw [elim, vec_len, hri]
  refine loopM_run (fun k => ((k : Int), a.set i (mix (elim n d f last (a.getD i []) (a.getD r [])) (a.getD i []) k))) n (by omega) (by simp only [mix_zero]; rw [setD_same [] hi]; rfl) (fun k hk => ?_) ?_
  · have hl1 : (a.set i (mix (elim n d f last (a.getD i []) (a.getD r [])) (a.getD i []) k)).length = a.length := by simp
    have e1 := idxD (l := a.set i (mix (elim n d f last (a.getD i []) (a.getD r [])) (a.getD i []) k)) [] (show i < _ by rw [hl1]; exact hi)
    have e2 := idxD (l := a.set i (mix (elim n d f last (a.getD i []) (a.getD r [])) (a.getD i []) k)) [] (show r < _ by rw [hl1]; exact hr)
    rw [getD_set hi, if_pos rfl] at e1
    rw [getD_set hi, if_neg hir] at e2
    have hml := mix_len hel (i := k) (by omega)
    have e3 := idxD (l := mix (elim n d f last (a.getD i []) (a.getD r [])) (a.getD i []) k) 0 (show k < _ by omega)
    rw [mix_get 0 hel (by omega), if_neg (by omega)] at e3
    have e4 := idxD (l := a.getD r []) 0 (show k < _ by omega)
    obtain ⟨w1, w2⟩ := w64_cross hd (hb k) hf (hb2 k)
    unfold at2 at w1 w2
    unfold m_impl_reduced_L14
    simp only [e1, e2, e3, e4, nz_ok hl, Option.bind_some, Int.toNat_natCast, w64_succ (show k ≤ 1099511627776 by omega), w1, w64_tdiv w2]
    rw [decide_eq_true (by omega), cond_true, List.set_set]
    congr 3
    rw [mix_set (d := 0) hel (by omega)]
    rw [elim, vec_get _ hk]
  · unfold m_impl_reduced_L14
    have := mix_full hel
    rw [hri] at this
    simp only [this]
    rw [decide_eq_false (by omega), cond_false]
theorem stepI_eq {n : Nat} {a : Mat} {r c : Nat} {d last : Int} {pivs : List Int} (hn : n ≤ 1000000) (ha : a.length ≤ 1000000) (hr : r < a.length) (hcn : c < n) (hrows : RowsN n a)
    (hd : d.natAbs ≤ BB) (hl : last ≠ 0) (hb : ∀ i k : Nat, (at2 a i k).natAbs ≤ BB) :
    loopM (m_impl_reduced_L13 (n : Int)) BIG (0, last, (c : Int), (r : Int), d, (a.length : Int), pivs, a) =
      some ((c : Int), d, (a.mapIdx fun i row => if i = r then row else elim n d (row.getD c 0) last row (a.getD r [])), pivs) := by
  generalize hu : (a.mapIdx fun i row => if i = r then row else elim n d (row.getD c 0) last row (a.getD r [])) = u
  have hul : u.length = a.length := by rw [← hu, List.length_mapIdx]
  have hug : ∀ i, i < a.length → u.getD i [] = if i = r then a.getD i [] else elim n d ((a.getD i []).getD c 0) last (a.getD i []) (a.getD r []) := fun i hi => by rw [← hu]; exact mapIdx_getD hi
  refine loopM_run (fun i => ((i : Int), last, (c : Int), (r : Int), d, (a.length : Int), pivs, mix u a i)) a.length (by omega) (by simp [mix_zero]) (fun i hi => ?_) ?_
  · have hml := mix_len hul (i := i) (by omega)
    unfold m_impl_reduced_L13
    by_cases hir : i = r
    · subst hir
      simp only [beq_self_eq_true, cond_true, w64_succ (show i ≤ 1099511627776 by omega)]
      rw [decide_eq_true (by omega), cond_true, mix_skip (d := []) hul hi (by rw [hug i hi, if_pos rfl])]
    · have e1 := idxD (l := mix u a i) [] (show i < _ by omega)
      rw [mix_get [] hul (by omega), if_neg (by omega)] at e1
      have e2 := idxD (l := a.getD i []) 0 (show c < _ by rw [hrows i hi]; exact hcn)
      have hgr : (mix u a i).getD r [] = a.getD r [] := by
        rw [mix_get [] hul (by omega)]
        split
        · rw [hug r hr, if_pos rfl]
        · rfl
      have hgi : (mix u a i).getD i [] = a.getD i [] := by rw [mix_get [] hul (by omega), if_neg (by omega)]
      have e3 := elimI_eq (a := mix u a i) (d := d) (f := (a.getD i []).getD c 0) (last := last) (c := (c : Int)) (len := (a.length : Int)) (pivs := pivs) hn (show i < _ by omega) (show r < _ by omega) hir (by rw [hgi]; exact hrows i hi) (by rw [hgr]; exact hrows r hr) hd (hb i c) hl
        (fun k => by unfold at2; rw [hgi]; exact hb i k) (fun k => by unfold at2; rw [hgr]; exact hb r k)
      rw [hgi, hgr] at e3
      have hne : ((i : Int) == (r : Int)) = false := by simp; omega
      simp only [hne, cond_false, e1, e2, e3, Option.bind_some, w64_succ (show i ≤ 1099511627776 by omega)]
      rw [decide_eq_true (by omega), cond_true, mix_set (d := []) hul hi (by rw [hug i hi, if_neg hir])]
  · unfold m_impl_reduced_L13
    simp only [mix_full hul]
    rw [decide_eq_false (by omega), cond_false]
def pivOr (a : Mat) (r c : Nat) : Nat := (pivAt a r c).getD a.length
theorem pivOr_le {a : Mat} {r c : Nat} (hr : r ≤ a.length) : r ≤ pivOr a r c ∧ pivOr a r c ≤ a.length ∧ (∀ j, r ≤ j → j < pivOr a r c → at2 a j c = 0) ∧ (pivOr a r c < a.length → at2 a (pivOr a r c) c ≠ 0) := by
  unfold pivOr
  cases h : pivAt a r c with
  | none => exact ⟨hr, Nat.le_refl _, fun j h1 h2 => pivAt_none h j h1 h2, fun h => absurd h (Nat.lt_irrefl _)⟩
  | some p =>
    obtain ⟨p1, p2, p3, p4⟩ := pivAt_some h
    exact ⟨p1, by simp; omega, p4, fun _ => p3⟩
theorem findI_eq {n : Nat} {a : Mat} {c : Nat} {last : Int} {pivs : List Int} (ha : a.length ≤ 1000000) (hr : pivs.length < a.length) (hcn : c < n) (hrows : RowsN n a) :
    loopM (m_impl_reduced_L10 ((c : Int), a, last, pivs)) BIG (pivs.length : Int) = some (last, (c : Int), (pivs.length : Int), (pivOr a pivs.length c : Int), a, pivs) := by
  obtain ⟨h1, h2, h3, h4⟩ := pivOr_le (a := a) (c := c) (show pivs.length ≤ a.length by omega)
  refine loopM_run (fun k => ((pivs.length + k : Nat) : Int)) (pivOr a pivs.length c - pivs.length) (by omega) (by simp) (fun k hk => ?_) ?_
  · have hlt : pivs.length + k < a.length := by omega
    have e1 := idxD (l := a) [] hlt
    have e2 := idxD (l := a.getD (pivs.length + k) []) 0 (show c < _ by rw [hrows _ hlt]; exact hcn)
    have e3 := h3 (pivs.length + k) (by omega) (by omega)
    unfold at2 at e3
    unfold m_impl_reduced_L10
    simp only [e1, e2, e3, Option.bind_some]
    rw [decide_eq_true (by omega), cond_true]
    simp only [beq_self_eq_true, Option.bind_some, cond_true]
    rw [w64_succ (by omega)]
    rfl
  · have e0 : ((pivs.length + (pivOr a pivs.length c - pivs.length) : Nat) : Int) = (pivOr a pivs.length c : Int) := by omega
    rw [e0]
    unfold m_impl_reduced_L10
    by_cases hlt : pivOr a pivs.length c < a.length
    · have e1 := idxD (l := a) [] hlt
      have e2 := idxD (l := a.getD (pivOr a pivs.length c) []) 0 (show c < _ by rw [hrows _ hlt]; exact hcn)
      have e3 := h4 hlt
      unfold at2 at e3
      simp only [e1, e2, Option.bind_some]
      rw [decide_eq_true (by omega), cond_true]
      rw [show (((a.getD (pivOr a pivs.length c) []).getD c 0) == 0) = false by simpa using e3]
      rfl
    · simp only []
      rw [decide_eq_false (by omega)]
      rfl
def castL (l : List Nat) : List Int := l.map fun (c : Nat) => (c : Int)
theorem castL_len (l : List Nat) : (castL l).length = l.length := by simp [castL]
theorem castL_snoc (l : List Nat) (c : Nat) : castL (l ++ [c]) = castL l ++ [(c : Int)] := by simp [castL]
theorem inv_rowsN {n : Nat} {M M' : Mat} {c : Nat} {s : BS} (h : BInv n M c s M') : RowsN n s.a := fun i hi => by
  rw [h.len] at hi
  by_cases hl : s.piv.length ≤ i
  · rw [h.lo i hl hi, arow, vec_len]
  · exact (h.hi i (by omega)).len
theorem swap_eq {a : Mat} {r p : Nat} (hr : r < a.length) (hp : p < a.length) : (a.set r (a.getD p [])).set p (a.getD r []) = swapR a r p := rfl
theorem at2_swap {n : Nat} {a : Mat} {r p : Nat} (hr : r < a.length) (hp : p < a.length) (hb : ∀ i k : Nat, (at2 a i k).natAbs ≤ BB) (i k : Nat) : (at2 (swapR a r p) i k).natAbs ≤ BB := by
  unfold at2
  rw [swapR_get hr hp]
  split
  · exact hb r k
  · split
    · exact hb p k
    · exact hb i k
theorem bred_stop {n c : Nat} {M : Mat} (h : ¬ (bred n M c).piv.length < (bred n M c).a.length) : ∀ j, bred n M (c + j) = bred n M c
  | 0 => rfl
  | j + 1 => by
    show bstep n (c + j) (bred n M (c + j)) = _
    rw [bred_stop h j]
    unfold bstep
    rw [if_neg h]
theorem redI_eq {n : Nat} {M : Mat} (hn : n ≤ 1000000) (hM : M.length ≤ 1000000) (hrows : RowsN n M) (hT : Tame n M) :
    loopM (m_impl_reduced_L9 (n : Int)) BIG (0, M, 1, []) = some ((bred n M n).last, (bred n M n).a, castL (bred n M n).piv) := by
  have key := loop_inv (b := m_impl_reduced_L9 (n : Int)) (s := (0, M, 1, [])) (fun k s => s = ((k : Int), (bred n M k).a, (bred n M k).last, castL (bred n M k).piv)) (fun r => r = ((bred n M n).last, (bred n M n).a, castL (bred n M n).piv)) n (by omega) rfl
    (fun c s hc hs => by
      subst hs
      obtain ⟨M', hI⟩ := bred_inv hrows c (by omega)
      have hB := hT c (by omega)
      have hrow := inv_rowsN hI
      have hal : (bred n M c).a.length = M.length := hI.len
      have hnext : bred n M (c + 1) = bstep n c (bred n M c) := rfl
      have hnz := hI.nz
      generalize hsd : bred n M c = s at *
      by_cases hlt : s.piv.length < s.a.length
      · left
        have hf := findI_eq (n := n) (a := s.a) (c := c) (last := s.last) (pivs := castL s.piv) (by omega) (by rw [castL_len]; exact hlt) hc hrow
        rw [castL_len] at hf
        unfold m_impl_reduced_L9
        simp only [castL_len]
        rw [decide_eq_true (show (c : Int) < (n : Int) by omega), cond_true, decide_eq_true (show (s.piv.length : Int) < (s.a.length : Int) by omega), Option.bind_some, cond_true, hf, Option.bind_some]
        obtain ⟨q1, q2, q3, q4⟩ := pivOr_le (a := s.a) (c := c) (show s.piv.length ≤ s.a.length by omega)
        cases hp : pivAt s.a s.piv.length c with
        | none =>
          have hpo : pivOr s.a s.piv.length c = s.a.length := by unfold pivOr; rw [hp]; rfl
          have hst : bred n M (c + 1) = s := by
            rw [hnext]
            unfold bstep
            rw [if_pos hlt, hp]
          refine ⟨_, ?_, rfl⟩
          rw [hst, hpo]
          simp only [beq_self_eq_true, cond_true, w64_succ (show c ≤ 1099511627776 by omega)]
        | some p =>
          have hpo : pivOr s.a s.piv.length c = p := by unfold pivOr; rw [hp]; rfl
          obtain ⟨p1, p2, p3, p4⟩ := pivAt_some hp
          rw [hpo]
          have hne : ((p : Int) == (s.a.length : Int)) = false := by simp; omega
          have e1 := idxD (l := s.a) [] p2
          have e2 := idxD (l := s.a) [] hlt
          have hsl : (swapR s.a s.piv.length p).length = s.a.length := swapR_len ..
          have e3 := idxD (l := swapR s.a s.piv.length p) [] (show s.piv.length < _ by rw [hsl]; exact hlt)
          have hrow2 : RowsN n (swapR s.a s.piv.length p) := fun i hi => by
            rw [hsl] at hi
            rw [swapR_get hlt p2]
            split
            · exact hrow _ hlt
            · split
              · exact hrow _ p2
              · exact hrow i hi
          have e4 := idxD (l := (swapR s.a s.piv.length p).getD s.piv.length []) 0 (show c < _ by rw [hrow2 _ (by rw [hsl]; exact hlt)]; exact hc)
          have e5 := stepI_eq (a := swapR s.a s.piv.length p) (r := s.piv.length) (c := c) (d := at2 (swapR s.a s.piv.length p) s.piv.length c) (last := s.last) (pivs := castL s.piv) hn (by rw [hsl]; omega) (by rw [hsl]; exact hlt) hc hrow2
            (at2_swap (n := n) hlt p2 hB.ent _ _) hnz (at2_swap (n := n) hlt p2 hB.ent)
          rw [hsl] at e5
          have hlim : lim ((castL s.piv).length + ([(c : Int)] : List Int).length) = some () := lim_ok (by rw [castL_len]; simp; omega)
          have hst : bred n M (c + 1) = ⟨(swapR s.a s.piv.length p).mapIdx fun i row => if i = s.piv.length then row else elim n (at2 (swapR s.a s.piv.length p) s.piv.length c) (row.getD c 0) s.last row ((swapR s.a s.piv.length p).getD s.piv.length []), s.piv ++ [c], at2 (swapR s.a s.piv.length p) s.piv.length c⟩ := by
            rw [hnext]
            unfold bstep
            rw [if_pos hlt, hp]
          refine ⟨_, ?_, rfl⟩
          rw [hst]
          simp only [hne, cond_false, e1, e2, Option.bind_some, Int.toNat_natCast, swap_eq hlt p2, e3, e4]
          have e5' : loopM (m_impl_reduced_L13 (n : Int)) BIG (0, s.last, (c : Int), (s.piv.length : Int), ((swapR s.a s.piv.length p).getD s.piv.length []).getD c 0, (s.a.length : Int), castL s.piv, swapR s.a s.piv.length p) = _ := e5
          simp only [e5', Option.bind_some, hlim, w64_succ (show c ≤ 1099511627776 by omega), castL_snoc]
      · right
        refine ⟨_, ?_, rfl⟩
        unfold m_impl_reduced_L9
        simp only [castL_len]
        rw [decide_eq_true (show (c : Int) < (n : Int) by omega), cond_true, decide_eq_false (show ¬ (s.piv.length : Int) < (s.a.length : Int) by omega), Option.bind_some, cond_false]
        have := bred_stop (n := n) (M := M) (c := c) (by rw [hsd]; exact hlt) (n - c)
        rw [show c + (n - c) = n by omega, hsd] at this
        rw [this]) (fun s hs => by
      subst hs
      refine ⟨_, ?_, rfl⟩
      unfold m_impl_reduced_L9
      rw [decide_eq_false (by omega)]
      rfl)
  obtain ⟨r, h1, h2⟩ := key
  rw [h1, h2]
theorem small_of {v : List Int} (h : ∀ k : Nat, (v.getD k 0).natAbs ≤ 8000000000000000000) : SmallL G9 v := fun x hx => by
  obtain ⟨k, hk⟩ := List.mem_iff_getElem?.1 hx
  have := h k
  rw [List.getD_eq_getElem?_getD, hk, Option.getD_some] at this
  unfold Small G9
  omega
theorem copyL_eq {n : Nat} {M : Mat} (hn : n ≤ 1000000) (hM : M.length ≤ 1000000) (hrows : RowsN n M) : m_impl_copyLists M = some M := by
  unfold m_impl_copyLists
  have e : loopM (m_impl_copyLists_L1 M) BIG (0, []) = some M := by
    refine loopM_run (fun k => ((k : Int), M.take k)) M.length (by omega) (by simp) (fun k hk => ?_) ?_
    · have e1 := idxD (l := M) [] hk
      have hl : lim ((M.take k).length + 1) = some () := lim_ok (by rw [List.length_take]; omega)
      have hr : m_impl_copyInts (M.getD k []) = some (M.getD k []) := copyInts_eq _ (by rw [hrows k hk]; show n ≤ _; omega)
      unfold m_impl_copyLists_L1
      simp only [e1, hr, hl, Option.bind_some, w64_succ (show k ≤ 1099511627776 by omega)]
      rw [decide_eq_true (by omega), cond_true, take_get hk]
      simp [List.getD_eq_getElem?_getD, List.getElem?_eq_getElem hk]
    · unfold m_impl_copyLists_L1
      rw [decide_eq_false (by omega), cond_false, List.take_length]
  rw [e]
  rfl
theorem reducedI_eq {n : Nat} {M : Mat} (hn : n ≤ 1000000) (hM : M.length ≤ 1000000) (hrows : RowsN n M) (hT : Tame n M) : m_impl_reduced M (n : Int) = some ((bred n M n).a, castL (bred n M n).piv, (bred n M n).last) := by
  unfold m_impl_reduced
  rw [copyL_eq hn hM hrows, Option.bind_some, redI_eq hn hM hrows hT]
  rfl
end Go.Proofs.Ytghofbijdnenoaa
end
section
set_option linter.unusedVariables false
set_option linter.unusedSimpArgs false
set_option linter.unnecessarySimpa false
open Go Go.Fw Go.Mx
namespace Go.Proofs.Ytghofbijdnenoaa
theorem gcd_ne {a b : Int} (h : b ≠ 0) : (Int.gcd a b : Int) ≠ 0 := by
  have : Int.gcd a b ≠ 0 := fun e => h (Int.gcd_eq_zero_iff.1 e).2
  omega
theorem tdiv_le (x y : Int) : (Int.tdiv x y).natAbs ≤ x.natAbs := by
  rw [Int.natAbs_tdiv]
  exact Nat.div_le_self _ _
def woV (n : Nat) (a row : List Int) (j : Nat) : List Int := vec n fun k => a.getD k 0 * Int.tdiv (row.getD j 0) (Int.gcd (a.getD j 0) (row.getD j 0)) - row.getD k 0 * Int.tdiv (a.getD j 0) (Int.gcd (a.getD j 0) (row.getD j 0))
theorem g9_of {x : Int} (h : x.natAbs ≤ BB) : Small G9 x := by unfold BB at h; unfold Small G9; omega
theorem withoutV_eq {n j : Nat} {a row : List Int} (hn : n ≤ 1000000) (hj : j < n) (ha : a.length = n) (hr : row.length = n) (hba : ∀ k : Nat, (a.getD k 0).natAbs ≤ BB) (hbr : ∀ k : Nat, (row.getD k 0).natAbs ≤ BB) (hp : row.getD j 0 ≠ 0) :
    m_spec_l9Without a row (j : Int) = some (prim (woV n a row j)) := by
  have hg := gcd_ne (a := a.getD j 0) hp
  have hX : w64 (Int.tdiv (row.getD j 0) (Int.gcd (a.getD j 0) (row.getD j 0))) = Int.tdiv (row.getD j 0) (Int.gcd (a.getD j 0) (row.getD j 0)) := w64_tdiv (by have := hbr j; unfold BB at this; omega)
  have hY : w64 (Int.tdiv (a.getD j 0) (Int.gcd (a.getD j 0) (row.getD j 0))) = Int.tdiv (a.getD j 0) (Int.gcd (a.getD j 0) (row.getD j 0)) := w64_tdiv (by have := hba j; unfold BB at this; omega)
  have hcr : ∀ k : Nat, w64 (w64 (a.getD k 0 * Int.tdiv (row.getD j 0) (Int.gcd (a.getD j 0) (row.getD j 0))) - w64 (row.getD k 0 * Int.tdiv (a.getD j 0) (Int.gcd (a.getD j 0) (row.getD j 0)))) = a.getD k 0 * Int.tdiv (row.getD j 0) (Int.gcd (a.getD j 0) (row.getD j 0)) - row.getD k 0 * Int.tdiv (a.getD j 0) (Int.gcd (a.getD j 0) (row.getD j 0)) ∧ _ := fun k =>
    w64_cross (hba k) (Nat.le_trans (tdiv_le _ _) (hbr j)) (hbr k) (Nat.le_trans (tdiv_le _ _) (hba j))
  have e1 := idxD (l := a) 0 (show j < _ by omega)
  have e2 := idxD (l := row) 0 (show j < _ by omega)
  unfold m_spec_l9Without
  simp only [e1, e2, gcdS_eq (g9_of (hba j)) (g9_of (hbr j)), nz_ok hg, Option.bind_some]
  have hL : loopM (m_spec_l9Without_L1 a row (Int.gcd (a.getD j 0) (row.getD j 0) : Int) (row.getD j 0) (a.getD j 0)) BIG (0, []) = some (woV n a row j) := by
    refine loopM_run (fun k => ((k : Int), (woV n a row j).take k)) n (by omega) (by simp) (fun k hk => ?_) ?_
    · have hvl : (woV n a row j).length = n := vec_len ..
      have e3 := idxD (l := a) 0 (show k < _ by omega)
      have e4 := idxD (l := row) 0 (show k < _ by omega)
      have hl : ∀ x : Int, lim (((woV n a row j).take k).length + ([x] : List Int).length) = some () := fun x => lim_ok (by rw [List.length_take]; simp; omega)
      unfold m_spec_l9Without_L1
      simp only [e3, e4, hX, hY, (hcr k).1, hl, Option.bind_some, w64_succ (show k ≤ 1099511627776 by omega)]
      rw [decide_eq_true (by omega), cond_true, take_get (show k < _ by omega)]
      have : (woV n a row j)[k]'(by omega) = a.getD k 0 * Int.tdiv (row.getD j 0) (Int.gcd (a.getD j 0) (row.getD j 0)) - row.getD k 0 * Int.tdiv (a.getD j 0) (Int.gcd (a.getD j 0) (row.getD j 0)) := by simp [woV, vec]
      rw [this]
    · unfold m_spec_l9Without_L1
      rw [decide_eq_false (by omega), cond_false, List.take_of_length_le (by rw [woV, vec_len]; exact Nat.le_refl _)]
  rw [hL, Option.bind_some]
  unfold m_spec_l9Clean
  rw [primS_eq _ (by rw [woV, vec_len]; show n ≤ _; omega) (small_of fun k => by
    by_cases hk : k < n
    · rw [woV, vec_get _ hk]
      exact (hcr k).2
    · rw [getD_out (by rw [woV, vec_len]; omega)]
      decide)]
  rfl
theorem without_par {n c : Nat} {X Y : List Int} {last : Int} (hl : last ≠ 0) (hX : X.length = n) (hY : Y.length = n) (hYc : Y.getD c 0 ≠ 0) (hc : c < n)
    (he : ∀ k, k < n → last * (elim n (Y.getD c 0) (X.getD c 0) last X Y).getD k 0 = Y.getD c 0 * X.getD k 0 - X.getD c 0 * Y.getD k 0) :
    prim (woV n (prim X) (prim Y) c) = prim (elim n (Y.getD c 0) (X.getD c 0) last X Y) := by
  obtain ⟨s, hs, h1⟩ := prim_fac X
  obtain ⟨t, ht, h2⟩ := prim_fac Y
  have hp : (prim Y).getD c 0 ≠ 0 := fun e => hYc ((prim_zero_iff Y c).1 e)
  have hg := gcd_ne (a := (prim X).getD c 0) hp
  refine Par.prim ⟨by rw [woV, vec_len, elim, vec_len], s * t * (Int.gcd ((prim X).getD c 0) ((prim Y).getD c 0) : Int), last, fun e => ?_, hl, fun k => ?_⟩
  · rcases Int.mul_eq_zero.1 e with e | e
    · rcases Int.mul_eq_zero.1 e with e | e
      · exact hs e
      · exact ht e
    · exact hg e
  · by_cases hk : k < n
    · rw [he k hk, woV, vec_get _ hk]
      have d1 : (Int.gcd ((prim X).getD c 0) ((prim Y).getD c 0) : Int) * Int.tdiv ((prim Y).getD c 0) (Int.gcd ((prim X).getD c 0) ((prim Y).getD c 0)) = (prim Y).getD c 0 := Int.mul_tdiv_cancel' (Int.gcd_dvd_right ..)
      have d2 : (Int.gcd ((prim X).getD c 0) ((prim Y).getD c 0) : Int) * Int.tdiv ((prim X).getD c 0) (Int.gcd ((prim X).getD c 0) ((prim Y).getD c 0)) = (prim X).getD c 0 := Int.mul_tdiv_cancel' (Int.gcd_dvd_left ..)
      rw [h1 k, h2 k, h1 c, h2 c]
      generalize (Int.gcd ((prim X).getD c 0) ((prim Y).getD c 0) : Int) = g at *
      generalize Int.tdiv ((prim Y).getD c 0) g = q1 at *
      generalize Int.tdiv ((prim X).getD c 0) g = q2 at *
      rw [← d1, ← d2]
      generalize (prim X).getD k 0 = x
      generalize (prim Y).getD k 0 = y
      grind
    · rw [getD_out (v := woV n (prim X) (prim Y) c) (by rw [woV, vec_len]; omega), getD_out (v := elim n (Y.getD c 0) (X.getD c 0) last X Y) (by rw [elim, vec_len]; omega)]
      simp
theorem skip_par {n : Nat} {X Y : List Int} {c : Nat} {last : Int} (hl : last ≠ 0) (hX : X.length = n) (hYc : Y.getD c 0 ≠ 0) (hXc : X.getD c 0 = 0)
    (he : ∀ k, k < n → last * (elim n (Y.getD c 0) (X.getD c 0) last X Y).getD k 0 = Y.getD c 0 * X.getD k 0 - X.getD c 0 * Y.getD k 0) : prim (elim n (Y.getD c 0) (X.getD c 0) last X Y) = prim X :=
  (Par.prim (u := X) ⟨by rw [elim, vec_len, hX], Y.getD c 0, last, hYc, hl, fun k => by
    by_cases hk : k < n
    · rw [he k hk, hXc]; simp
    · rw [getD_out (v := X) (by omega), getD_out (v := elim n (Y.getD c 0) (X.getD c 0) last X Y) (by rw [elim, vec_len]; omega)]; simp⟩).symm
theorem map_getD {a : Mat} {i : Nat} (h : i < a.length) : (a.map prim).getD i [] = prim (a.getD i []) := by
  simp [List.getD_eq_getElem?_getD, List.getElem?_map, List.getElem?_eq_getElem h]
theorem swap_map {a : Mat} {r p : Nat} (hr : r < a.length) (hp : p < a.length) : ((a.map prim).set p ((a.map prim).getD r [])).set r ((a.map prim).getD p []) = (swapR a r p).map prim := by
  rw [map_getD hr, map_getD hp]
  unfold swapR
  rw [List.map_set, List.map_set]
  by_cases h : r = p
  · subst h; simp
  · rw [List.set_comm _ _ (Ne.symm h)]
theorem findS_eq {n : Nat} {a : Mat} {c : Nat} {cols : List Int} (ha : a.length ≤ 1000000) (hr : cols.length ≤ a.length) (hcn : c < n) (hrows : RowsN n a) :
    loopM (m_spec_l9Reduced_L7 ((c : Int), a.map prim, cols)) BIG (cols.length : Int) = some ((c : Int), (pivOr a cols.length c : Int), a.map prim, cols) := by
  obtain ⟨h1, h2, h3, h4⟩ := pivOr_le (a := a) (c := c) hr
  have hml : (a.map prim).length = a.length := List.length_map ..
  refine loopM_run (fun k => ((cols.length + k : Nat) : Int)) (pivOr a cols.length c - cols.length) (by omega) (by simp) (fun k hk => ?_) ?_
  · have hlt : cols.length + k < a.length := by omega
    have e1 := idxD (l := a.map prim) [] (show cols.length + k < _ by omega)
    rw [map_getD hlt] at e1
    have e2 := idxD (l := prim (a.getD (cols.length + k) [])) 0 (show c < _ by rw [prim_len, hrows _ hlt]; exact hcn)
    have e3 := h3 (cols.length + k) (by omega) (by omega)
    unfold at2 at e3
    rw [(prim_zero_iff _ _).2 e3] at e2
    unfold m_spec_l9Reduced_L7
    simp only [e1, e2, Option.bind_some, hml]
    rw [decide_eq_true (by omega), cond_true]
    simp only [beq_self_eq_true, Option.bind_some, cond_true]
    rw [w64_succ (by omega)]
    rfl
  · have e0 : ((cols.length + (pivOr a cols.length c - cols.length) : Nat) : Int) = (pivOr a cols.length c : Int) := by omega
    rw [e0]
    unfold m_spec_l9Reduced_L7
    by_cases hlt : pivOr a cols.length c < a.length
    · have e1 := idxD (l := a.map prim) [] (show pivOr a cols.length c < _ by omega)
      rw [map_getD hlt] at e1
      have e2 := idxD (l := prim (a.getD (pivOr a cols.length c) [])) 0 (show c < _ by rw [prim_len, hrows _ hlt]; exact hcn)
      have e3 := h4 hlt
      unfold at2 at e3
      have e4 : (prim (a.getD (pivOr a cols.length c) [])).getD c 0 ≠ 0 := fun e => e3 ((prim_zero_iff _ _).1 e)
      simp only [e1, e2, Option.bind_some, hml]
      rw [decide_eq_true (by omega), cond_true]
      rw [show ((prim (a.getD (pivOr a cols.length c) [])).getD c 0 == 0) = false by simpa using e4]
      rfl
    · simp only [hml]
      rw [decide_eq_false (by omega)]
      rfl
theorem stepS_eq {n : Nat} {a : Mat} {c : Nat} {last : Int} {cols : List Int} {p0 : Int} {out0 : List (List Int)} (hn : n ≤ 1000000) (ha : a.length ≤ 1000000) (hr : cols.length < a.length) (hcn : c < n) (hrows : RowsN n a) (hl : last ≠ 0)
    (hd : at2 a cols.length c ≠ 0) (hb : ∀ i k : Nat, (at2 a i k).natAbs ≤ BB)
    (he : ∀ i, i < a.length → i ≠ cols.length → ∀ k, k < n → last * (elim n (at2 a cols.length c) ((a.getD i []).getD c 0) last (a.getD i []) (a.getD cols.length [])).getD k 0 = at2 a cols.length c * (a.getD i []).getD k 0 - (a.getD i []).getD c 0 * (a.getD cols.length []).getD k 0) :
    loopM (m_spec_l9Reduced_L8 ((c : Int), p0, out0, cols) (prim (a.getD cols.length []))) BIG (0, a.map prim) =
      some ((c : Int), (a.mapIdx fun i row => if i = cols.length then row else elim n (at2 a cols.length c) (row.getD c 0) last row (a.getD cols.length [])).map prim, cols) := by
  generalize hu : (a.mapIdx fun i row => if i = cols.length then row else elim n (at2 a cols.length c) (row.getD c 0) last row (a.getD cols.length [])) = u
  have hul : u.length = a.length := by rw [← hu, List.length_mapIdx]
  have hug : ∀ i, i < a.length → u.getD i [] = if i = cols.length then a.getD i [] else elim n (at2 a cols.length c) ((a.getD i []).getD c 0) last (a.getD i []) (a.getD cols.length []) := fun i hi => by rw [← hu]; exact mapIdx_getD hi
  have hml : (a.map prim).length = a.length := List.length_map ..
  have hmu : (u.map prim).length = (a.map prim).length := by rw [hml, List.length_map, hul]
  refine loopM_run (fun i => ((i : Int), mix (u.map prim) (a.map prim) i)) a.length (by omega) (by simp [mix_zero]) (fun i hi => ?_) ?_
  · have hil : i < (a.map prim).length := by omega
    have hmm := mix_len hmu (i := i) (by omega)
    have hgi : (mix (u.map prim) (a.map prim) i).getD i [] = prim (a.getD i []) := by rw [mix_get [] hmu (by omega), if_neg (by omega), map_getD hi]
    have e1 := idxD (l := mix (u.map prim) (a.map prim) i) [] (show i < _ by omega)
    rw [hgi] at e1
    have e2 := idxD (l := prim (a.getD i [])) 0 (show c < _ by rw [prim_len, hrows i hi]; exact hcn)
    have hui : (u.map prim).getD i [] = prim (u.getD i []) := map_getD (by omega)
    unfold m_spec_l9Reduced_L8
    rw [show decide ((((i : Int), mix (u.map prim) (a.map prim) i) : Int × List (List Int)).1 < ((((i : Int), mix (u.map prim) (a.map prim) i) : Int × List (List Int)).2.length : Int)) = true by simp; omega, cond_true]
    by_cases hir : i = cols.length
    · rw [show (((i : Int), mix (u.map prim) (a.map prim) i).1 != (cols.length : Int)) = false by simp [hir]]
      simp only [cond_false, Option.bind_some, w64_succ (show i ≤ 1099511627776 by omega)]
      rw [mix_skip (d := []) hmu hil (by rw [hui, map_getD hi, hug i hi, if_pos hir])]
    · rw [show (((i : Int), mix (u.map prim) (a.map prim) i).1 != (cols.length : Int)) = true by simp; omega]
      simp only [cond_true, e1, e2, Option.bind_some]
      have hex := he i hi hir
      by_cases hz : (prim (a.getD i [])).getD c 0 = 0
      · rw [hz]
        simp only [bne_self_eq_false, cond_false, Option.bind_some, w64_succ (show i ≤ 1099511627776 by omega)]
        rw [mix_skip (d := []) hmu hil (by
          rw [hui, map_getD hi, hug i hi, if_neg hir]
          exact skip_par (Y := a.getD cols.length []) hl (hrows i hi) hd ((prim_zero_iff _ _).1 hz) hex)]
      · have hw := withoutV_eq (a := prim (a.getD i [])) (row := prim (a.getD cols.length [])) hn hcn (by rw [prim_len, hrows i hi]) (by rw [prim_len, hrows _ hr])
          (fun k => by have := prim_le (a.getD i []) (B := (BB : Int)) (fun k => by have := hb i k; unfold at2 at this; omega) k; omega)
          (fun k => by have := prim_le (a.getD cols.length []) (B := (BB : Int)) (fun k => by have := hb cols.length k; unfold at2 at this; omega) k; omega) (fun e => hd ((prim_zero_iff _ _).1 e))
        rw [show ((prim (a.getD i [])).getD c 0 != 0) = true by simpa using hz]
        simp only [cond_true, hw, Option.bind_some, Int.toNat_natCast, w64_succ (show i ≤ 1099511627776 by omega)]
        rw [mix_set (d := []) hmu hil (by
          rw [hui, hug i hi, if_neg hir]
          exact (without_par (Y := a.getD cols.length []) hl (hrows i hi) (hrows _ hr) hd hcn hex).symm)]
  · have := mix_full hmu
    rw [hml] at this
    unfold m_spec_l9Reduced_L8
    simp only [this]
    rw [decide_eq_false (by rw [List.length_map, hul]; omega), cond_false]
theorem redS_eq {n : Nat} {M : Mat} (hn : n ≤ 1000000) (hM : M.length ≤ 1000000) (hM0 : 0 < M.length) (hrows : RowsN n M) (hT : Tame n M) :
    loopM m_spec_l9Reduced_L6 BIG (0, M.map prim, []) = some ((bred n M n).a.map prim, castL (bred n M n).piv) := by
  have key := loop_inv (b := m_spec_l9Reduced_L6) (s := (0, M.map prim, [])) (fun k s => s = ((k : Int), (bred n M k).a.map prim, castL (bred n M k).piv)) (fun r => r = ((bred n M n).a.map prim, castL (bred n M n).piv)) n (by omega) rfl
    (fun c s hc hs => by
      subst hs
      left
      obtain ⟨M', hI⟩ := bred_inv hrows c (by omega)
      have hB := hT c (by omega)
      have hrow := inv_rowsN hI
      have hal : (bred n M c).a.length = M.length := hI.len
      have hnext : bred n M (c + 1) = bstep n c (bred n M c) := rfl
      have hnz := hI.nz
      have hex := bred_exact hrows hc
      have hrl := hI.rl
      generalize hsd : bred n M c = s at *
      have hml : (s.a.map prim).length = s.a.length := List.length_map ..
      have e0 : idx (s.a.map prim) 0 = some (prim (s.a.getD 0 [])) := by
        have := idxD (l := s.a.map prim) (k := 0) [] (by omega)
        rw [map_getD (by omega)] at this
        exact this
      have hf := findS_eq (n := n) (a := s.a) (c := c) (cols := castL s.piv) (by omega) (by rw [castL_len]; omega) hc hrow
      rw [castL_len] at hf
      unfold m_spec_l9Reduced_L6
      simp only [hml, castL_len]
      rw [decide_eq_true (show (0 : Int) < (s.a.length : Int) by omega), cond_true, e0, Option.bind_some, Option.bind_some, decide_eq_true (show (c : Int) < ((prim (s.a.getD 0 [])).length : Int) by rw [prim_len, hrow 0 (by omega)]; omega), cond_true, hf, Option.bind_some]
      by_cases hlt : s.piv.length < s.a.length
      · cases hp : pivAt s.a s.piv.length c with
        | none =>
          have hpo : pivOr s.a s.piv.length c = s.a.length := by unfold pivOr; rw [hp]; rfl
          have hst : bred n M (c + 1) = s := by
            rw [hnext]
            unfold bstep
            rw [if_pos hlt, hp]
          refine ⟨_, ?_, rfl⟩
          rw [hst, hpo]
          simp only [hml, beq_self_eq_true, cond_true, w64_succ (show c ≤ 1099511627776 by omega)]
        | some p =>
          have hpo : pivOr s.a s.piv.length c = p := by unfold pivOr; rw [hp]; rfl
          obtain ⟨p1, p2, p3, p4⟩ := pivAt_some hp
          rw [hpo]
          have hne : ((p : Int) == (s.a.length : Int)) = false := by simp; omega
          have e1 := idxD (l := s.a.map prim) [] (show p < _ by omega)
          have e2 := idxD (l := s.a.map prim) [] (show s.piv.length < _ by omega)
          have e1' : idx (s.a.map prim) (p : Int) = some (prim (s.a.getD p [])) := by rw [e1, map_getD p2]
          have e3 := idxD (l := (s.a.map prim).set p ((s.a.map prim).getD s.piv.length [])) [] (show s.piv.length < _ by rw [List.length_set]; omega)
          have hsw := swap_map hlt p2
          rw [map_getD p2] at hsw
          have hsl : (swapR s.a s.piv.length p).length = s.a.length := swapR_len ..
          have hrow2 : RowsN n (swapR s.a s.piv.length p) := fun i hi => by
            rw [hsl] at hi
            rw [swapR_get hlt p2]
            split
            · exact hrow _ hlt
            · split
              · exact hrow _ p2
              · exact hrow i hi
          have hpr : (swapR s.a s.piv.length p).getD s.piv.length [] = s.a.getD p [] := by
            rw [swapR_get hlt p2]
            by_cases e : s.piv.length = p
            · rw [if_pos e, e]
            · rw [if_neg e, if_pos rfl]
          have e5 := stepS_eq (a := swapR s.a s.piv.length p) (c := c) (last := s.last) (cols := castL s.piv) (p0 := (p : Int)) (out0 := s.a.map prim) hn (by rw [hsl]; omega) (by rw [castL_len, hsl]; exact hlt) hc hrow2 hnz
            (by rw [castL_len]; unfold at2; rw [hpr]; exact p3) (at2_swap (n := n) hlt p2 hB.ent) (by rw [castL_len, hsl]; exact hex p hp hlt)
          rw [castL_len, hpr] at e5
          have hlim : lim (s.piv.length + ([(c : Int)] : List Int).length) = some () := lim_ok (by simp; omega)
          have hst : bred n M (c + 1) = ⟨(swapR s.a s.piv.length p).mapIdx fun i row => if i = s.piv.length then row else elim n (at2 (swapR s.a s.piv.length p) s.piv.length c) (row.getD c 0) s.last row ((swapR s.a s.piv.length p).getD s.piv.length []), s.piv ++ [c], at2 (swapR s.a s.piv.length p) s.piv.length c⟩ := by
            rw [hnext]
            unfold bstep
            rw [if_pos hlt, hp]
          refine ⟨_, ?_, rfl⟩
          rw [hst]
          simp only [hml, castL_len, hne, cond_false, e1', e2, e3, Option.bind_some, Int.toNat_natCast, hsw, e5, hlim, w64_succ (show c ≤ 1099511627776 by omega), castL_snoc, hpr]
      · have hpo : pivOr s.a s.piv.length c = s.a.length := by
          obtain ⟨q1, q2, _⟩ := pivOr_le (a := s.a) (c := c) (show s.piv.length ≤ s.a.length by omega)
          omega
        have hst : bred n M (c + 1) = s := by
          rw [hnext]
          unfold bstep
          rw [if_neg hlt]
        refine ⟨_, ?_, rfl⟩
        rw [hst, hpo]
        simp only [hml, beq_self_eq_true, cond_true, w64_succ (show c ≤ 1099511627776 by omega)]) (fun s hs => by
      subst hs
      refine ⟨_, ?_, rfl⟩
      obtain ⟨M', hI⟩ := bred_inv hrows n (Nat.le_refl _)
      have hrow := inv_rowsN hI
      have hal : (bred n M n).a.length = M.length := hI.len
      have hml : ((bred n M n).a.map prim).length = (bred n M n).a.length := List.length_map ..
      have e0 : idx ((bred n M n).a.map prim) 0 = some (prim ((bred n M n).a.getD 0 [])) := by
        have := idxD (l := (bred n M n).a.map prim) (k := 0) [] (by omega)
        rw [map_getD (by omega)] at this
        exact this
      unfold m_spec_l9Reduced_L6
      simp only [hml]
      rw [decide_eq_true (show (0 : Int) < ((bred n M n).a.length : Int) by omega), cond_true, e0, Option.bind_some, Option.bind_some, decide_eq_false (by rw [prim_len, hrow 0 (by omega)]; omega)]
      rfl)
  obtain ⟨r, h1, h2⟩ := key
  rw [h1, h2]
theorem reducedS_eq {n : Nat} {M : Mat} (hn : n ≤ 1000000) (hM : M.length ≤ 1000000) (hrows : RowsN n M) (hT : Tame n M) : m_spec_l9Reduced M = some ((bred n M n).a.map prim, castL (bred n M n).piv) := by
  unfold m_spec_l9Reduced
  have e : loopM (m_spec_l9Reduced_L1 M) BIG (0, []) = some (M.map prim) := by
    refine loopM_run (fun k => ((k : Int), (M.take k).map prim)) M.length (by omega) (by simp) (fun k hk => ?_) ?_
    · have e1 := idxD (l := M) [] hk
      have hl : ∀ x : List Int, lim (((M.take k).map prim).length + [x].length) = some () := fun x => lim_ok (by rw [List.length_map, List.length_take]; simp; omega)
      have hr : m_spec_l9Clean (M.getD k []) = some (prim (M.getD k [])) := by
        unfold m_spec_l9Clean
        rw [primS_eq _ (by rw [hrows k hk]; show n ≤ _; omega) (small_of fun j => by have := (hT 0 (Nat.zero_le _)).ent k j; unfold at2 BB at this; exact Nat.le_trans this (by decide))]
        rfl
      unfold m_spec_l9Reduced_L1
      simp only [e1, hr, hl, Option.bind_some, w64_succ (show k ≤ 1099511627776 by omega)]
      rw [decide_eq_true (by omega), cond_true, take_get hk, List.map_append]
      simp [List.getD_eq_getElem?_getD, List.getElem?_eq_getElem hk]
    · unfold m_spec_l9Reduced_L1
      rw [decide_eq_false (by omega), cond_false, List.take_length]
  rw [e, Option.bind_some]
  by_cases h0 : 0 < M.length
  · rw [redS_eq hn hM h0 hrows hT]
    rfl
  · have hM0 : M = [] := List.eq_nil_of_length_eq_zero (by omega)
    subst hM0
    have hs := bred_stop (n := n) (M := []) (c := 0) (by show ¬ (0 < 0); omega) n
    rw [Nat.zero_add] at hs
    rw [hs]
    have : loopM m_spec_l9Reduced_L6 BIG (0, ([] : List (List Int)).map prim, []) = some ([], []) := by
      refine loopM_run (fun _ => (0, [], [])) 0 (by omega) rfl (fun k hk => by omega) rfl
    rw [this]
    rfl
end Go.Proofs.Ytghofbijdnenoaa
end
section
set_option linter.unusedVariables false
set_option linter.unusedSimpArgs false
set_option linter.unnecessarySimpa false
open Go Go.Fw Go.Mx
namespace Go.Proofs.Ytghofbijdnenoaa
section
variable {n : Nat} {M : Mat} {s : BS} {f : Nat}
def prow (s : BS) (i : Nat) : List Int := prim (s.a.getD i [])
end
end Go.Proofs.Ytghofbijdnenoaa
end
