/- The framework, part 22: rows of slices: what is lent, lengths, pools that begin. -/
import Derived.Test.YtfiiebikkimjbaaFw21
set_option linter.unusedVariables false
set_option linter.unusedSimpArgs false
set_option linter.unnecessarySimpa false
namespace Go.Fw
section
variable {P : Program} {C : Ctx} {σ : Slots} {mm : Mem} {α : Type} {enc : α → List PV}

theorem lens_set {rows : List (List α)} {k : Nat} {r r' : List α} (hk : rows[k]? = some r) (h : r'.length = r.length) : lensOf rows = lensOf (rows.set k r') := by
  refine List.ext_getElem? fun j => ?_
  have hl := (List.getElem?_eq_some_iff.1 hk).1
  simp only [lensOf, List.getElem?_map, List.getElem?_set]
  by_cases hj : k = j
  · subst hj
    rw [if_pos rfl, if_pos hl, hk, Option.map_some, Option.map_some, h]
  · rw [if_neg hj]
theorem PermO.poolR (h : ∀ a, PermPL (enc a)) {e : TypeId} (rows : List (List α)) : PermO (.pool e (rowsOf enc rows)) := fun els hels cs hcs p hp => by
  obtain ⟨r, _, rfl⟩ := List.mem_map.1 hels
  obtain ⟨a, _, rfl⟩ := List.mem_map.1 hcs
  exact (h a).spec p hp
/-- the lengths told otherwise -/
theorem Ent.lens {n p : Nat} {e : TypeId} {lens lens' : List Nat} (he : lens = lens') (h : lk mm n = some (.trow e p lens)) : Ent P C σ mm σ ((n, .trow e p lens') :: mm) := fun R B g a w hs => by
  subst he
  exact ⟨R, B, g, hs.obj h (hs.ob n _ h)⟩
theorem ShC.ttl {sh : Mem} {p k len : Nat} {e2 : TypeId} {rows : List (List α)} {r : List α} (hl : len = r.length) (h : lk sh p = some (.pool e2 (rowsOf enc rows))) (hk : rows[k]? = some r) : ShC sh (.tl p k 0 len) (.pv (.xs false (r.map enc))) := by
  subst hl
  have := ShC.tl (k := k) h (rowsOf_get hk)
  rwa [List.length_map] at this
theorem ShC.ttrow {sh : Mem} {n p len : Nat} {e e2 : TypeId} {rows : List (List α)} {encL : List α → List PV} (hl : len = rows.length) (h1 : lk sh n = some (.trow e p (lensOf rows))) (h2 : lk sh p = some (.pool e2 (rowsOf enc rows))) (hE : ∀ r, encL r = [.xs false (r.map enc)]) : ShC sh (.loc n 0 len) (.pv (.xs false (rows.map encL))) := by
  subst hl
  have := ShC.trow h1 h2 (by simp [lensOf, rowsOf, Function.comp_def])
  rw [lensOf_len] at this
  have e1 : (rowsOf enc rows).map (fun r => [PV.xs false r]) = rows.map encL := by
    rw [rowsOf, List.map_map]
    exact List.map_congr_left fun r _ => (hE r).symm
  rwa [e1] at this
/-- an empty pool -/
theorem Ent.poolE (p : Nat) (e2 : TypeId) (hd : C.pn.elem p = false) : Ent P C σ mm (junkSl [p] σ) ((p, .pool e2 []) :: junkM [p] mm) := fun R B g a w hs => by
  have hp1 := notin_of_elem hd
  have had : Adv R B g w [] [p] R B (upd g p (.pool [])) w := by
    refine ⟨hs.wf.upd p _ (Nat.le_refl _) (fun b hb => by cases hb) (fun i j b hi => by simp [GS.at] at hi), fun _ h => h, fun _ h => h, rfl, rfl, rfl, Nat.le_refl _, fun _ _ _ => rfl, fun q hq => upd_ne g _ (by simpa using hq), fun q hq b hb => ?_, fun q hq => by cases hq⟩
    have : q = p := by simpa using hq
    subst this
    rw [upd_same] at hb
    cases hb
  exact ⟨R, B, _, hs.step (us := []) (df := [(p, .pool e2 [])]) (W := []) (X := [p]) (d := none) (v := .tup []) (u := undef) trivial (fun _ h => by cases h) (fun q hq => by
      have : q = (p, .pool e2 []) := by simpa using hq
      subst this; exact .inl (by simp)) rfl (fun q hq => by
      have : q = p := by simpa using hq
      subst this; exact hp1) had (fun b hb => .inl hb) (fun h => by cases h) (one_ro ⟨⟨[], upd_same .., rfl⟩, fun k els hk => by simp at hk⟩)⟩
/-- a pool of empty rows: the outer row is new, all nil -/
theorem Ent.poolN {n p c : Nat} {e e2 : TypeId} (hn : lk mm n = some (.row e (List.replicate c [.pv (.sc nilV)]))) (hd : (!Nat.beq n p && !C.pn.elem p) = true) :
    Ent P C σ mm (junkSl [p] σ) ((p, .pool e2 (rowsOf enc (List.replicate c ([] : List α)))) :: (n, .trow e p (lensOf (List.replicate c ([] : List α)))) :: junkM [p] mm) := fun R B g a w hs => by
  simp only [Bool.and_eq_true, Bool.not_eq_true'] at hd
  have hnp := Nat.ne_of_beq_eq_false hd.1
  have hp1 := notin_of_elem hd.2
  have hrn : ROw P w R B g n e (List.replicate c [.pv (.sc nilV)]) := hs.ob n _ hn
  have hat : ∀ j, j < c → (GS.pool (List.replicate c none)).at j = .nil := fun j hj => by simp [GS.at, hj]
  have hnb : ∀ b, ¬ (GS.pool (List.replicate c none)).has b := fun b hb => by
    have := List.eq_of_mem_replicate (show some b ∈ List.replicate c none from hb)
    cases this
  have had : Adv R B g w [n] [p] R B (upd g p (.pool (List.replicate c none))) w := by
    refine ⟨hs.wf.upd p _ (Nat.le_refl _) (fun b hb => (hnb b hb).elim) (fun i j b hi => (hnb b (GS.has_at hi)).elim), fun _ h => h, fun _ h => h, rfl, rfl, rfl, Nat.le_refl _, fun _ _ _ => rfl, fun q hq => upd_ne g _ (by simpa using hq), fun q hq b hb => ?_, fun q hq hqX b cur e' hg hh => ⟨cur, hh, rfl⟩⟩
    have : q = p := by simpa using hq
    subst this
    rw [upd_same] at hb
    exact (hnb b hb).elim
  have hgn : upd g p (.pool (List.replicate c none)) n = g n := upd_ne g _ hnp
  have hcells : ∀ j cs, (tcells p (lensOf (List.replicate c ([] : List α))))[j]? = some cs → j < c ∧ cs = [.tl p j 0 0] := fun j cs hj => by
    obtain ⟨l, hl, rfl⟩ := tcells_inv hj
    simp only [lensOf, List.map_replicate, List.length_nil, List.getElem?_replicate] at hl
    split at hl
    · rename_i h1
      injection hl with hl
      subst hl
      exact ⟨h1, rfl⟩
    · cases hl
  exact ⟨R, B, _, hs.step (us := [(n, .row e (List.replicate c [.pv (.sc nilV)]))]) (df := [(p, .pool e2 (rowsOf enc (List.replicate c ([] : List α)))), (n, .trow e p (lensOf (List.replicate c ([] : List α))))]) (W := [n]) (X := [p]) (d := none) (v := .tup []) (u := undef) ⟨hn, trivial⟩
    (fun q hq => by
      have : q = n := by simpa using hq
      subst this
      exact ⟨.inr (by simp), _, List.mem_cons_self⟩)
    (fun q hq => by
      have : q = (p, .pool e2 (rowsOf enc (List.replicate c ([] : List α)))) ∨ q = (n, .trow e p (lensOf (List.replicate c ([] : List α)))) := by simpa using hq
      rcases this with rfl | rfl
      · exact .inl (by simp)
      · exact .inr (by simp)) rfl (fun q hq => by
      have : q = p := by simpa using hq
      subst this; exact hp1) had (fun b hb => .inl hb) (fun h => by cases h) (fun q hq => by
      have : q = (p, .pool e2 (rowsOf enc (List.replicate c ([] : List α)))) ∨ q = (n, .trow e p (lensOf (List.replicate c ([] : List α)))) := by simpa using hq
      rcases this with rfl | rfl
      · refine ⟨⟨List.replicate c none, upd_same .., by simp [rowsOf]⟩, fun k els hk => ?_⟩
        show PRow P w R B ((upd g p (.pool (List.replicate c none)) p).at k) e2 els
        rw [upd_same]
        simp only [rowsOf, List.map_replicate, List.map_nil, List.getElem?_replicate] at hk
        split at hk
        · rename_i h1
          injection hk with hk
          exact .inl ⟨hat k h1, hk.symm⟩
        · cases hk
      · show ROw P w R B (upd g p (.pool (List.replicate c none))) n e (tcells p (lensOf (List.replicate c ([] : List α))))
        rcases hrn with ⟨h1, h2⟩ | ⟨b, cur, h1, h2, h3, h4, h5⟩
        · have hc0 : c = 0 := by simpa using h2
          subst hc0
          exact .inl ⟨hgn.trans h1, rfl⟩
        · refine .inr ⟨b, cur, hgn.trans h1, h2, fun cs hcs => ?_, by simpa [tcells_len, lensOf_len] using h4, fun j k cs x hj hk => ?_⟩
          · obtain ⟨j, hj⟩ := List.mem_iff_getElem?.1 hcs
            obtain ⟨hjc, rfl⟩ := hcells j cs hj
            have := h3 [.pv (.sc nilV)] (List.mem_replicate.2 ⟨by omega, rfl⟩)
            exact this
          · obtain ⟨hjc, rfl⟩ := hcells j cs hj
            cases k with
            | succ k => simp at hk
            | zero =>
              have : x = .tl p j 0 0 := by simpa using hk.symm
              subst this
              obtain ⟨u, hu, hr⟩ := h5 j 0 [.pv (.sc nilV)] (.pv (.sc nilV)) (by simp [hjc]) rfl
              refine ⟨u, hu, hr.1, .inl ⟨?_, rfl, rfl, sc_inv hr⟩⟩
              rw [upd_same]
              exact hat j hjc)⟩
end
end Go.Fw
