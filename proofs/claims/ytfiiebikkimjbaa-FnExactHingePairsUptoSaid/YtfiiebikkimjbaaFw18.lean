/- The framework, part 18: rows of slices over a pool: reading, writing, growing. -/
import Derived.Test.YtfiiebikkimjbaaFw17
set_option linter.unusedVariables false
set_option linter.unusedSimpArgs false
set_option linter.unnecessarySimpa false
namespace Go.Fw
section
variable {P : Program} {o : Oper} {α : Type} {enc : α → List PV}

/-- the rows' lengths -/
def lensOf {α : Type} (rows : List (List α)) : List Nat := rows.map List.length
/-- the rows' cells -/
def rowsOf {α : Type} (enc : α → List PV) (rows : List (List α)) : List (List (List PV)) := rows.map fun r => r.map enc

theorem tcells_get {p : Nat} {lens : List Nat} {j l : Nat} (h : lens[j]? = some l) : (tcells p lens)[j]? = some [.tl p j 0 l] := by
  unfold tcells
  rw [List.getElem?_mapIdx, h]
  rfl
theorem tcells_inv {p : Nat} {lens : List Nat} {j : Nat} {cs : List CV} (h : (tcells p lens)[j]? = some cs) : ∃ l, lens[j]? = some l ∧ cs = [.tl p j 0 l] := by
  unfold tcells at h
  rw [List.getElem?_mapIdx] at h
  cases hl : lens[j]? with
  | none => rw [hl] at h; cases h
  | some l => rw [hl] at h; injection h with h; exact ⟨l, rfl, h.symm⟩
theorem tcells_len (p : Nat) (lens : List Nat) : (tcells p lens).length = lens.length := by simp [tcells]
theorem tcells_snoc (p : Nat) (lens : List Nat) (l : Nat) : tcells p lens ++ [[.tl p lens.length 0 l]] = tcells p (lens ++ [l]) := by
  unfold tcells
  rw [List.mapIdx_append]
  simp
theorem tcells_set (p : Nat) (lens : List Nat) (j l : Nat) : (tcells p lens).set j [.tl p j 0 l] = tcells p (lens.set j l) := by
  refine List.ext_getElem? fun i => ?_
  unfold tcells
  rw [List.getElem?_set, List.getElem?_mapIdx, List.getElem?_mapIdx, List.getElem?_set]
  by_cases h : j = i
  · subst h
    simp only [if_true, List.length_mapIdx]
    by_cases hl : j < lens.length
    · simp [hl]
    · simp [hl]
  · simp [h]

theorem LT.usT {ins : List (Operand × AV)} {v : AV} {df : Mem} {n p : Nat} {e : TypeId} {lens : List Nat} {W X : List Nat} (h : LT P o ins [(n, .row e (tcells p lens))] v df W X) : LT P o ins [(n, .trow e p lens)] v df W X :=
  h.conv (fun _ _ _ _ h => one_ro (ob := .row e (tcells p lens)) (us1 (ob := .trow e p lens) h)) fun _ _ _ _ h => h

theorem LT.xindex {x y : Operand} {t e : TypeId} {i : Int} {n p len : Nat} {rows : List (List α)} {r : List α} (hl : len = rows.length) (ho : o.op = .indexAddr t x y) (h : elB P t = some e) (hi : idx rows i = some r) :
    LT P o [(x, Cc (.loc n 0 len)), (y, Iv i)] [(n, .trow e p (lensOf rows))] (Cc (.pl n (i.toNat * szP P e))) [] [] [] := by
  subst hl
  exact LT.usT (LT.indexLoc ho h (idx_nn hi) (idx_lt hi))
theorem LT.xload {x : Operand} {t e : TypeId} {n p off : Nat} {i : Int} {rows : List (List α)} {r : List α} (ho : o.op = .load t x) (h : agB P t = some false) (hi : idx rows i = some r) (ha : off = i.toNat * szP P e) :
    LT P o [(x, Cc (.pl n off))] [(n, .trow e p (lensOf rows))] (Cc (.tl p i.toNat 0 r.length)) [] [] [] :=
  LT.usT (LT.loadPl1 ho h (tcells_get (by rw [lensOf, List.getElem?_map, idx_get hi]; rfl)) rfl (by rw [ha, Nat.add_zero]))
theorem LT.xlen {x : Operand} {t e : TypeId} {p k off len : Nat} (ho : o.op = .call { callee := .builtin .len, args := #[x], argTypes := #[t] }) (ht : P.underlying t = some (.slice e)) : LT P o [(x, Cc (.tl p k off len))] [] (Iv len) [] [] [] := .calm fun R B g w a _ hi _ => by
  obtain ⟨_, h⟩ := in1 hi
  refine ⟨.int .i64 len, ?_, sc_mk rfl⟩
  rcases h with ⟨_, _, rfl, h⟩ | ⟨rfl, _, _, _, h⟩ | ⟨b, cap, cur, e', _, _, _, _, _, h⟩ <;> simp [execOp, ho, resolve, invoke, builtin, h, Builtin.len_, run_underlying ht, goInt]

/-- An operation that takes the row away from its pool (it grows, say): the pool's row is empty then, and the outer row's cell there says nothing. -/
theorem LT.unpool {p k m n : Nat} {ins : List (Operand × AV)} {us0 df0 : Mem} {v : AV} {e e2 : TypeId} {els els' : List (List PV)} {rows : List (List (List PV))} {lens : List Nat}
    (h : LT P o ins ((m, .prow e2 els) :: us0) v ((m, .prow e2 els') :: df0) [m] [m]) (hk : rows[k]? = some els)
    (hc : (!Nat.beq p m && !Nat.beq n p && !Nat.beq n m && ins.all (fun q => foA p m q.2) && us0.all (fun q => ![m, p].elem q.1 && nrO [m, p] q.2) && df0.isEmpty) = true) :
    LT P o (ins.map fun q => (q.1, bkA p k m q.2)) ((p, .pool e2 rows) :: (n, .trow e p lens) :: us0) v [(m, .prow e2 els'), (p, .pool e2 (rows.set k [])), (n, .row e ((tcells p lens).set k [.junk]))] [p, n] [p, m] := by
  simp only [Bool.and_eq_true, Bool.not_eq_true'] at hc
  obtain ⟨⟨⟨⟨⟨hpm, hnp⟩, hnm⟩, hins⟩, hus⟩, hdf⟩ := hc
  have hp := Nat.ne_of_beq_eq_false hpm
  have hnp := Nat.ne_of_beq_eq_false hnp
  have hnm := Nat.ne_of_beq_eq_false hnm
  have hdf0 : df0 = [] := by simpa using hdf
  subst hdf0
  intro R B g w a hw hi hu K Q hK
  obtain ⟨⟨bs, hs, hbl⟩, hrows⟩ := hu (p, .pool e2 rows) List.mem_cons_self
  have hn : ROw P w R B g n e (tcells p lens) := hu (n, .trow e p lens) (List.mem_cons_of_mem _ List.mem_cons_self)
  have hfw := foG_wf (k := k) hw hs hp
  refine h R B (foG p k m g) w a hfw (fun q hq => ?_) (fun q hq => ?_) K Q fun u R' B' g' w' had hR hv' hob => ?_
  · exact RA.fo (List.all_eq_true.1 hins q hq) foG_m (fun n hn => foG_o hn) (hi (q.1, bkA p k m q.2) (List.mem_map.2 ⟨q, hq, rfl⟩))
  · cases hq with
    | head => exact (hrows k els hk).row foG_m
    | tail _ hq =>
      have h1 := List.all_eq_true.1 hus q hq
      simp only [Bool.and_eq_true, Bool.not_eq_true'] at h1
      exact RO.av (notin_of_elem h1.1) h1.2 (fun n hn => foG_o hn) (hu q (List.mem_cons_of_mem _ (List.mem_cons_of_mem _ hq)))
  · have hpW : p ∉ [m] := by simpa using hp
    have hgp : g' p = (g p).hole k := (had.names p hpW).trans (foG_p hp)
    have hgn : g' n = g n := (had.names n (by simpa using hnm)).trans (foG_o (by simp [hnm, hnp]))
    have hkeep : ∀ j b, j ≠ k → (g p).at j = .blk b → w'.heap[b]? = w.heap[b]? := fun j b hj hb => by
      refine had.ownH hfw hpW ?_
      rw [foG_p hp]
      exact GS.has_at (k := j) (by rw [GS.hole_at hj]; exact hb)
    have hadv : Adv R B g w [p, n] [p, m] R' B' g' w' := by
      refine ⟨had.wf, had.r, had.b, had.os, had.tape, had.output, had.size, fun b hb hnW => had.heap b hb fun j hj hh => ?_, fun j hj => ?_, fun j hj b hb => ?_, fun j hj hjX b cur e' hg hh => ?_⟩
      · have : j = m := by simpa using hj
        subst this
        rw [foG_m] at hh
        exact hnW p (by simp) (GS.has_at (GS.at_has hh))
      · have : j ∉ [m, p] := by simp at hj ⊢; exact ⟨hj.2, hj.1⟩
        rw [had.names j (by simp at hj ⊢; exact hj.2), foG_o this]
      · have hj : j = p ∨ j = m := by simpa using hj
        rcases hj with rfl | rfl
        · rw [hgp] at hb
          exact .inr ⟨j, by simp, (GS.hole_has hs hb).1⟩
        · rcases had.fresh j (by simp) b hb with h1 | ⟨i, hi, h1⟩
          · exact .inl h1
          · have : i = j := by simpa using hi
            subst this
            rw [foG_m] at h1
            exact .inr ⟨p, by simp, GS.has_at (GS.at_has h1)⟩
      · have : j = n := by
          simp at hj hjX
          rcases hj with h1 | h1
          · exact absurd h1 hjX.1
          · exact h1
        subst this
        exact had.ownH' hfw (n := j) (by simpa using hnm) (by rw [foG_o (by simp [hnm, hnp])]; exact hg) hh
    refine hK u R' B' g' w' hadv hR hv' fun q hq => ?_
    have hq : q = (m, .prow e2 els') ∨ q = (p, .pool e2 (rows.set k [])) ∨ q = (n, .row e ((tcells p lens).set k [.junk])) := by simpa using hq
    rcases hq with rfl | rfl | rfl
    · exact hob _ List.mem_cons_self
    · refine ⟨⟨bs.set k none, by rw [hgp, hs]; rfl, by simpa using hbl⟩, fun j els2 hj => ?_⟩
      show PRow P w' R' B' ((g' p).at j) e2 els2
      rw [hgp]
      rw [List.getElem?_set] at hj
      by_cases hjk : k = j
      · subst hjk
        rw [if_pos rfl] at hj
        split at hj
        · injection hj with hj
          subst hj
          rename_i hl
          refine .inl ⟨?_, rfl⟩
          rw [hs]
          simp only [GS.hole, GS.at, List.getElem?_set, if_true]
          rw [if_pos (by omega)]
        · cases hj
      · rw [if_neg hjk] at hj
        rw [GS.hole_at fun e => hjk e.symm]
        rcases hrows j els2 hj with h1 | ⟨b, cur, h1, h2, h3, h4, h5⟩
        · exact .inl h1
        · refine .inr ⟨b, cur, h1, (hkeep j b (fun e => hjk e.symm) h1).trans h2, h3, h4, fun i k' cs x hi hk' => ?_⟩
          obtain ⟨u, hu1, hu2⟩ := h5 i k' cs x hi hk'
          exact ⟨u, hu1, had.pv hfw hu2⟩
    · show ROw P w' R' B' g' n e ((tcells p lens).set k [.junk])
      rcases hn with ⟨h1, h2⟩ | ⟨b, cur, h1, h2, h3, h4, h5⟩
      · exact .inl ⟨hgn.trans h1, by rw [h2]; rfl⟩
      · have hfn : foG p k m g n = .blk b := (foG_o (by simp [hnm, hnp])).trans h1
        have hheap := had.ownH hfw (n := n) (by simpa using hnm) (GS.has_blk hfn)
        refine .inr ⟨b, cur, hgn.trans h1, hheap.trans h2, fun cs hcs => ?_, by simpa using h4, fun j i cs x hj hi => ?_⟩
        · rcases List.mem_or_eq_of_mem_set hcs with hc | hc
          · exact h3 cs hc
          · subst hc
            by_cases hkl : k < (tcells p lens).length
            · have := h3 _ (List.getElem_mem hkl)
              obtain ⟨j, l, hjl⟩ := mem_tcells (List.getElem_mem hkl)
              rw [hjl] at this
              exact this
            · rw [List.set_eq_of_length_le (by omega)] at hcs
              exact h3 _ hcs
        · rw [List.getElem?_set] at hj
          by_cases hjk : k = j
          · subst hjk
            rw [if_pos rfl] at hj
            split at hj
            · rename_i hkl
              injection hj with hj
              subst hj
              cases i with
              | succ i => simp at hi
              | zero =>
                have : x = .junk := by simpa using hi.symm
                subst this
                obtain ⟨j2, l, hjl⟩ := mem_tcells (List.getElem_mem hkl)
                obtain ⟨u, hu1, hu2⟩ := h5 k 0 _ (.tl p j2 0 l) (List.getElem?_eq_getElem hkl) (by rw [hjl]; rfl)
                exact ⟨u, hu1, hu2.1, trivial⟩
            · cases hj
          · rw [if_neg hjk] at hj
            obtain ⟨u, hu1, hu2⟩ := h5 j i cs x hj hi
            obtain ⟨l, _, rfl⟩ := tcells_inv hj
            cases i with
            | succ i => simp at hi
            | zero =>
              have : x = .tl p j 0 l := by simpa using hi.symm
              subst this
              refine ⟨u, hu1, hu2.1, ?_⟩
              have hat : (g' p).at j = (g p).at j := by rw [hgp, GS.hole_at fun e => hjk e.symm]
              rcases hu2.2 with ⟨q1, q2⟩ | q1 | ⟨b2, cap, cur2, e3, q1, q2, q3⟩
              · exact .inl ⟨hat.trans q1, q2⟩
              · exact .inr (.inl q1)
              · exact .inr (.inr ⟨b2, cap, cur2, e3, hat.trans q1, (hkeep j b2 (fun e => hjk e.symm) q1).trans q2, q3⟩)
end
end Go.Fw
