/- The framework, part 21: the rows of a pool, read and written. -/
import Derived.Test.YtfiiebikkimjbaaFw20
set_option linter.unusedVariables false
set_option linter.unusedSimpArgs false
set_option linter.unnecessarySimpa false
namespace Go.Fw
section
variable {P : Program} {o : Oper} {α : Type} {enc : α → List PV}

/-- the block of a pool's row -/
theorem PRow.blk {w : World} {R B : Nat → Prop} {s : GS} {e : TypeId} {els : List (List PV)} (h : PRow P w R B s e els) {b : Nat} (hb : s = .blk b) {cur : Array Value} {e' : TypeId} (hh : w.heap[b]? = some (.cells cur e' (0, 0))) :
    e' = e ∧ (∀ cs ∈ els, cs.length = szP P e) ∧ els.length * szP P e ≤ cur.size ∧ ∀ (j k : Nat) cs x, els[j]? = some cs → cs[k]? = some x → ∃ u, cur[j * szP P e + k]? = some u ∧ RPV w R B x u := by
  rcases h with ⟨h1, _⟩ | ⟨b', cur', h1, h2, h3, h4, h5⟩
  · rw [hb] at h1; cases h1
  · rw [hb] at h1
    injection h1 with h1
    subst h1
    rw [hh] at h2
    injection h2 with h2
    injection h2 with h2 h6 h7
    subst h2
    subst h6
    exact ⟨rfl, h3, h4, h5⟩
theorem LT.tlindex {x y : Operand} {t e : TypeId} {i : Int} {p k len : Nat} {rows : List (List α)} {r : List α} {b : α} (hl : len = r.length) (ho : o.op = .indexAddr t x y) (h : elB P t = some e) (hk : rows[k]? = some r) (hi : idx r i = some b) :
    LT P o [(x, Cc (.tl p k 0 len)), (y, Iv i)] [(p, .pool e (rowsOf enc rows))] (Cc (.tpl p k (i.toNat * szP P e))) [] [] [] := .calm fun R B g w a _ hin hu => by
  subst hl
  have h0 := idx_nn hi
  have h1 := idx_lt hi
  have hy := sc_inv (in2 hin)
  have hrow := (us1 (ob := .pool e (rowsOf enc rows)) hu).2 k _ (rowsOf_get hk)
  obtain ⟨_, h2⟩ := in1 hin
  rcases h2 with ⟨_, _, h2, _⟩ | ⟨h2, _⟩ | ⟨b, cap, cur, e', k1, k2, k3, k4, k5, k6⟩
  · omega
  · omega
  · have he := (hrow.blk k1 k2).1
    subst he
    simp only [Nat.zero_mul] at k6
    exact ⟨.pointer (some ⟨b, i.toNat * szP P e', none⟩), by simp [execOp, ho, k6, hy, run_indexAt h ⟨b, 0, none⟩ r.length cap .i64 i h0 h1, add_lit], rfl, b, k1, rfl⟩
theorem LT.tlload1 {x : Operand} {t e : TypeId} {p k off j : Nat} {i : Int} {rows : List (List α)} {r : List α} {b : α} {q : PV} (ho : o.op = .load t x) (h : agB P t = some false) (hk : rows[k]? = some r) (hi : idx r i = some b) (hj : (enc b)[j]? = some q)
    (ha : off = i.toNat * szP P e + j) : LT P o [(x, Cc (.tpl p k off))] [(p, .pool e (rowsOf enc rows))] (Cc (.pv q)) [] [] [] := .calm fun R B g w a _ hin hu => by
  obtain ⟨_, bl, h2, h3⟩ := in1 hin
  rcases (us1 (ob := .pool e (rowsOf enc rows)) hu).2 k _ (rowsOf_get hk) with ⟨h4, _⟩ | ⟨b', cur, h4, h5, _, _, h8⟩
  · rw [h2] at h4; cases h4
  · rw [h2] at h4
    injection h4 with h4
    subst h4
    obtain ⟨u, hu1, hu2⟩ := h8 i.toNat j (enc b) q (by rw [List.getElem?_map, idx_get hi]; rfl) hj
    subst ha
    have hc : w.cell? ⟨bl, i.toNat * szP P e + j, none⟩ = some u := (row_cell h5 _).trans hu1
    exact ⟨u, by simp [execOp, ho, h3, run_loadAt1 h hc], hu2.oneCell, hu2⟩
theorem LT.tlloadN {x : Operand} {t e : TypeId} {p k off s : Nat} {i : Int} {rows : List (List α)} {r : List α} {b : α} {it : TypeInfo} (ho : o.op = .load t x) (h : agB P t = some true) (hit : P.info? t = some it) (hs : szP P t = s) (hk : rows[k]? = some r) (hi : idx r i = some b) (hl : (enc b).length = s)
    (ha : off = i.toNat * szP P e) : LT P o [(x, Cc (.tpl p k off))] [(p, .pool e (rowsOf enc rows))] (Ag ((enc b).map .pv)) [] [] [] := .calm fun R B g w a _ hin hu => by
  obtain ⟨_, bl, h2, h3⟩ := in1 hin
  rcases (us1 (ob := .pool e (rowsOf enc rows)) hu).2 k _ (rowsOf_get hk) with ⟨h4, _⟩ | ⟨b', cur, h4, h5, _, _, h8⟩
  · rw [h2] at h4; cases h4
  · rw [h2] at h4
    injection h4 with h4
    subst h4
    subst ha
    obtain ⟨us, k1, k2, k3⟩ := cells_list (T := fun u j => w.cell? ⟨bl, i.toNat * szP P e + j, none⟩ = some u) (Rl := fun q u => RPV w R B q u) (enc b) 0 (fun j q hq => by
      obtain ⟨u, hu1, hu2⟩ := h8 i.toNat j (enc b) q (by rw [List.getElem?_map, idx_get hi]; rfl) hq
      exact ⟨u, by rw [Nat.zero_add]; exact (row_cell h5 _).trans hu1, hu2⟩)
    refine ⟨.agg us.toArray, ?_, us, rfl, by simpa using k1, fun j x hj => ?_⟩
    · have := run_loadAtN (P := P) h hit (a := ⟨bl, i.toNat * szP P e, none⟩) (w := w) (cs := us) (by rw [k1, hl, hs]) (fun j v hj => by rw [add_lit]; simpa using k2 j v hj)
      simp [execOp, ho, h3, this]
    · rw [List.getElem?_map] at hj
      cases hc : (enc b)[j]? with
      | none => rw [hc] at hj; cases hj
      | some q =>
        rw [hc] at hj
        injection hj with hj
        subst hj
        obtain ⟨u, hu1, hu2⟩ := k3 j q hc
        exact ⟨u, hu1, hu2.oneCell, hu2⟩
/-- a store into a row of a pool -/
theorem LT.tlstore {t e : TypeId} {p k off j s : Nat} (m : Nat) {x y : Operand} {i : Int} {rows : List (List α)} {r : List α} {b b' : α} {v : Value} {it : TypeInfo} (ho : o.op = .store t x y) (hd : o.dst = none) (hit : P.info? t = some it) (hs : szP P t = s) (hl : 1 = s) (hk : rows[k]? = some r) (hi : idx r i = some b)
    (ha : off = i.toNat * szP P e + j) (hjl : j + s ≤ (enc b).length) (hb : ow ((enc b).map CV.pv) j [CV.pv (.sc v)] = (enc b').map CV.pv) (hpm : Nat.beq p m = false) :
    LT P o [(x, Cc (.tpl p k off)), (y, Cc (.pv (.sc v)))] [(p, .pool e (rowsOf enc rows))] (.tup []) [(p, .pool e (rowsOf enc (rows.set k (r.set i.toNat b'))))] [p] [m] := by
  have h0 := LT.tstore (P := P) (o := o) (n := m) (e := e) (v := .c (.pv (.sc v))) ho hd hit hs (by simpa [svCells] using hl) hi ha hjl hb
  have h1 := LT.focus (p := p) (k := k) (us0 := []) (df0 := []) (rows := rowsOf enc rows) h0 (rowsOf_get hk) (by simp [focB, hpm, foA, foS, foC, nrC, Nat.beq_refl, Nat.ne_of_beq_eq_false hpm])
  have e1 : (rowsOf enc rows).set k ((r.set i.toNat b').map enc) = rowsOf enc (rows.set k (r.set i.toNat b')) := by simp [rowsOf, List.map_set]
  have e2 : Nat.beq m m = true := Nat.beq_refl m
  simp only [List.map_cons, List.map_nil, bkA, bkS, bkC, e2, cond_true, swN, e1] at h1
  exact h1
end
end Go.Fw
