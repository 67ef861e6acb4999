/- The framework, part 23: rows of slices, typed: stores into the outer row, appends at a row, calls that write a row, make. -/
import Derived.Test.YtfiiebikkimjbaaFw22
set_option linter.unusedVariables false
set_option linter.unusedSimpArgs false
set_option linter.unnecessarySimpa false
namespace Go.Fw
section
variable {P : Program} {o : Oper} {α : Type} {enc : α → List PV}

theorem ow1 (c0 c : CV) : ow [c0] 0 (svCells (.c c)) = [c] := rfl
theorem tcells_get1 {p : Nat} {lens : List Nat} {j : Nat} (h : j < lens.length) : ∃ c, (tcells p lens)[j]? = some [c] := by
  obtain ⟨l, hl⟩ : ∃ l, lens[j]? = some l := ⟨lens[j], List.getElem?_eq_getElem h⟩
  exact ⟨_, tcells_get hl⟩
/-- a store into the outer row -/
theorem LT.xstore {x y : Operand} {t e : TypeId} {n p off : Nat} {i : Int} {rows : List (List α)} {r : List α} {c : CV} {it : TypeInfo} (ho : o.op = .store t x y) (hd : o.dst = none) (hit : P.info? t = some it) (hs : szP P t = 1) (hi : idx rows i = some r) (ha : off = i.toNat * szP P e) :
    LT P o [(x, Cc (.pl n off)), (y, Cc c)] [(n, .trow e p (lensOf rows))] (.tup []) [(n, .row e ((tcells p (lensOf rows)).set i.toNat [c]))] [n] [] := by
  obtain ⟨c0, h0⟩ := tcells_get1 (p := p) (lens := lensOf rows) (j := i.toNat) (by rw [lensOf_len]; exact (List.getElem?_eq_some_iff.1 (idx_get hi)).1)
  have := LT.store (P := P) (o := o) (n := n) (off := off) (e := e) (els := tcells p (lensOf rows)) (k := 0) (v := .c c) ho hd hit hs rfl h0 (by rw [ha, Nat.add_zero]) (Nat.le_refl _)
  exact LT.usT this
/-- a second store at the same place -/
theorem LT.xstoreS {x y : Operand} {t e : TypeId} {n p off : Nat} {i : Int} {rows : List (List α)} {r : List α} {c c1 : CV} {it : TypeInfo} (ho : o.op = .store t x y) (hd : o.dst = none) (hit : P.info? t = some it) (hs : szP P t = 1) (hi : idx rows i = some r) (ha : off = i.toNat * szP P e) :
    LT P o [(x, Cc (.pl n off)), (y, Cc c)] [(n, .row e ((tcells p (lensOf rows)).set i.toNat [c1]))] (.tup []) [(n, .row e ((tcells p (lensOf rows)).set i.toNat [c]))] [n] [] := by
  have hl : i.toNat < (tcells p (lensOf rows)).length := by rw [tcells_len, lensOf_len]; exact (List.getElem?_eq_some_iff.1 (idx_get hi)).1
  have := LT.store (P := P) (o := o) (n := n) (off := off) (e := e) (els := (tcells p (lensOf rows)).set i.toNat [c1]) (j := i.toNat) (cs := [c1]) (k := 0) (v := .c c) ho hd hit hs rfl (by rw [List.getElem?_set, if_pos rfl, if_pos hl]) (by rw [ha, Nat.add_zero]) (Nat.le_refl _)
  rw [List.set_set] at this
  exact this
/-- a second store at another place -/
theorem LT.xstore2 {x y : Operand} {t e : TypeId} {n p off k : Nat} {i : Int} {rows : List (List α)} {r : List α} {c c1 : CV} {it : TypeInfo} (ho : o.op = .store t x y) (hd : o.dst = none) (hit : P.info? t = some it) (hs : szP P t = 1) (hi : idx rows i = some r) (ha : off = i.toNat * szP P e) :
    LT P o [(x, Cc (.pl n off)), (y, Cc c)] [(n, .row e ((tcells p (lensOf rows)).set k [c1]))] (.tup []) [(n, .row e (((tcells p (lensOf rows)).set k [c1]).set i.toNat [c]))] [n] [] := by
  have hl : i.toNat < (lensOf rows).length := by rw [lensOf_len]; exact (List.getElem?_eq_some_iff.1 (idx_get hi)).1
  obtain ⟨c0, h0⟩ := tcells_get1 (p := p) hl
  obtain ⟨c2, h2⟩ : ∃ c2, ((tcells p (lensOf rows)).set k [c1])[i.toNat]? = some [c2] := by
    rw [List.getElem?_set]
    by_cases hk : k = i.toNat
    · rw [if_pos hk, if_pos (by rw [hk, tcells_len]; exact hl)]; exact ⟨c1, rfl⟩
    · rw [if_neg hk]; exact ⟨c0, h0⟩
  exact LT.store (P := P) (o := o) (n := n) (off := off) (e := e) (k := 0) (v := .c c) ho hd hit hs rfl h2 (by rw [ha, Nat.add_zero]) (Nat.le_refl _)
/-- the address of a place of the outer row while a row is away -/
theorem LT.xindexS {x y : Operand} {t e : TypeId} {i : Int} {n len : Nat} {els : List (List CV)} {rows : List (List α)} {r : List α} (hl : len = rows.length) (ho : o.op = .indexAddr t x y) (h : elB P t = some e) (hi : idx rows i = some r) :
    LT P o [(x, Cc (.loc n 0 len)), (y, Iv i)] [(n, .row e els)] (Cc (.pl n (i.toNat * szP P e))) [] [] [] := by
  subst hl
  exact LT.indexLoc ho h (idx_nn hi) (idx_lt hi)
/-- a row leaves its pool -/
theorem LT.tunpool {p k m n : Nat} {ins : List (Operand × AV)} {us0 : Mem} {v : AV} {e e2 : TypeId} {r r' : List α} {rows : List (List α)}
    (h : LT P o ins ((m, .prow e2 (r.map enc)) :: us0) v [(m, .prow e2 (r'.map enc))] [m] [m]) (hk : rows[k]? = some r)
    (hc : (!Nat.beq p m && !Nat.beq n p && !Nat.beq n m && ins.all (fun q => foA p m q.2) && us0.all (fun q => ![m, p].elem q.1 && nrO [m, p] q.2)) = true) :
    LT P o (ins.map fun q => (q.1, bkA p k m q.2)) ((p, .pool e2 (rowsOf enc rows)) :: (n, .trow e p (lensOf rows)) :: us0) v [(m, .prow e2 (r'.map enc)), (p, .pool e2 (rowsOf enc (rows.set k []))), (n, .row e ((tcells p (lensOf (rows.set k []))).set k [.junk]))] [p, n] [p, m] := by
  have := LT.unpool (p := p) (k := k) (m := m) (n := n) (e := e) (rows := rowsOf enc rows) (lens := lensOf rows) (df0 := []) h (rowsOf_get hk) (by rw [hc]; rfl)
  have e1 : (rowsOf enc rows).set k [] = rowsOf enc (rows.set k []) := by simp [rowsOf, List.map_set]
  have e2 : (tcells p (lensOf (rows.set k []))).set k [CV.junk] = (tcells p (lensOf rows)).set k [CV.junk] := by
    have : lensOf (rows.set k []) = (lensOf rows).set k 0 := by simp [lensOf, List.map_set]
    rw [this, ← tcells_set, List.set_set]
  rw [e1] at this
  rw [e2]
  exact this
/-- an operation that writes an own row, at a pool's row -/
theorem LT.tfocus {p k m : Nat} {ins : List (Operand × AV)} {us0 df0 : Mem} {v : AV} {W X : List Nat} {e : TypeId} {r r' : List α} {rows : List (List α)}
    (h : LT P o ins ((m, .prow e (r.map enc)) :: us0) v ((m, .prow e (r'.map enc)) :: df0) W X) (hk : rows[k]? = some r) (hc : focB p m ins us0 v df0 W X = true) :
    LT P o (ins.map fun q => (q.1, bkA p k m q.2)) ((p, .pool e (rowsOf enc rows)) :: us0) (bkA p k m v) ((p, .pool e (rowsOf enc (rows.set k r'))) :: df0) (W.map (swN m p)) (m :: X) := by
  have := LT.focus (p := p) (k := k) (rows := rowsOf enc rows) h (rowsOf_get hk) hc
  have e1 : (rowsOf enc rows).set k (r'.map enc) = rowsOf enc (rows.set k r') := by simp [rowsOf, List.map_set]
  rw [e1] at this
  exact this
/-- make([][]T, n) -/
theorem LT.xmake {t e : TypeId} {n : Nat} {x y : Operand} {len : Int} {b : Nat} (ho : o.op = .makeSlice t x y) (he : P.underlying t = some (.slice e)) (hz : TI P e nilV 1 b) (hb : b ≤ 65536) (hl : 0 ≤ len ∧ len ≤ LIM) :
    LT P o [(x, Iv len), (y, Iv len)] [] (Cc (.loc n 0 len.toNat)) [(n, .row e (List.replicate len.toNat [.pv (.sc nilV)]))] [] [n] := by
  have := LT.makeSlice (P := P) (o := o) (n := n) (x := x) (y := y) (zc := [.pv (.sc nilV)]) ho he hz rfl rfl rfl (by decide) hb hl
  rw [List.length_replicate] at this
  have e1 : (List.replicate len.toNat [CV.pv (.sc nilV)]).map (·.map (junkC [n])) = List.replicate len.toNat [CV.pv (.sc nilV)] := by simp [List.map_replicate, junkC]
  rw [e1] at this
  exact this
theorem len_snoc {β : Type} {l : List β} {x : β} : l.length + 1 = (l ++ [x]).length := by simp
end
end Go.Fw
