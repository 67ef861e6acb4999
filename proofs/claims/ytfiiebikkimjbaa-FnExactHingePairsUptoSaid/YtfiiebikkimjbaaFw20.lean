/- The framework, part 20: rows of slices, typed: growing, a row that comes in, two rows that change places, an empty pool. -/
import Derived.Test.YtfiiebikkimjbaaFw19
set_option linter.unusedVariables false
set_option linter.unusedSimpArgs false
set_option linter.unnecessarySimpa false
namespace Go.Fw
section
variable {P : Program} {C : Ctx} {σ : Slots} {mm : Mem} {α : Type} {enc : α → List PV}

theorem lensOf_len (rows : List (List α)) : (lensOf rows).length = rows.length := by simp [lensOf]
theorem rowsOf_len (enc : α → List PV) (rows : List (List α)) : (rowsOf enc rows).length = rows.length := by simp [rowsOf]
theorem rowsOf_get {rows : List (List α)} {k : Nat} {r : List α} (h : rows[k]? = some r) : (rowsOf enc rows)[k]? = some (r.map enc) := by simp [rowsOf, h]

/-! ### more on the row of slices -/
theorem LT.xapp {o : Oper} {t e : TypeId} {x y : Operand} {n n2 p len len2 : Nat} {rows : List (List α)} {els2 : List (List CV)} {z : Value} {s by_ : Nat} (hl : len = rows.length) (hl2 : len2 = els2.length) (ho : o.op = .call { callee := .builtin .append, args := #[x, y], argTypes := #[t, t] }) (ht : P.underlying t = some (.slice e))
    (hz : TI P e z s by_) (hzs : z.cells.size = s) (hs : 0 < s) (hb : by_ ≤ 65536) (hc : (els2.all (fun cs => Nat.beq cs.length s && cs.all (nrC [n])) && !Nat.beq p n) = true) (hlim : rows.length + els2.length ≤ LIM) :
    LT P o [(x, Cc (.loc n 0 len)), (y, Cc (.loc n2 0 len2))] [(n, .trow e p (lensOf rows)), (n2, .row e els2)] (Cc (.loc n 0 (len + len2))) [(n, .row e (tcells p (lensOf rows) ++ els2))] [n] [n] := by
  subst hl
  subst hl2
  simp only [Bool.and_eq_true, Bool.not_eq_true'] at hc
  have hc1 : ∀ cs ∈ els2, cs.length = s ∧ ∀ x ∈ cs, nrC [n] x = true := fun cs hcs => by
    have := List.all_eq_true.1 hc.1 cs hcs
    simp only [Bool.and_eq_true] at this
    exact ⟨Nat.eq_of_beq_eq_true this.1, fun x hx => List.all_eq_true.1 this.2 x hx⟩
  have hlen : (tcells p (lensOf rows)).length = rows.length := by rw [tcells_len, lensOf_len]
  have hpn : [n].elem p = false := by
    have := Nat.ne_of_beq_eq_false hc.2
    simp [this]
  have := LT.append (P := P) (o := o) (ins := [(x, Cc (.loc n 0 rows.length)), (y, Cc (.loc n2 0 els2.length))]) (us := [(n, .trow e p (lensOf rows)), (n2, .row e els2)]) (n := n) (els := tcells p (lensOf rows)) (els2 := els2) (W := [n]) ho ht hz hzs hs hb
    (fun cs hcs => (hc1 cs hcs).1) (by rw [hlen]; exact hlim)
    (fun R B g w a hw hi hu => ⟨.inr ⟨by rw [hlen]; exact in1 hi, us1 (ob := .trow e p (lensOf rows)) hu⟩, by
      have := srcLoc (els := els2) (by rw [hz.sz]; exact hs) (in2 hi) (us2 hu)
      rwa [hz.sz] at this, .inl rfl⟩)
  rw [hlen, List.map_append, tcells_junk hpn, map_id_of fun cs hcs => map_id_of fun x hx => junkC_nr ((hc1 cs hcs).2 x hx)] at this
  exact this

/-- a row comes into the pool: its cell is in the outer row -/
theorem Ent.tadopt {n m p len : Nat} {e e2 : TypeId} {rows : List (List α)} {r : List α} {rest : List (List CV)} (hl : len = r.length) (hm : lk mm m = some (.prow e2 (r.map enc))) (hp : lk mm p = some (.pool e2 (rowsOf enc rows)))
    (hn : lk mm n = some (.row e (tcells p (lensOf rows) ++ [.loc m 0 len] :: rest))) (hd : (!Nat.beq p m && !Nat.beq n p && !Nat.beq n m && !C.pn.elem m && !C.pn.elem p) = true) (hrest : rest.all (·.all (nrC [m, p])) = true) :
    Ent P C σ mm (junkSl [m, p] σ) ((p, .pool e2 (rowsOf enc (rows ++ [r]))) :: (n, .row e (tcells p (lensOf (rows ++ [r])) ++ rest)) :: junkM [m, p] mm) := by
  subst hl
  have hcells : tcells p (lensOf (rows ++ [r])) = tcells p (lensOf rows) ++ [[.tl p rows.length 0 r.length]] := by
    have : lensOf (rows ++ [r]) = lensOf rows ++ [r.length] := by simp [lensOf]
    rw [this, ← tcells_snoc, lensOf_len]
  have hlen : (tcells p (lensOf rows)).length = rows.length := by rw [tcells_len, lensOf_len]
  refine Ent.adoptG (k := rows.length) hm hp hn hd (fun bs ob hbl => ⟨bs ++ [ob], by simp [hbl, rowsOf_len], fun j => ?_⟩) (fun j els2 hj => ?_) (by rw [hcells]; simp) (fun j cs2 hj => ?_)
  · rw [rowsOf_len] at hbl
    by_cases h : j = rows.length
    · rw [if_pos h, h, ← hbl]
      simp only [GS.at, List.getElem?_append_right (Nat.le_refl _), Nat.sub_self, List.getElem?_cons_zero]
      cases ob <;> rfl
    · rw [if_neg h]
      by_cases h2 : j < bs.length
      · simp only [GS.at, List.getElem?_append_left h2]
      · have e1 : (bs ++ [ob])[j]? = none := List.getElem?_eq_none (by simp; omega)
        have e2 : bs[j]? = none := List.getElem?_eq_none (by omega)
        simp only [GS.at, e1, e2]
  · simp only [rowsOf, List.map_append, List.map_cons, List.map_nil] at hj ⊢
    by_cases h : j < rows.length
    · rw [List.getElem?_append_left (by simpa using h)] at hj
      exact .inr ⟨by omega, hj⟩
    · have hjl := (List.getElem?_eq_some_iff.1 hj).1
      simp at hjl
      have : j = rows.length := by omega
      subst this
      rw [List.getElem?_append_right (by simp)] at hj
      simp at hj
      exact .inl ⟨rfl, hj.symm⟩
  · rw [hcells, List.append_assoc] at hj
    by_cases h : j < rows.length
    · rw [List.getElem?_append_left (by rw [hlen]; exact h)] at hj
      obtain ⟨l, hl, rfl⟩ := tcells_inv hj
      refine ⟨_, by rw [List.getElem?_append_left (by rw [hlen]; exact h)]; exact hj, rfl, fun i x2 hi => ⟨x2, hi, .inr ⟨rfl, .inl ?_⟩⟩⟩
      cases i with
      | zero => exact ⟨j, 0, l, by omega, by simpa using hi.symm⟩
      | succ i => simp at hi
    · rw [List.getElem?_append_right (by rw [hlen]; omega), hlen] at hj
      by_cases h2 : j = rows.length
      · subst h2
        rw [Nat.sub_self] at hj
        have : cs2 = [.tl p rows.length 0 r.length] := by simpa using hj.symm
        subst this
        refine ⟨[.loc m 0 r.length], by rw [List.getElem?_append_right (by rw [hlen]; exact Nat.le_refl _), hlen, Nat.sub_self]; rfl, rfl, fun i x2 hi => ?_⟩
        cases i with
        | zero => exact ⟨_, rfl, .inl ⟨0, r.length, rfl, by simpa using hi.symm⟩⟩
        | succ i => simp at hi
      · obtain ⟨q, hq⟩ : ∃ q, j - rows.length = q + 1 := ⟨j - rows.length - 1, by omega⟩
        rw [hq] at hj
        have hj' : rest[q]? = some cs2 := by simpa using hj
        refine ⟨cs2, by rw [List.getElem?_append_right (by rw [hlen]; omega), hlen, hq]; simpa using hj', rfl, fun i x2 hi => ⟨x2, hi, .inr ⟨rfl, .inr ?_⟩⟩⟩
        exact List.all_eq_true.1 (List.all_eq_true.1 hrest cs2 (List.mem_of_getElem? hj')) x2 (List.mem_of_getElem? hi)
/-- the same at a place of the outer row -/
theorem Ent.tadoptAt {n m p len k : Nat} {e e2 : TypeId} {rows : List (List α)} {r : List α} (hl : len = r.length) (hk : k < rows.length) (hm : lk mm m = some (.prow e2 (r.map enc))) (hp : lk mm p = some (.pool e2 (rowsOf enc rows)))
    (hn : lk mm n = some (.row e ((tcells p (lensOf rows)).set k [.loc m 0 len]))) (hd : (!Nat.beq p m && !Nat.beq n p && !Nat.beq n m && !C.pn.elem m && !C.pn.elem p) = true) :
    Ent P C σ mm (junkSl [m, p] σ) ((p, .pool e2 (rowsOf enc (rows.set k r))) :: (n, .row e (tcells p (lensOf (rows.set k r)))) :: junkM [m, p] mm) := by
  subst hl
  have hcells : tcells p (lensOf (rows.set k r)) = (tcells p (lensOf rows)).set k [.tl p k 0 r.length] := by
    rw [tcells_set]
    simp [lensOf, List.map_set]
  have hlen : (tcells p (lensOf rows)).length = rows.length := by rw [tcells_len, lensOf_len]
  refine Ent.adoptG (k := k) hm hp hn hd (fun bs ob hbl => ⟨bs.set k ob, by simp [hbl, rowsOf_len], fun j => ?_⟩) (fun j els2 hj => ?_) (by rw [hcells]; simp) (fun j cs2 hj => ?_)
  · rw [rowsOf_len] at hbl
    simp only [GS.at, List.getElem?_set]
    by_cases h : j = k
    · subst h
      rw [if_pos rfl, if_pos rfl, if_pos (by omega)]
      cases ob <;> rfl
    · rw [if_neg h, if_neg fun e => h e.symm]
  · simp only [rowsOf, List.map_set, List.getElem?_set, List.length_map] at hj
    by_cases h : k = j
    · subst h
      rw [if_pos rfl, if_pos hk] at hj
      injection hj with hj
      exact .inl ⟨rfl, hj.symm⟩
    · rw [if_neg h] at hj
      exact .inr ⟨fun e => h e.symm, hj⟩
  · rw [hcells, List.getElem?_set] at hj
    by_cases h : k = j
    · subst h
      rw [if_pos rfl, if_pos (by rw [hlen]; exact hk)] at hj
      have : cs2 = [.tl p k 0 r.length] := by simpa using hj.symm
      subst this
      refine ⟨[.loc m 0 r.length], by rw [List.getElem?_set, if_pos rfl, if_pos (by rw [hlen]; exact hk)], rfl, fun i x2 hi => ?_⟩
      cases i with
      | zero => exact ⟨_, rfl, .inl ⟨0, r.length, rfl, by simpa using hi.symm⟩⟩
      | succ i => simp at hi
    · rw [if_neg h] at hj
      obtain ⟨l, hl, rfl⟩ := tcells_inv hj
      refine ⟨_, by rw [List.getElem?_set, if_neg h]; exact hj, rfl, fun i x2 hi => ⟨x2, hi, .inr ⟨rfl, .inl ?_⟩⟩⟩
      cases i with
      | zero => exact ⟨j, 0, l, fun e => h e.symm, by simpa using hi.symm⟩
      | succ i => simp at hi
/-- a row of slices, told as such -/
theorem Ent.trow {n p : Nat} {e : TypeId} {lens : List Nat} {cells : List (List CV)} (hc : cells = tcells p lens) (h : lk mm n = some (.row e cells)) : Ent P C σ mm σ ((n, .trow e p lens) :: mm) := fun R B g a w hs => by
  subst hc
  exact ⟨R, B, g, hs.obj (o := .trow e p lens) h (show ROw P w R B g n e (tcells p lens) from hs.ob n (.row e (tcells p lens)) h)⟩
/-- an empty pool; the outer row is empty, too -/
theorem Ent.pool0 {n p : Nat} {e e2 : TypeId} (hn : lk mm n = some (.prow e []) ∨ lk mm n = some (.row e [])) (hd : (!Nat.beq n p && !C.pn.elem p) = true) : Ent P C σ mm (junkSl [p] σ) ((p, .pool e2 []) :: (n, .trow e p []) :: junkM [p] mm) := fun R B g a w hs => by
  simp only [Bool.and_eq_true, Bool.not_eq_true'] at hd
  have hnp := Nat.ne_of_beq_eq_false hd.1
  have hp1 := notin_of_elem hd.2
  have had : Adv R B g w [] [p] R B (upd g p (.pool [])) w := by
    refine ⟨hs.wf.upd p _ (Nat.le_refl _) (fun b hb => by cases hb) (fun i j b hi => by simp [GS.at] at hi), fun _ h => h, fun _ h => h, rfl, rfl, rfl, Nat.le_refl _, fun _ _ _ => rfl, fun q hq => upd_ne g _ (by simpa using hq), fun q hq b hb => ?_, fun q hq => by cases hq⟩
    have : q = p := by simpa using hq
    subst this
    rw [upd_same] at hb
    cases hb
  have h1 := hs.step (us := []) (df := [(p, .pool e2 [])]) (W := []) (X := [p]) (d := none) (v := .tup []) (u := undef) trivial (fun _ h => by cases h) (fun q hq => by
      have : q = (p, .pool e2 []) := by simpa using hq
      subst this; exact .inl (by simp)) rfl (fun q hq => by
      have : q = p := by simpa using hq
      subst this; exact hp1) had (fun b hb => .inl hb) (fun h => by cases h) (one_ro ⟨⟨[], upd_same .., rfl⟩, fun k els hk => by simp at hk⟩)
  have h2 : ∃ o0, lk (junkM [p] mm) n = some o0 := by
    have key : ∀ o0, lk mm n = some o0 → lk (junkM [p] mm) n = some (junkO [p] o0) := fun o0 h0 => by
      rw [lk_junkM', if_neg (by simpa using hnp), h0]; rfl
    rcases hn with h | h <;> exact ⟨_, key _ h⟩
  obtain ⟨o0, h2⟩ := h2
  refine ⟨R, B, _, { h1 with ob := fun q o hq => ?_, ow := fun q o b hq hb => ?_ }⟩
  · change (bif Nat.beq p q then some (Ob.pool e2 []) else bif Nat.beq n q then some (Ob.trow e p []) else lk (junkM [p] mm) q) = some o at hq
    cases hb1 : Nat.beq p q with
    | true => exact h1.ob q o (by show (bif Nat.beq p q then some (Ob.pool e2 []) else lk (junkM [p] mm) q) = some o; rw [hb1] at hq ⊢; exact hq)
    | false =>
      rw [hb1, cond_false] at hq
      cases hb2 : Nat.beq n q with
      | false =>
        rw [hb2, cond_false] at hq
        exact h1.ob q o (by show (bif Nat.beq p q then some (Ob.pool e2 []) else lk (junkM [p] mm) q) = some o; rw [hb1]; exact hq)
      | true =>
        rw [hb2, cond_true] at hq
        injection hq with hq
        subst hq
        have := Nat.eq_of_beq_eq_true hb2
        subst this
        have e1 : upd g p (.pool []) n = g n := upd_ne g _ hnp
        show ROw P w R B (upd g p (.pool [])) n e []
        have h0 : ROw P w R B g n e [] := by
          rcases hn with h | h
          · exact hs.ob n _ h
          · exact hs.ob n _ h
        rcases h0 with ⟨z1, z2⟩ | ⟨b, cur, z1, z2, z3, z4, z5⟩
        · exact .inl ⟨e1.trans z1, z2⟩
        · exact .inr ⟨b, cur, e1.trans z1, z2, z3, z4, fun j k cs x hj => by simp at hj⟩
  · change (bif Nat.beq p q then some (Ob.pool e2 []) else bif Nat.beq n q then some (Ob.trow e p []) else lk (junkM [p] mm) q) = some o at hq
    cases hb1 : Nat.beq p q with
    | true => exact h1.ow q o b (by show (bif Nat.beq p q then some (Ob.pool e2 []) else lk (junkM [p] mm) q) = some o; rw [hb1] at hq ⊢; exact hq) hb
    | false =>
      rw [hb1, cond_false] at hq
      cases hb2 : Nat.beq n q with
      | false =>
        rw [hb2, cond_false] at hq
        exact h1.ow q o b (by show (bif Nat.beq p q then some (Ob.pool e2 []) else lk (junkM [p] mm) q) = some o; rw [hb1]; exact hq) hb
      | true =>
        have := Nat.eq_of_beq_eq_true hb2
        subst this
        exact h1.ow n o0 b (by show (bif Nat.beq p n then some (Ob.pool e2 []) else lk (junkM [p] mm) n) = some o0; rw [hb1]; exact h2) hb
/-- two rows change places -/
def swp (i q j : Nat) : Nat := if j = q then i else if j = i then q else j
theorem swp_inj {i q j k : Nat} (h : swp i q j = swp i q k) : j = k := by
  unfold swp at h
  split at h <;> split at h <;> (try split at h) <;> (try split at h) <;> omega
theorem swap_get {β : Type} {l : List β} {i q : Nat} {x y : β} (hi : l[i]? = some x) (hq : l[q]? = some y) (j : Nat) : ((l.set i y).set q x)[j]? = l[swp i q j]? := by
  have hil := (List.getElem?_eq_some_iff.1 hi).1
  have hql := (List.getElem?_eq_some_iff.1 hq).1
  rw [List.getElem?_set, List.getElem?_set]
  by_cases h1 : q = j
  · subst h1
    have : swp i q q = i := if_pos rfl
    simp [hql, hi, this]
  · rw [if_neg h1]
    by_cases h2 : i = j
    · subst h2
      have : swp i q i = q := by unfold swp; rw [if_neg fun e => h1 e.symm, if_pos rfl]
      simp [hil, hq, this]
    · have : swp i q j = j := by unfold swp; rw [if_neg fun e => h1 e.symm, if_neg fun e => h2 e.symm]
      rw [if_neg h2, this]
theorem Ent.tswap {n p i q : Nat} {e e2 : TypeId} {rows : List (List α)} {ri rq : List α} (hi : rows[i]? = some ri) (hq : rows[q]? = some rq) (hp : lk mm p = some (.pool e2 (rowsOf enc rows)))
    (hn : lk mm n = some (.row e (((tcells p (lensOf rows)).set i [.tl p q 0 rq.length]).set q [.tl p i 0 ri.length]))) (hd : (!Nat.beq n p && !C.pn.elem p) = true) :
    Ent P C σ mm (junkSl [p] σ) ((p, .pool e2 (rowsOf enc ((rows.set i rq).set q ri))) :: (n, .trow e p (lensOf ((rows.set i rq).set q ri))) :: junkM [p] mm) := fun R B g a w hs => by
  simp only [Bool.and_eq_true, Bool.not_eq_true'] at hd
  have hnp := Nat.ne_of_beq_eq_false hd.1
  have hp1 := notin_of_elem hd.2
  have hw := hs.wf
  obtain ⟨⟨bs, hgp, hbl⟩, hrows⟩ := hs.ob p _ hp
  rw [rowsOf_len] at hbl
  have hrn : ROw P w R B g n e (((tcells p (lensOf rows)).set i [.tl p q 0 rq.length]).set q [.tl p i 0 ri.length]) := hs.ob n _ hn
  have hil := (List.getElem?_eq_some_iff.1 hi).1
  have hql := (List.getElem?_eq_some_iff.1 hq).1
  have hbi : bs[i]? = some (bs[i]'(by omega)) := List.getElem?_eq_getElem (by omega)
  have hbq : bs[q]? = some (bs[q]'(by omega)) := List.getElem?_eq_getElem (by omega)
  let bs2 := (bs.set i (bs[q]'(by omega))).set q (bs[i]'(by omega))
  have hat : ∀ j, (GS.pool bs2).at j = (g p).at (swp i q j) := fun j => by
    rw [hgp]
    show (match bs2[j]? with | some (some b) => GS.blk b | some none => .nil | none => .dead) = _
    rw [swap_get hbi hbq]
    rfl
  have hhas : ∀ b, (GS.pool bs2).has b → (g p).has b := fun b hb => by
    obtain ⟨j, hj⟩ := GS.mem_at rfl hb
    rw [hat j] at hj
    exact GS.has_at hj
  have hg2p : upd g p (.pool bs2) p = .pool bs2 := upd_same ..
  have hg2 : ∀ k, k ≠ p → upd g p (.pool bs2) k = g k := fun k hk => upd_ne g _ hk
  have hwf2 : WF R B (upd g p (.pool bs2)) w := hw.upd p _ (Nat.le_refl _) (fun b hb => ⟨(hw.ownH p b (hhas b hb)).1, (hw.ownH p b (hhas b hb)).2, fun k hk hk2 => hk (hw.injH k p b hk2 (hhas b hb))⟩) (fun j k b hj hk => by
    rw [hat j] at hj
    rw [hat k] at hk
    exact swp_inj (hw.nd p _ _ b hj hk))
  have had : Adv R B g w [p, n] [p] R B (upd g p (.pool bs2)) w := by
    refine ⟨hwf2, fun _ h => h, fun _ h => h, rfl, rfl, rfl, Nat.le_refl _, fun _ _ _ => rfl, fun k hk => hg2 k (by simpa using hk), fun k hk b hb => ?_, fun k hk hkX b cur e' hg hh => ⟨cur, hh, rfl⟩⟩
    have : k = p := by simpa using hk
    subst this
    rw [hg2p] at hb
    exact .inr ⟨k, by simp, hhas b hb⟩
  have hlens : lensOf ((rows.set i rq).set q ri) = ((lensOf rows).set i rq.length).set q ri.length := by simp [lensOf, List.map_set]
  have hst := hs.step (us := [(p, .pool e2 (rowsOf enc rows)), (n, .row e (((tcells p (lensOf rows)).set i [.tl p q 0 rq.length]).set q [.tl p i 0 ri.length]))]) (df := [(p, .pool e2 (rowsOf enc ((rows.set i rq).set q ri))), (n, .trow e p (lensOf ((rows.set i rq).set q ri)))]) (W := [p, n]) (X := [p]) (d := none) (v := .tup []) (u := undef) ⟨hp, hn, trivial⟩
    (fun k hk => by
      have : k = p ∨ k = n := by simpa using hk
      rcases this with rfl | rfl
      · exact ⟨.inl (by simp), _, List.mem_cons_self⟩
      · exact ⟨.inr (by simp), _, List.mem_cons_of_mem _ List.mem_cons_self⟩)
    (fun k hk => by
      have : k = (p, .pool e2 (rowsOf enc ((rows.set i rq).set q ri))) ∨ k = (n, .trow e p (lensOf ((rows.set i rq).set q ri))) := by simpa using hk
      rcases this with rfl | rfl
      · exact .inl (by simp)
      · exact .inr (by simp)) rfl (fun k hk => by
      have : k = p := by simpa using hk
      subst this
      exact hp1) had (fun b hb => .inl hb) (fun h => by cases h) (fun k hk => by
      have : k = (p, .pool e2 (rowsOf enc ((rows.set i rq).set q ri))) ∨ k = (n, .trow e p (lensOf ((rows.set i rq).set q ri))) := by simpa using hk
      rcases this with rfl | rfl
      · refine ⟨⟨bs2, hg2p, by simp [bs2, hbl, rowsOf_len]⟩, fun j els2 hj => ?_⟩
        show PRow P w R B ((upd g p (.pool bs2) p).at j) e2 els2
        rw [hg2p, hat j]
        refine hrows _ els2 ?_
        rw [rowsOf, List.getElem?_map, swap_get hi hq] at hj
        rw [rowsOf, List.getElem?_map]
        exact hj
      · show ROw P w R B (upd g p (.pool bs2)) n e (tcells p (lensOf ((rows.set i rq).set q ri)))
        have hgn : upd g p (.pool bs2) n = g n := hg2 n hnp
        have hlen : (tcells p (lensOf ((rows.set i rq).set q ri))).length = (((tcells p (lensOf rows)).set i [.tl p q 0 rq.length]).set q [.tl p i 0 ri.length]).length := by simp [tcells_len, lensOf_len]
        have hcell : ∀ j cs2, (tcells p (lensOf ((rows.set i rq).set q ri)))[j]? = some cs2 → ∃ l, cs2 = [CV.tl p j 0 l] ∧ (((tcells p (lensOf rows)).set i [CV.tl p q 0 rq.length]).set q [CV.tl p i 0 ri.length])[j]? = some [CV.tl p (swp i q j) 0 l] := fun j cs2 hj => by
          obtain ⟨l, hl, rfl⟩ := tcells_inv hj
          refine ⟨l, rfl, ?_⟩
          have hl0 : (lensOf rows)[swp i q j]? = some l := by
            rw [← hl, lensOf, lensOf, List.getElem?_map, List.getElem?_map, swap_get hi hq]
          have hjl : j < (tcells p (lensOf rows)).length := by
            have := (List.getElem?_eq_some_iff.1 hj).1
            simpa [tcells_len, lensOf_len] using this
          rw [List.getElem?_set, List.getElem?_set]
          by_cases h1 : q = j
          · subst h1
            have h7 : swp i q q = i := if_pos rfl
            rw [h7] at hl0 ⊢
            have : ri.length = l := by
              rw [lensOf, List.getElem?_map, hi] at hl0
              simpa using hl0
            simp only [if_true, List.length_set, hjl, this]
          · rw [if_neg h1]
            by_cases h2 : i = j
            · subst h2
              have h7 : swp i q i = q := by unfold swp; rw [if_neg fun e => h1 e.symm, if_pos rfl]
              rw [h7] at hl0 ⊢
              have : rq.length = l := by
                rw [lensOf, List.getElem?_map, hq] at hl0
                simpa using hl0
              simp only [if_true, hjl, this]
            · have h7 : swp i q j = j := by unfold swp; rw [if_neg fun e => h1 e.symm, if_neg fun e => h2 e.symm]
              rw [h7] at hl0 ⊢
              rw [if_neg h2]
              exact tcells_get hl0
        rcases hrn with ⟨h1, h2⟩ | ⟨b, cur, h1, h2, h3, h4, h5⟩
        · exact .inl ⟨hgn.trans h1, List.eq_nil_of_length_eq_zero (by rw [hlen, h2]; rfl)⟩
        · refine .inr ⟨b, cur, hgn.trans h1, h2, fun cs2 hcs2 => ?_, by rw [hlen]; exact h4, fun j k cs2 x2 hj hk => ?_⟩
          · obtain ⟨j, hj⟩ := List.mem_iff_getElem?.1 hcs2
            obtain ⟨l, rfl, h6⟩ := hcell j cs2 hj
            have := h3 _ (List.mem_of_getElem? h6)
            exact this
          · obtain ⟨l, rfl, h6⟩ := hcell j cs2 hj
            cases k with
            | succ k => simp at hk
            | zero =>
              have : x2 = .tl p j 0 l := by simpa using hk.symm
              subst this
              obtain ⟨u, hu, hr⟩ := h5 j 0 _ _ h6 rfl
              refine ⟨u, hu, hr.1, ?_⟩
              have hk2 : (upd g p (.pool bs2) p).at j = (g p).at (swp i q j) := by rw [hg2p, hat j]
              rcases hr.2 with ⟨z1, z2⟩ | z1 | ⟨b2, cap, cur2, e3, z1, z2⟩
              · exact .inl ⟨hk2.trans z1, z2⟩
              · exact .inr (.inl z1)
              · exact .inr (.inr ⟨b2, cap, cur2, e3, hk2.trans z1, z2⟩))
  exact ⟨R, B, _, hst⟩
end
end Go.Fw
