/- The framework, part 24: a pool's row taken out; a pool that is never written again. -/
import Derived.Test.YtfiiebikkimjbaaFw23
set_option linter.unusedVariables false
set_option linter.unusedSimpArgs false
set_option linter.unnecessarySimpa false
namespace Go.Fw
section
variable {P : Program} {C : Ctx} {σ : Slots} {mm : Mem} {α : Type} {enc : α → List PV}

theorem LT.us_swap {o : Oper} {ins : List (Operand × AV)} {x y : Nat × Ob} {us df : Mem} {v : AV} {W X : List Nat} (h : LT P o ins (x :: y :: us) v df W X) : LT P o ins (y :: x :: us) v df W X :=
  h.conv (fun _ _ _ _ h q hq => h q (by
    rcases List.mem_cons.1 hq with rfl | hq
    · exact List.mem_cons_of_mem _ List.mem_cons_self
    · rcases List.mem_cons.1 hq with rfl | hq
      · exact List.mem_cons_self
      · exact List.mem_cons_of_mem _ (List.mem_cons_of_mem _ hq))) fun _ _ _ _ h => h
/-- an operation that reads a row, at a pool's row -/
theorem LT.tfocusR {o : Oper} {p k m : Nat} {ins : List (Operand × AV)} {us0 df0 : Mem} {v : AV} {W X : List Nat} {e : TypeId} {r : List α} {rows : List (List α)}
    (h : LT P o ins ((m, .prow e (r.map enc)) :: us0) v df0 W X) (hk : rows[k]? = some r) (hc : focB p m ins us0 v df0 W X = true) :
    LT P o (ins.map fun q => (q.1, bkA p k m q.2)) ((p, .pool e (rowsOf enc rows)) :: us0) (bkA p k m v) df0 (W.map (swN m p)) (m :: X) :=
  LT.focusR (p := p) (k := k) (rows := rowsOf enc rows) h (rowsOf_get hk) hc

/-- a slot's row leaves its pool -/
theorem Ent.takeS (t p k m : Nat) {e2 : TypeId} {rows : List (List α)} {r : List α} {len : Nat} (hl : len = r.length) (h : lk σ t = some (Cc (.tl p k 0 len))) (hp : lk mm p = some (.pool e2 (rowsOf enc rows))) (hk : rows[k]? = some r)
    (hd : (!Nat.beq p m && !C.pn.elem m && !C.pn.elem p) = true) :
    Ent P C σ mm ((t, Cc (.loc m 0 len)) :: junkSl [m, p] σ) ((m, .prow e2 (r.map enc)) :: (p, .pool e2 (rowsOf enc (rows.set k []))) :: junkM [m, p] mm) := fun R B g a w hs => by
  subst hl
  simp only [Bool.and_eq_true, Bool.not_eq_true'] at hd
  obtain ⟨⟨hpm, hm1⟩, hp1⟩ := hd
  have hpm := Nat.ne_of_beq_eq_false hpm
  have hm1 := notin_of_elem hm1
  have hp1 := notin_of_elem hp1
  have hw := hs.wf
  obtain ⟨⟨bs, hgp, hbl⟩, hrows⟩ := hs.ob p _ hp
  have hrm := hrows k _ (rowsOf_get hk)
  have had : Adv R B g w [p] [m, p] R B (foG p k m g) w := by
    refine ⟨foG_wf hw hgp hpm, fun _ h => h, fun _ h => h, rfl, rfl, rfl, Nat.le_refl _, fun _ _ _ => rfl, fun q hq => foG_o hq, fun q hq b hb => ?_, fun q hq hqX => ?_⟩
    · have : q = m ∨ q = p := by simpa using hq
      rcases this with rfl | rfl
      · rw [foG_m] at hb
        exact .inr ⟨p, by simp, GS.has_at (GS.at_has hb)⟩
      · rw [foG_p hpm] at hb
        exact .inr ⟨q, by simp, (GS.hole_has hgp hb).1⟩
    · have : q = p := by simpa using hq
      subst this
      exact absurd (by simp) hqX
  have hst := hs.step (us := [(p, .pool e2 (rowsOf enc rows))]) (df := [(m, .prow e2 (r.map enc)), (p, .pool e2 (rowsOf enc (rows.set k [])))]) (W := [p]) (X := [m, p]) (d := none) (v := .tup []) (u := undef) ⟨hp, trivial⟩
    (fun q hq => by
      have : q = p := by simpa using hq
      subst this
      exact ⟨.inl (by simp), _, List.mem_cons_self⟩)
    (fun q hq => by
      have : q = (m, .prow e2 (r.map enc)) ∨ q = (p, .pool e2 (rowsOf enc (rows.set k []))) := by simpa using hq
      rcases this with rfl | rfl
      · exact .inl (by simp)
      · exact .inl (by simp)) rfl (fun q hq => by
      have : q = m ∨ q = p := by simpa using hq
      rcases this with rfl | rfl
      · exact hm1
      · exact hp1) had (fun b hb => .inl hb) (fun h => by cases h) (fun q hq => by
      have : q = (m, .prow e2 (r.map enc)) ∨ q = (p, .pool e2 (rowsOf enc (rows.set k []))) := by simpa using hq
      rcases this with rfl | rfl
      · exact hrm.row foG_m
      · refine ⟨⟨bs.set k none, by rw [foG_p hpm, hgp]; rfl, by simpa [rowsOf_len] using hbl⟩, fun j els2 hj => ?_⟩
        show PRow P w R B ((foG p k m g p).at j) e2 els2
        rw [foG_p hpm]
        have e1 : rowsOf enc (rows.set k []) = (rowsOf enc rows).set k [] := by simp [rowsOf, List.map_set]
        rw [e1, List.getElem?_set] at hj
        by_cases hjk : k = j
        · subst hjk
          rw [if_pos rfl] at hj
          split at hj
          · injection hj with hj
            subst hj
            rename_i hl
            refine .inl ⟨?_, rfl⟩
            rw [hgp]
            simp only [GS.hole, GS.at, List.getElem?_set, if_true]
            rw [if_pos (by omega)]
          · cases hj
        · rw [if_neg hjk] at hj
          rw [GS.hole_at fun e => hjk e.symm]
          exact hrows j els2 hj)
  have hr : RC P w R B g (.tl p k 0 r.length) (a.tmps.getD t undef) := hs.sl t _ h
  refine ⟨R, B, foG p k m g, hst.slot (v := Cc (.loc m 0 r.length)) ⟨hr.1, ?_⟩⟩
  rcases hr.2 with ⟨z1, z2⟩ | z1 | ⟨b2, cap, cur2, e3, z1, z2⟩
  · exact .inl ⟨foG_m.trans z1, z2⟩
  · exact .inr (.inl z1)
  · exact .inr (.inr ⟨b2, cap, cur2, e3, foG_m.trans z1, z2⟩)

/-- an object is given up: its blocks are never written again -/
theorem St.giveUp {R B : Nat → Prop} {g : Nat → GS} {a : Act} {w : World} (hs : St P C σ mm R B g a w) {n : Nat} {o : Ob} (ho : lk mm n = some o) (hn : n ∉ C.pn) (hU : ∀ b, C.U0 b → ∃ k ∈ C.pn, (C.g0 k).has b) :
    Adv R B g w [] [n] (fun b => R b ∨ (g n).has b) (fun b => B b ∨ (g n).has b) (upd g n .dead) w ∧ St P C (junkSl [n] σ) (junkM [n] mm) (fun b => R b ∨ (g n).has b) (fun b => B b ∨ (g n).has b) (upd g n .dead) a w := by
  have hw := hs.wf
  have hne : ∀ k, k ≠ n → upd g n .dead k = g k := fun k hk => upd_ne g _ hk
  have hwf : WF (fun b => R b ∨ (g n).has b) (fun b => B b ∨ (g n).has b) (upd g n .dead) w := by
    have h0 := hw.upd n .dead (w' := w) (Nat.le_refl _) (fun b hb => hb.elim) (fun i j b hi => by cases hi)
    refine ⟨fun b hb => hb.imp (hw.rb b) id, fun b hb => hb.elim (hw.lt b) fun h => (hw.ownH n b h).2, fun k b hk => ⟨fun hB => ?_, (h0.ownH k b hk).2⟩, h0.injH, h0.nd⟩
    rcases hB with hB | hB
    · exact (h0.ownH k b hk).1 hB
    · by_cases hkn : k = n
      · subst hkn; rw [upd_same] at hk; exact hk.elim
      · rw [hne k hkn] at hk
        exact hkn (hw.injH k n b hk hB)
  have had : Adv R B g w [] [n] (fun b => R b ∨ (g n).has b) (fun b => B b ∨ (g n).has b) (upd g n .dead) w := by
    refine ⟨hwf, fun _ h => .inl h, fun _ h => .inl h, rfl, rfl, rfl, Nat.le_refl _, fun _ _ _ => rfl, fun k hk => hne k (by simpa using hk), fun k hk b hb => ?_, fun k hk => by cases hk⟩
    have : k = n := by simpa using hk
    subst this
    rw [upd_same] at hb
    exact hb.elim
  refine ⟨had, ?_⟩
  refine { hs with wf := hwf, sl := ?_, ob := ?_, ow := ?_, perm := ?_, r0 := ?_, pin := ?_ }
  · intro t v hl
    rw [lk_junkSl] at hl
    cases hv : lk σ t with
    | none => rw [hv] at hl; cases hl
    | some u =>
      rw [hv] at hl
      injection hl with hl
      subst hl
      exact had.ra hw (hs.sl t u hv)
  · intro k o hl
    obtain ⟨hk, o0, h0, rfl⟩ := lk_junkM [n] mm k o hl
    exact had.ro hw hk (by simp) (hs.ob k o0 h0)
  · intro k o b hl hg
    obtain ⟨hk, o0, h0, _⟩ := lk_junkM [n] mm k o hl
    rw [hne k (by simpa using hk)] at hg
    exact hs.ow k o0 b h0 hg
  · intro b hb
    rcases hb with hb | hb
    · exact hs.perm b hb
    · rcases hs.ow n _ b ho hb with h | h
      · exact .inr h
      · obtain ⟨k, hk, hg⟩ := hU b h
        have := hw.injH k n b (by rw [hs.pin k hk]; exact hg) hb
        subst this
        exact absurd hk hn
  · intro b hb
    exact .inl (hs.r0 b hb)
  · intro k hk
    rw [hne k (fun h => hn (h ▸ hk))]
    exact hs.pin k hk

/-- the rows of a pool are never written again: the outer row's cells are values -/
theorem Ent.freezeP (n p : Nat) {e e2 : TypeId} {rows : List (List α)} (hU : ∀ b, C.U0 b → ∃ k ∈ C.pn, (C.g0 k).has b) (hd : (!Nat.beq n p && !C.pn.elem p) = true) (hn : lk mm n = some (.trow e p (lensOf rows))) (hp : lk mm p = some (.pool e2 (rowsOf enc rows))) :
    Ent P C σ mm (junkSl [p] σ) ((n, .prow e (rows.map fun r => [PV.xs true (r.map enc)])) :: junkM [p] mm) := fun R B g a w hs => by
  simp only [Bool.and_eq_true, Bool.not_eq_true'] at hd
  have hnp := Nat.ne_of_beq_eq_false hd.1
  have hp1 := notin_of_elem hd.2
  have hw := hs.wf
  obtain ⟨⟨bs, hgp, hbl⟩, hrows⟩ := hs.ob p _ hp
  have hrn : ROw P w R B g n e (tcells p (lensOf rows)) := hs.ob n _ hn
  obtain ⟨had, hs'⟩ := hs.giveUp hp hp1 hU
  have hgn : upd g p .dead n = g n := upd_ne g _ hnp
  refine ⟨_, _, _, hs'.obj (n := n) (o := .prow e (rows.map fun r => [PV.xs true (r.map enc)])) (o0 := junkO [p] (.trow e p (lensOf rows))) ?_ ?_⟩
  · rw [lk_junkM', if_neg (by simpa using hnp), hn]; rfl
  · show ROw P w _ _ _ n e (pvs (rows.map fun r => [PV.xs true (r.map enc)]))
    rcases hrn with ⟨h1, h2⟩ | ⟨b, cur, h1, h2, h3, h4, h5⟩
    · refine .inl ⟨hgn.trans h1, ?_⟩
      have : (tcells p (lensOf rows)).length = 0 := by rw [h2]; rfl
      rw [tcells_len, lensOf_len] at this
      rw [List.eq_nil_of_length_eq_zero this]; rfl
    · have hsz : ∀ (j : Nat) (r : List α), rows[j]? = some r → szP P e = 1 := fun j r hj => by
        have := h3 _ (List.mem_of_getElem? (tcells_get (p := p) (lens := lensOf rows) (j := j) (l := r.length) (by rw [lensOf, List.getElem?_map, hj]; rfl)))
        simpa using this.symm
      refine .inr ⟨b, cur, hgn.trans h1, h2, fun cs hcs => ?_, by simpa [pvs, tcells_len, lensOf_len] using h4, fun j k cs x hj hk => ?_⟩
      · obtain ⟨j, hj⟩ := List.mem_iff_getElem?.1 hcs
        simp only [pvs, List.getElem?_map] at hj
        cases hr : rows[j]? with
        | none => rw [hr] at hj; cases hj
        | some r =>
          rw [hr] at hj
          injection hj with hj
          subst hj
          rw [hsz j r hr]; rfl
      · simp only [pvs, List.getElem?_map] at hj
        cases hr : rows[j]? with
        | none => rw [hr] at hj; cases hj
        | some r =>
          rw [hr] at hj
          injection hj with hj
          subst hj
          cases k with
          | succ k => simp at hk
          | zero =>
            have : x = .pv (.xs true (r.map enc)) := by simpa using hk.symm
            subst this
            obtain ⟨u, hu, hru⟩ := h5 j 0 _ (.tl p j 0 r.length) (tcells_get (by rw [lensOf, List.getElem?_map, hr]; rfl)) rfl
            refine ⟨u, hu, hru.1, ?_⟩
            have hrow := hrows j _ (rowsOf_get hr)
            show RPV w _ _ (.xs true (r.map enc)) u
            rcases hru.2 with ⟨z1, z2, z3, z4⟩ | ⟨_, z2, _⟩ | ⟨b2, cap, cur2, e3, z1, z2, z3, z4, z5, z6⟩
            · have : r = [] := List.eq_nil_of_length_eq_zero z3
              subst this
              subst z4
              exact .emp
            · exact absurd rfl z2
            · rcases hrow with ⟨y1, _⟩ | ⟨b3, cur3, y1, y2, y3, y4, y5⟩
              · rw [z1] at y1; cases y1
              · rw [z1] at y1
                injection y1 with y1
                subst y1
                rw [z2] at y2
                injection y2 with y2
                injection y2 with y2 y6 y7
                subst y2
                subst y6
                subst z6
                refine .xs (s := szP P e3) (fun j k => cur2.getD (j * szP P e3 + k) undef) (by simp) (.inr (GS.has_at z1)) (by simpa using z3) y3 (fun j k cs q hj hk => ?_) (fun j k cs q hj hk => ?_)
                · obtain ⟨u2, hu2, _⟩ := y5 j k cs q hj hk
                  rw [Nat.zero_mul, add_lit, Nat.zero_add, row_cell z2, hu2]
                  simp [Array.getD_eq_getD_getElem?, hu2]
                · obtain ⟨u2, hu2, hr2⟩ := y5 j k cs q hj hk
                  have : cur2.getD (j * szP P e3 + k) undef = u2 := by simp [Array.getD_eq_getD_getElem?, hu2]
                  rw [this]
                  exact had.pv hw hr2
/-- a tree that is never written again -/
theorem Ent.freezeT (t n p : Nat) {e e2 : TypeId} {rows : List (List α)} {encL : List α → List PV} {len : Nat} (hU : ∀ b, C.U0 b → ∃ k ∈ C.pn, (C.g0 k).has b) (hd : (!Nat.beq n p && !C.pn.elem p && !C.pn.elem n) = true) (hE : ∀ r, encL r = [.xs true (r.map enc)])
    (hl : len = rows.length) (h : lk σ t = some (Cc (.loc n 0 len))) (hn : lk mm n = some (.trow e p (lensOf rows))) (hp : lk mm p = some (.pool e2 (rowsOf enc rows))) :
    Ent P C σ mm ((t, Cc (.pv (.xs true (rows.map encL)))) :: junkSl [n] (junkSl [p] σ)) (junkM [n] ((n, .prow e (rows.map encL)) :: junkM [p] mm)) := by
  simp only [Bool.and_eq_true] at hd
  have he : (fun r : List α => [PV.xs true (r.map enc)]) = encL := funext fun r => (hE r).symm
  have h1 := Ent.freezeP (P := P) (C := C) (σ := σ) n p hU (by rw [hd.1.1, hd.1.2]; rfl) hn hp
  rw [he] at h1
  refine h1.trans (Ent.freezeS (e := e) t n hU (by simpa using hd.2) hl ?_ ?_)
  · rw [lk_junkSl, h]
    show some (junkA [p] (Cc (.loc n 0 len))) = _
    have : [p].elem n = false := by
      have := Nat.ne_of_beq_eq_false (by simpa using hd.1.1 : Nat.beq n p = false)
      simp [this]
    show some (AV.s (.c (bif [p].elem n then CV.junk else .loc n 0 len))) = _
    rw [this]; rfl
  · show (bif Nat.beq n n then _ else _) = _
    rw [Nat.beq_refl]; rfl
end
end Go.Fw
