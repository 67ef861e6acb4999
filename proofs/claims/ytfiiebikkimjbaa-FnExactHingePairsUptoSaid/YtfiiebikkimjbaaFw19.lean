/- The framework, part 19: a row comes into a pool; rows of a pool change places; an empty pool. -/
import Derived.Test.YtfiiebikkimjbaaFw18
set_option linter.unusedVariables false
set_option linter.unusedSimpArgs false
set_option linter.unnecessarySimpa false
namespace Go.Fw
section
variable {P : Program} {C : Ctx} {σ : Slots} {mm : Mem}

/-- a cell of the outer row, before and after the row m became the pool's k-th -/
def adC (p k m : Nat) (x x2 : CV) : Prop := (∃ o l, x = .loc m o l ∧ x2 = .tl p k o l) ∨ (x2 = x ∧ ((∃ q o l, q ≠ k ∧ x = .tl p q o l) ∨ nrC [m, p] x = true))

def obS : Option Nat → GS
  | some b => .blk b
  | none => .nil

theorem Ent.adoptG {k n m p : Nat} {e e2 : TypeId} {els : List (List PV)} {rows rows2 : List (List (List PV))} {cells cells2 : List (List CV)}
    (hm : lk mm m = some (.prow e2 els)) (hp : lk mm p = some (.pool e2 rows)) (hn : lk mm n = some (.row e cells))
    (hd : (!Nat.beq p m && !Nat.beq n p && !Nat.beq n m && !C.pn.elem m && !C.pn.elem p) = true)
    (hbs : ∀ (bs : List (Option Nat)) ob, bs.length = rows.length → ∃ bs2 : List (Option Nat), bs2.length = rows2.length ∧ ∀ j, (GS.pool bs2).at j = if j = k then obS ob else (GS.pool bs).at j)
    (hr2 : ∀ (j : Nat) els2, rows2[j]? = some els2 → (j = k ∧ els2 = els) ∨ (j ≠ k ∧ rows[j]? = some els2))
    (hl : cells2.length = cells.length) (hc : ∀ (j : Nat) cs2, cells2[j]? = some cs2 → ∃ cs, cells[j]? = some cs ∧ cs2.length = cs.length ∧ ∀ (i : Nat) x2, cs2[i]? = some x2 → ∃ x, cs[i]? = some x ∧ adC p k m x x2) :
    Ent P C σ mm (junkSl [m, p] σ) ((p, .pool e2 rows2) :: (n, .row e cells2) :: junkM [m, p] mm) := fun R B g a w hs => by
  simp only [Bool.and_eq_true, Bool.not_eq_true'] at hd
  obtain ⟨⟨⟨⟨hpm, hnp⟩, hnm⟩, hm1⟩, hp1⟩ := hd
  have hpm := Nat.ne_of_beq_eq_false hpm
  have hnp := Nat.ne_of_beq_eq_false hnp
  have hnm := Nat.ne_of_beq_eq_false hnm
  have hm1 := notin_of_elem hm1
  have hp1 := notin_of_elem hp1
  have hw := hs.wf
  have hrm : PRow P w R B (g m) e2 els := PRow.of (hs.ob m _ hm)
  obtain ⟨⟨bs, hgp, hbl⟩, hrows⟩ := hs.ob p _ hp
  have hrn : ROw P w R B g n e cells := hs.ob n _ hn
  obtain ⟨ob, hob⟩ : ∃ ob, g m = obS ob := by
    rcases hrm with ⟨h1, _⟩ | ⟨b, _, h1, _⟩
    · exact ⟨none, h1⟩
    · exact ⟨some b, h1⟩
  obtain ⟨bs2, hbl2, hat⟩ := hbs bs ob hbl
  have hat' : ∀ j, (GS.pool bs2).at j = if j = k then g m else (g p).at j := fun j => by rw [hat j, hob, hgp]
  have hhas : ∀ b, (GS.pool bs2).has b → (g p).has b ∨ (g m).has b := fun b hb => by
    obtain ⟨j, hj⟩ := GS.mem_at rfl hb
    rw [hat' j] at hj
    split at hj
    · exact .inr (GS.has_blk hj)
    · exact .inl (GS.has_at hj)
  let g1 : Nat → GS := upd g m .dead
  have hwf1 : WF R B g1 w := hw.upd m .dead (Nat.le_refl _) (fun b hb => hb.elim) (fun i j b hi => by cases hi)
  have hg1 : ∀ q, q ≠ m → g1 q = g q := fun q hq => upd_ne g _ hq
  let g2 : Nat → GS := upd g1 p (.pool bs2)
  have hg2p : g2 p = .pool bs2 := upd_same ..
  have hg2m : g2 m = .dead := (upd_ne g1 _ (fun e => hpm e.symm)).trans (upd_same ..)
  have hg2 : ∀ q, q ≠ m → q ≠ p → g2 q = g q := fun q h1 h2 => (upd_ne g1 _ h2).trans (hg1 q h1)
  have hwf2 : WF R B g2 w := hwf1.upd p _ (Nat.le_refl _) (fun b hb => by
    rcases hhas b hb with h | h
    · refine ⟨(hw.ownH p b h).1, (hw.ownH p b h).2, fun q hq hq2 => ?_⟩
      by_cases e : q = m
      · subst e
        have : g1 q = .dead := upd_same ..
        rw [this] at hq2; exact hq2
      · rw [hg1 q e] at hq2
        exact hq (hw.injH q p b hq2 h)
    · refine ⟨(hw.ownH m b h).1, (hw.ownH m b h).2, fun q hq hq2 => ?_⟩
      by_cases e : q = m
      · subst e
        have : g1 q = .dead := upd_same ..
        rw [this] at hq2; exact hq2
      · rw [hg1 q e] at hq2
        exact e (hw.injH q m b hq2 h)) (fun i j b hi hj => by
    rw [hat' i] at hi
    rw [hat' j] at hj
    split at hi <;> split at hj
    · omega
    · exact absurd (hw.injH m p b (GS.has_blk hi) (GS.has_at hj)).symm hpm
    · exact absurd (hw.injH m p b (GS.has_blk hj) (GS.has_at hi)).symm hpm
    · exact hw.nd p i j b hi hj)
  have had : Adv R B g w [m, p, n] [m, p] R B g2 w := by
    refine ⟨hwf2, fun _ h => h, fun _ h => h, rfl, rfl, rfl, Nat.le_refl _, fun _ _ _ => rfl, fun q hq => ?_, fun q hq b hb => ?_, fun q hq hqX b cur e' hg hh => ⟨cur, hh, rfl⟩⟩
    · simp at hq
      exact hg2 q hq.1 hq.2
    · have : q = m ∨ q = p := by simpa using hq
      rcases this with rfl | rfl
      · rw [hg2m] at hb; exact hb.elim
      · rw [hg2p] at hb
        rcases hhas b hb with h | h
        · exact .inr ⟨q, by simp, h⟩
        · exact .inr ⟨m, by simp, h⟩
  have hst := hs.step (us := [(m, .prow e2 els), (p, .pool e2 rows), (n, .row e cells)]) (df := [(p, .pool e2 rows2), (n, .row e cells2)]) (W := [m, p, n]) (X := [m, p]) (d := none) (v := .tup []) (u := undef) ⟨hm, hp, hn, trivial⟩
    (fun q hq => by
      have : q = m ∨ q = p ∨ q = n := by simpa using hq
      rcases this with rfl | rfl | rfl
      · exact ⟨.inl (by simp), _, List.mem_cons_self⟩
      · exact ⟨.inl (by simp), _, List.mem_cons_of_mem _ List.mem_cons_self⟩
      · exact ⟨.inr (by simp), _, List.mem_cons_of_mem _ (List.mem_cons_of_mem _ List.mem_cons_self)⟩)
    (fun q hq => by
      have : q = (p, .pool e2 rows2) ∨ q = (n, .row e cells2) := by simpa using hq
      rcases this with rfl | rfl
      · exact .inl (by simp)
      · exact .inr (by simp)) rfl (fun q hq => by
      have : q = m ∨ q = p := by simpa using hq
      rcases this with rfl | rfl
      · exact hm1
      · exact hp1) had (fun b hb => .inl hb) (fun h => by cases h) (fun q hq => by
      have : q = (p, .pool e2 rows2) ∨ q = (n, .row e cells2) := by simpa using hq
      rcases this with rfl | rfl
      · refine ⟨⟨bs2, hg2p, hbl2⟩, fun j els2 hj => ?_⟩
        show PRow P w R B ((g2 p).at j) e2 els2
        rw [hg2p, hat' j]
        rcases hr2 j els2 hj with ⟨h1, h2⟩ | ⟨h1, h2⟩
        · rw [if_pos h1, h2]; exact hrm
        · rw [if_neg h1]; exact hrows j els2 h2
      · show ROw P w R B g2 n e cells2
        have hgn : g2 n = g n := hg2 n hnm hnp
        rcases hrn with ⟨h1, h2⟩ | ⟨b, cur, h1, h2, h3, h4, h5⟩
        · exact .inl ⟨hgn.trans h1, List.eq_nil_of_length_eq_zero (by rw [hl, h2]; rfl)⟩
        · refine .inr ⟨b, cur, hgn.trans h1, h2, fun cs2 hcs2 => ?_, by rw [hl]; exact h4, fun j i cs2 x2 hj hi => ?_⟩
          · obtain ⟨j, hj⟩ := List.mem_iff_getElem?.1 hcs2
            obtain ⟨cs, q1, q2, _⟩ := hc j cs2 hj
            rw [q2]
            exact h3 cs (List.mem_of_getElem? q1)
          · obtain ⟨cs, q1, _, q3⟩ := hc j cs2 hj
            obtain ⟨x, q4, q5⟩ := q3 i x2 hi
            obtain ⟨u, hu, hr⟩ := h5 j i cs x q1 q4
            refine ⟨u, hu, ?_⟩
            rcases q5 with ⟨o, l, rfl, rfl⟩ | ⟨rfl, ⟨q, o, l, hq, rfl⟩ | hz⟩
            · refine ⟨hr.1, ?_⟩
              have hk : (g2 p).at k = g m := by rw [hg2p, hat' k, if_pos rfl]
              rcases hr.2 with ⟨z1, z2⟩ | z1 | ⟨b2, cap, cur2, e3, z1, z2⟩
              · exact .inl ⟨hk.trans z1, z2⟩
              · exact .inr (.inl z1)
              · exact .inr (.inr ⟨b2, cap, cur2, e3, hk.trans z1, z2⟩)
            · refine ⟨hr.1, ?_⟩
              have hk : (g2 p).at q = (g p).at q := by rw [hg2p, hat' q, if_neg hq]
              rcases hr.2 with ⟨z1, z2⟩ | z1 | ⟨b2, cap, cur2, e3, z1, z2⟩
              · exact .inl ⟨hk.trans z1, z2⟩
              · exact .inr (.inl z1)
              · exact .inr (.inr ⟨b2, cap, cur2, e3, hk.trans z1, z2⟩)
            · exact RC.av hz (fun q hq => by
                simp at hq
                exact hg2 q hq.1 hq.2) hr)
  exact ⟨R, B, g2, hst⟩
end
end Go.Fw
