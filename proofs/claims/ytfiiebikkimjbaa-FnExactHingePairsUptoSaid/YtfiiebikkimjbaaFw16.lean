/- The framework, part 16: what may be forgotten of a state; new rows that hold nothing. -/
import Derived.Test.YtfiiebikkimjbaaFw15
import Derived.Test.YtfiiebikkimjbaaFw11
set_option linter.unusedVariables false
set_option linter.unusedSimpArgs false
set_option linter.unnecessarySimpa false
namespace Go.Fw
section
variable {P : Program} {C : Ctx} {σ : Slots} {m : Mem}

theorem RC.junk {w : World} {R B : Nat → Prop} {g : Nat → GS} {x : CV} {v : Value} (h : RC P w R B g x v) : RC P w R B g .junk v := ⟨h.1, trivial⟩
theorem rel_junk {w : World} {R B : Nat → Prop} {g : Nat → GS} {cs : List CV} {k : Nat} {T : Nat → Value → Prop} (h : ∀ (j : Nat) x, cs[j]? = some x → ∃ u, T j u ∧ RC P w R B g x u) : ∀ (j : Nat) x, (cs.set k .junk)[j]? = some x → ∃ u, T j u ∧ RC P w R B g x u := fun j x hj => by
  rw [List.getElem?_set] at hj
  by_cases hk : k = j
  · rw [if_pos hk] at hj
    split at hj
    · injection hj with hj
      subst hj
      rename_i hl
      obtain ⟨u, h1, h2⟩ := h j cs[j] (List.getElem?_eq_getElem (by omega))
      exact ⟨u, h1, h2.junk⟩
    · cases hj
  · rw [if_neg hk] at hj
    exact h j x hj

/-- a state in which one slot is told otherwise -/
theorem St.slot {R B : Nat → Prop} {g : Nat → GS} {a : Act} {w : World} (hs : St P C σ m R B g a w) {t : Nat} {v : AV} (h : RA P w R B g v (a.tmps.getD t undef)) : St P C ((t, v) :: σ) m R B g a w := by
  refine { hs with sl := ?_ }
  intro t' v' hl
  change (bif Nat.beq t t' then some v else lk σ t') = some v' at hl
  cases hb : Nat.beq t t' with
  | true =>
    rw [hb, cond_true] at hl
    injection hl with hl
    subst hl
    rw [← Nat.eq_of_beq_eq_true hb]
    exact h
  | false =>
    rw [hb, cond_false] at hl
    exact hs.sl t' v' hl
theorem St.obj {R B : Nat → Prop} {g : Nat → GS} {a : Act} {w : World} (hs : St P C σ m R B g a w) {n : Nat} {o0 o : Ob} (h0 : lk m n = some o0) (h : RO P w R B g n o) : St P C σ ((n, o) :: m) R B g a w := by
  refine { hs with ob := ?_, ow := ?_ }
  · intro n' o' hl
    change (bif Nat.beq n n' then some o else lk m n') = some o' at hl
    cases hb : Nat.beq n n' with
    | true =>
      rw [hb, cond_true] at hl
      injection hl with hl
      subst hl
      rw [← Nat.eq_of_beq_eq_true hb]
      exact h
    | false =>
      rw [hb, cond_false] at hl
      exact hs.ob n' o' hl
  · intro n' o' b hl hg
    change (bif Nat.beq n n' then some o else lk m n') = some o' at hl
    cases hb : Nat.beq n n' with
    | true =>
      have := Nat.eq_of_beq_eq_true hb
      subst this
      exact hs.ow n o0 b h0 hg
    | false =>
      rw [hb, cond_false] at hl
      exact hs.ow n' o' b hl hg

theorem Ent.junkS (t : Nat) {x : CV} (h : lk σ t = some (Cc x)) : Ent P C σ m ((t, Cc .junk) :: σ) m := fun R B g a w hs =>
  ⟨R, B, g, hs.slot (v := Cc .junk) (RC.junk (x := x) (hs.sl t _ h))⟩
theorem Ent.junkG (t k : Nat) {cs : List CV} (h : lk σ t = some (Ag cs)) : Ent P C σ m ((t, Ag (cs.set k .junk)) :: σ) m := fun R B g a w hs => by
  refine ⟨R, B, g, hs.slot ?_⟩
  obtain ⟨vs, h1, h2, h3⟩ := hs.sl t _ h
  exact ⟨vs, h1, by simpa using h2, rel_junk (T := fun j u => vs[j]? = some u) h3⟩
theorem Ent.junkB (n k : Nat) {e : TypeId} {cs : List CV} (h : lk m n = some (.row e [cs])) : Ent P C σ m σ ((n, .row e [cs.set k .junk]) :: m) := fun R B g a w hs => by
  refine ⟨R, B, g, hs.obj h ?_⟩
  rcases hs.ob n _ h with ⟨h1, h2⟩ | ⟨b, cur, h1, h2, h3, h4, h5⟩
  · cases h2
  · refine .inr ⟨b, cur, h1, h2, fun c hc => ?_, by simpa using h4, fun j i c x hj hx => ?_⟩
    · have : c = cs.set k .junk := by simpa using hc
      subst this
      simpa using h3 cs List.mem_cons_self
    · cases j with
      | succ j => simp at hj
      | zero =>
        simp at hj
        subst hj
        exact rel_junk (T := fun i u => cur[0 * szP P e + i]? = some u) (fun i x hx => h5 0 i cs x rfl hx) i x hx
theorem Ent.nilNew (n : Nat) (e : TypeId) (hn : C.pn.elem n = false) : Ent P C σ m (junkSl [n] σ) ((n, .prow e []) :: junkM [n] m) := fun R B g a w hs =>
  ⟨R, B, upd g n .nil, hs.nilName n (by
    intro h
    rw [List.elem_eq_true_of_mem h] at hn
    cases hn) e⟩

/-! ### told of less lasting memory -/
def QWL : List PV → List PV → Prop
  | [], [] => True
  | p :: r, p' :: r' => QW p p' ∧ QWL r r'
  | _, _ => False
theorem QWL.get : ∀ {l l' : List PV}, QWL l l' → l'.length = l.length ∧ ∀ (k : Nat) p p', l[k]? = some p → l'[k]? = some p' → QW p p'
  | [], [], _ => ⟨rfl, fun k p p' h => by simp at h⟩
  | p :: r, p' :: r', h => by
    obtain ⟨h1, h2⟩ := QWL.get h.2
    refine ⟨by simp [h1], fun k x x' hx hx' => ?_⟩
    cases k with
    | zero =>
      simp at hx hx'
      subst hx
      subst hx'
      exact h.1
    | succ k => exact h2 k x x' (by simpa using hx) (by simpa using hx')
  | [], _ :: _, h => h.elim
  | _ :: _, [], h => h.elim
theorem QW.xsm {α : Type} {enc enc' : α → List PV} (h : ∀ a, QWL (enc a) (enc' a)) {q q' : Bool} (hq : q' = true → q = true) (xs : List α) : QW (.xs q (xs.map enc)) (.xs q' (xs.map enc')) := by
  refine .xs hq (by simp) (fun j cs cs' h1 h2 => ?_) (fun j k cs cs' p p' h1 h2 h3 h4 => ?_)
  · rw [List.getElem?_map] at h1 h2
    cases hx : xs[j]? with
    | none => rw [hx] at h1; cases h1
    | some a =>
      rw [hx] at h1 h2
      injection h1 with h1
      injection h2 with h2
      subst h1
      subst h2
      exact (h a).get.1
  · rw [List.getElem?_map] at h1 h2
    cases hx : xs[j]? with
    | none => rw [hx] at h1; cases h1
    | some a =>
      rw [hx] at h1 h2
      injection h1 with h1
      injection h2 with h2
      subst h1
      subst h2
      exact (h a).get.2 k p p' h3 h4
theorem permP_xs {α : Type} {enc : α → List PV} (h : ∀ a, PermPL (enc a)) (xs : List α) : PermP (.xs true (xs.map enc)) := .xs fun cs hcs p hp => by
  obtain ⟨a, _, rfl⟩ := List.mem_map.1 hcs
  exact (h a).spec p hp

/-! ### rows that are never written again -/
theorem St.freeze {R B : Nat → Prop} {g : Nat → GS} {a : Act} {w : World} (hs : St P C σ m R B g a w) {n : Nat} {e : TypeId} {els : List (List PV)} (ho : lk m n = some (.prow e els)) (hn : n ∉ C.pn) (hU : ∀ b, C.U0 b → ∃ k ∈ C.pn, (C.g0 k).has b) :
    ∃ R' B' g', Adv R B g w [] [n] R' B' g' w ∧ St P C (junkSl [n] σ) (junkM [n] m) R' B' g' a w ∧ ∀ v, RC P w R B g (.loc n 0 els.length) v → RPV w R' B' (.xs true els) v := by
  have hro : ROw P w R B g n e (pvs els) := hs.ob n _ ho
  have hw := hs.wf
  let R' : Nat → Prop := fun b => R b ∨ (g n).has b
  let B' : Nat → Prop := fun b => B b ∨ (g n).has b
  have hne : ∀ k, k ≠ n → upd g n .dead k = g k := fun k hk => upd_ne g _ hk
  have hwf : WF R' B' (upd g n .dead) w := by
    have h0 := hw.upd n .dead (w' := w) (Nat.le_refl _) (fun b hb => hb.elim) (fun i j b hi => by cases hi)
    refine ⟨fun b hb => hb.imp (hw.rb b) id, fun b hb => hb.elim (hw.lt b) fun h => (hw.ownH n b h).2, fun k b hk => ⟨fun hB => ?_, (h0.ownH k b hk).2⟩, h0.injH, h0.nd⟩
    rcases hB with hB | hB
    · exact (h0.ownH k b hk).1 hB
    · by_cases hkn : k = n
      · subst hkn; rw [upd_same] at hk; exact hk.elim
      · rw [hne k hkn] at hk
        exact hkn (hw.injH k n b hk hB)
  have had : Adv R B g w [] [n] R' B' (upd g n .dead) w := by
    refine ⟨hwf, fun _ h => .inl h, fun _ h => .inl h, rfl, rfl, rfl, Nat.le_refl _, fun _ _ _ => rfl, fun k hk => hne k (by simpa using hk), fun k hk b hb => ?_, fun k hk => by cases hk⟩
    have : k = n := by simpa using hk
    subst this
    rw [upd_same] at hb
    exact hb.elim
  refine ⟨R', B', upd g n .dead, had, ?_, fun v hv => ?_⟩
  · refine { hs with wf := hwf, sl := ?_, ob := ?_, ow := ?_, perm := ?_, r0 := ?_, pin := ?_ }
    · intro t v hl
      rw [lk_junkSl] at hl
      cases hv : lk σ t with
      | none => rw [hv] at hl; cases hl
      | some u =>
        rw [hv] at hl
        injection hl with hl
        subst hl
        exact had.ra hw (hs.sl t u hv)
    · intro k o hl
      obtain ⟨hk, o0, h0, rfl⟩ := lk_junkM [n] m k o hl
      exact had.ro hw hk (by simp) (hs.ob k o0 h0)
    · intro k o b hl hg
      obtain ⟨hk, o0, h0, _⟩ := lk_junkM [n] m k o hl
      rw [hne k (by simpa using hk)] at hg
      exact hs.ow k o0 b h0 hg
    · intro b hb
      rcases hb with hb | hb
      · exact hs.perm b hb
      · rcases hs.ow n _ b ho hb with h | h
        · exact .inr h
        · obtain ⟨k, hk, hg⟩ := hU b h
          have := hw.injH k n b (by rw [hs.pin k hk]; exact hg) hb
          subst this
          exact absurd hk hn
    · intro b hb
      exact .inl (hs.r0 b hb)
    · intro k hk
      rw [hne k (fun h => hn (h ▸ hk))]
      exact hs.pin k hk
  · obtain ⟨_, hv⟩ := hv
    rcases hv with ⟨h1, _, h3, h4⟩ | ⟨_, h2, _⟩ | ⟨b, cap, cur, e', k1, k2, k3, k4, k5, k6⟩
    · have : els = [] := List.eq_nil_of_length_eq_zero h3
      subst this
      subst h4
      exact .emp
    · exact absurd rfl h2
    · rcases hro with ⟨h1, _⟩ | ⟨b', cur', h1, h2, h3, h4, h5⟩
      · rw [k1] at h1; cases h1
      · rw [k1] at h1
        injection h1 with h1
        subst h1
        rw [k2] at h2
        injection h2 with h2
        injection h2 with h2 h6 h7
        subst h2
        subst h6
        subst k6
        have hval : ∀ j k cs p, els[j]? = some cs → cs[k]? = some p → ∃ u, cur[j * szP P e' + k]? = some u ∧ RC P w R B g (.pv p) u := fun j k cs p hj hk => by
          have := h5 j k (cs.map .pv) (.pv p) (by simp [pvs, hj]) (by simp [hk])
          exact this
        refine .xs (s := szP P e') (fun j k => cur.getD (j * szP P e' + k) undef) rfl (.inr (GS.has_blk k1)) k3 (fun cs hcs => ?_) (fun j k cs p hj hk => ?_) (fun j k cs p hj hk => ?_)
        · have := h3 (cs.map .pv) (List.mem_map.2 ⟨cs, hcs, rfl⟩)
          simpa using this
        · obtain ⟨u, hu, _⟩ := hval j k cs p hj hk
          rw [Nat.zero_mul, add_lit, Nat.zero_add, row_cell k2, hu]
          simp [Array.getD_eq_getD_getElem?, hu]
        · obtain ⟨u, hu, hr⟩ := hval j k cs p hj hk
          have : cur.getD (j * szP P e' + k) undef = u := by simp [Array.getD_eq_getD_getElem?, hu]
          rw [this]
          exact (had.rc hw (x := .pv p) hr).2
section
variable {α : Type} {enc : α → List PV}
theorem Ent.freezeS (t n : Nat) {e : TypeId} {xs : List α} {len : Nat} (hU : ∀ b, C.U0 b → ∃ k ∈ C.pn, (C.g0 k).has b) (hn : C.pn.elem n = false) (hl : len = xs.length) (h : lk σ t = some (Cc (.loc n 0 len))) (ho : lk m n = some (.prow e (xs.map enc))) :
    Ent P C σ m ((t, Cc (.pv (.xs true (xs.map enc)))) :: junkSl [n] σ) (junkM [n] m) := fun R B g a w hs => by
  subst hl
  obtain ⟨R', B', g', had, hs', hv⟩ := hs.freeze ho (fun h => by rw [List.elem_eq_true_of_mem h] at hn; cases hn) hU
  have hr : RC P w R B g (.loc n 0 xs.length) (a.tmps.getD t undef) := hs.sl t _ h
  exact ⟨R', B', g', hs'.slot (v := Cc (.pv (.xs true (xs.map enc)))) ⟨hr.1, hv _ (by rw [List.length_map]; exact hr)⟩⟩
theorem Ent.nilRO (t : Nat) (h : lk σ t = some (Sv nilV)) : Ent P C σ m ((t, Cc (.pv (.xs true ([] : List (List PV))))) :: σ) m := fun R B g a w hs => by
  refine ⟨R, B, g, hs.slot (v := Cc (.pv (.xs true []))) ?_⟩
  have hr := hs.sl t _ h
  rw [sc_inv hr]
  exact ⟨rfl, .emp⟩
end
end
end Go.Fw
