/- The framework, part 16: what may be forgotten of a state; new rows that hold nothing. -/
import Derived.Test.YtoedmjkipecloaaFw15
import Derived.Test.YtoedmjkipecloaaFw11
set_option linter.unusedVariables false
set_option linter.unusedSimpArgs false
set_option linter.unnecessarySimpa false
namespace Go.Fw
section
variable {P : Program} {C : Ctx} {σ : Slots} {m : Mem}

theorem RC.junk {w : World} {R B : Nat → Prop} {g : Nat → GS} {x : CV} {v : Value} (h : RC P w R B g x v) : RC P w R B g .junk v := ⟨h.1, trivial⟩
theorem rel_junk {w : World} {R B : Nat → Prop} {g : Nat → GS} {cs : List CV} {k : Nat} {T : Nat → Value → Prop} (h : ∀ (j : Nat) x, cs[j]? = some x → ∃ u, T j u ∧ RC P w R B g x u) : ∀ (j : Nat) x, (cs.set k .junk)[j]? = some x → ∃ u, T j u ∧ RC P w R B g x u := fun j x hj => by
  rw [List.getElem?_set] at hj
  by_cases hk : k = j
  · rw [if_pos hk] at hj
    split at hj
    · injection hj with hj
      subst hj
      rename_i hl
      obtain ⟨u, h1, h2⟩ := h j cs[j] (List.getElem?_eq_getElem (by omega))
      exact ⟨u, h1, h2.junk⟩
    · cases hj
  · rw [if_neg hk] at hj
    exact h j x hj

/-- a state in which one slot is told otherwise -/
theorem St.slot {R B : Nat → Prop} {g : Nat → GS} {a : Act} {w : World} (hs : St P C σ m R B g a w) {t : Nat} {v : AV} (h : RA P w R B g v (a.tmps.getD t undef)) : St P C ((t, v) :: σ) m R B g a w := by
  refine { hs with sl := ?_ }
  intro t' v' hl
  change (bif Nat.beq t t' then some v else lk σ t') = some v' at hl
  cases hb : Nat.beq t t' with
  | true =>
    rw [hb, cond_true] at hl
    injection hl with hl
    subst hl
    rw [← Nat.eq_of_beq_eq_true hb]
    exact h
  | false =>
    rw [hb, cond_false] at hl
    exact hs.sl t' v' hl
theorem St.obj {R B : Nat → Prop} {g : Nat → GS} {a : Act} {w : World} (hs : St P C σ m R B g a w) {n : Nat} {o0 o : Ob} (h0 : lk m n = some o0) (h : RO P w R B g n o) : St P C σ ((n, o) :: m) R B g a w := by
  refine { hs with ob := ?_, ow := ?_ }
  · intro n' o' hl
    change (bif Nat.beq n n' then some o else lk m n') = some o' at hl
    cases hb : Nat.beq n n' with
    | true =>
      rw [hb, cond_true] at hl
      injection hl with hl
      subst hl
      rw [← Nat.eq_of_beq_eq_true hb]
      exact h
    | false =>
      rw [hb, cond_false] at hl
      exact hs.ob n' o' hl
  · intro n' o' b hl hg
    change (bif Nat.beq n n' then some o else lk m n') = some o' at hl
    cases hb : Nat.beq n n' with
    | true =>
      have := Nat.eq_of_beq_eq_true hb
      subst this
      exact hs.ow n o0 b h0 hg
    | false =>
      rw [hb, cond_false] at hl
      exact hs.ow n' o' b hl hg

theorem Ent.junkS (t : Nat) {x : CV} (h : lk σ t = some (Cc x)) : Ent P C σ m ((t, Cc .junk) :: σ) m := fun R B g a w hs =>
  ⟨R, B, g, hs.slot (v := Cc .junk) (RC.junk (x := x) (hs.sl t _ h))⟩
theorem Ent.junkG (t k : Nat) {cs : List CV} (h : lk σ t = some (Ag cs)) : Ent P C σ m ((t, Ag (cs.set k .junk)) :: σ) m := fun R B g a w hs => by
  refine ⟨R, B, g, hs.slot ?_⟩
  obtain ⟨vs, h1, h2, h3⟩ := hs.sl t _ h
  exact ⟨vs, h1, by simpa using h2, rel_junk (T := fun j u => vs[j]? = some u) h3⟩
theorem Ent.junkB (n k : Nat) {e : TypeId} {cs : List CV} (h : lk m n = some (.row e [cs])) : Ent P C σ m σ ((n, .row e [cs.set k .junk]) :: m) := fun R B g a w hs => by
  refine ⟨R, B, g, hs.obj h ?_⟩
  rcases hs.ob n _ h with ⟨h1, h2⟩ | ⟨b, cur, h1, h2, h3, h4, h5⟩
  · cases h2
  · refine .inr ⟨b, cur, h1, h2, fun c hc => ?_, by simpa using h4, fun j i c x hj hx => ?_⟩
    · have : c = cs.set k .junk := by simpa using hc
      subst this
      simpa using h3 cs List.mem_cons_self
    · cases j with
      | succ j => simp at hj
      | zero =>
        simp at hj
        subst hj
        exact rel_junk (T := fun i u => cur[0 * szP P e + i]? = some u) (fun i x hx => h5 0 i cs x rfl hx) i x hx
theorem Ent.nilNew (n : Nat) (e : TypeId) (hn : C.pn.elem n = false) : Ent P C σ m (junkSl [n] σ) ((n, .prow e []) :: junkM [n] m) := fun R B g a w hs =>
  ⟨R, B, upd g n .nil, hs.nilName n (by
    intro h
    rw [List.elem_eq_true_of_mem h] at hn
    cases hn) e⟩
end
end Go.Fw
