/- The framework, part 11: a name replaced by another in a state; a row that is not written any more becomes read-only for good. -/
import Derived.Test.YtfiiebikkimjbaaFw10
set_option linter.unusedVariables false
set_option linter.unusedSimpArgs false
set_option linter.unnecessarySimpa false
namespace Go.Fw

def mvN (n k j : Nat) : Nat := bif Nat.beq j n then k else j
def mvC (n k : Nat) : CV → CV
  | .loc j o l => .loc (mvN n k j) o l
  | .pl j o => .pl (mvN n k j) o
  | .fn f caps => .fn f (caps.map (mvN n k))
  | .mref j => .mref (mvN n k j)
  | .tl j i o l => .tl (mvN n k j) i o l
  | .tpl j i o => .tpl (mvN n k j) i o
  | x => x
def mvS (n k : Nat) : SV → SV
  | .c x => .c (mvC n k x)
  | .agg cs => .agg (cs.map (mvC n k))
def mvA (n k : Nat) : AV → AV
  | .s x => .s (mvS n k x)
  | .tup xs => .tup (xs.map (mvS n k))
def mvO (n k : Nat) : Ob → Ob
  | .row e els => .row e (els.map (·.map (mvC n k)))
  | .prow e els => .prow e els
  | .mp es => .mp es
  | .pool e rows => .pool e rows
  | .trow e p lens => .trow e (mvN n k p) lens
  | .unk => .unk
def mvSl (n k : Nat) (σ : Slots) : Slots := σ.map fun p => (p.1, mvA n k p.2)
def mvM (n k : Nat) (m : Mem) : Mem := m.map fun p => (mvN n k p.1, mvO n k p.2)

/-- the meaning of the names then -/
def mvG (n k : Nat) (g : Nat → GS) : Nat → GS := fun j => if j = k then g n else if j = n then .dead else g j

theorem mvG_mv {n k j : Nat} (g : Nat → GS) (hj : j ≠ k) : mvG n k g (mvN n k j) = g j := by
  unfold mvN
  cases hb : Nat.beq j n with
  | true =>
    have := Nat.eq_of_beq_eq_true hb
    subst this
    simp [mvG]
  | false =>
    have := Nat.ne_of_beq_eq_false hb
    simp [mvG, hj, this]

section
variable {P : Program} {w : World} {R B : Nat → Prop} {g : Nat → GS} {n k : Nat}
theorem ne_of_elem1 {j k : Nat} (h : [k].elem j = false) : j ≠ k := by
  have := notin_of_elem h
  simpa using this
theorem RC.mv {x : CV} {v : Value} (hz : nrC [k] x = true) (h : RC P w R B g x v) : RC P w R B (mvG n k g) (mvC n k x) v := by
  refine ⟨h.1, ?_⟩
  have h2 := h.2
  cases x with
  | pv p => exact h2
  | px q cells => exact h2
  | loc j off len =>
    have hn := mvG_mv (n := n) g (ne_of_elem1 (by simpa [nrC] using hz))
    rcases h2 with ⟨h3, h4⟩ | h3 | ⟨b, cap, cur, e, h3, h4⟩
    · exact .inl ⟨hn.trans h3, h4⟩
    · exact .inr (.inl h3)
    · exact .inr (.inr ⟨b, cap, cur, e, hn.trans h3, h4⟩)
  | pl j off =>
    obtain ⟨b, h3, h4⟩ := h2
    exact ⟨b, (mvG_mv g (ne_of_elem1 (by simpa [nrC] using hz))).trans h3, h4⟩
  | fn f caps =>
    obtain ⟨vs, h3, h4, h5⟩ := h2
    refine ⟨vs, h3, by simpa using h4, fun i j hk => ?_⟩
    rw [List.getElem?_map] at hk
    cases hc : caps[i]? with
    | none => rw [hc] at hk; cases hk
    | some n0 =>
      rw [hc] at hk
      injection hk with hk
      subst hk
      obtain ⟨b, h6, h7⟩ := h5 i n0 hc
      have hz' : caps.any [k].elem = false := by simpa [nrC] using hz
      have hne : [k].elem n0 = false := by
        cases hx : [k].elem n0 with
        | false => rfl
        | true =>
          have : caps.any [k].elem = true := List.any_eq_true.2 ⟨n0, List.mem_of_getElem? hc, hx⟩
          rw [hz'] at this
          cases this
      exact ⟨b, (mvG_mv g (ne_of_elem1 hne)).trans h6, h7⟩
  | mref j =>
    obtain ⟨b, h3, h4⟩ := h2
    exact ⟨b, (mvG_mv g (ne_of_elem1 (by simpa [nrC] using hz))).trans h3, h4⟩
  | tl j i off len =>
    have hn := mvG_mv (n := n) g (ne_of_elem1 (by simpa [nrC] using hz))
    rcases h2 with ⟨h3, h4⟩ | h3 | ⟨b, cap, cur, e, h3, h4⟩
    · exact .inl ⟨by rw [hn]; exact h3, h4⟩
    · exact .inr (.inl h3)
    · exact .inr (.inr ⟨b, cap, cur, e, by rw [hn]; exact h3, h4⟩)
  | tpl j i off =>
    obtain ⟨b, h3, h4⟩ := h2
    exact ⟨b, by rw [mvG_mv (n := n) g (ne_of_elem1 (by simpa [nrC] using hz))]; exact h3, h4⟩
  | junk => trivial

theorem nr_junkC (X : List Nat) (x : CV) : nrC X (junkC X x) = true := by
  cases x with
  | loc j o l => cases hx : X.elem j <;> simp only [nrC, junkC, hx, cond_true, cond_false, Bool.not_false]
  | pl j o => cases hx : X.elem j <;> simp only [nrC, junkC, hx, cond_true, cond_false, Bool.not_false]
  | fn f caps => cases hx : caps.any X.elem <;> simp only [nrC, junkC, hx, cond_true, cond_false, Bool.not_false]
  | mref j => cases hx : X.elem j <;> simp only [nrC, junkC, hx, cond_true, cond_false, Bool.not_false]
  | tl j i o l => cases hx : X.elem j <;> simp only [nrC, junkC, hx, cond_true, cond_false, Bool.not_false]
  | tpl j i o => cases hx : X.elem j <;> simp only [nrC, junkC, hx, cond_true, cond_false, Bool.not_false]
  | _ => rfl
theorem cells_mv {xs : List CV} {us : Nat → Option Value} (h : ∀ (i : Nat) x, (xs.map (junkC [k]))[i]? = some x → ∃ u, us i = some u ∧ RC P w R B g x u) :
    ∀ (i : Nat) x, ((xs.map (junkC [k])).map (mvC n k))[i]? = some x → ∃ u, us i = some u ∧ RC P w R B (mvG n k g) x u := fun i x hi => by
  rw [List.getElem?_map] at hi
  cases hc : (xs.map (junkC [k]))[i]? with
  | none => rw [hc] at hi; cases hi
  | some y =>
    rw [hc] at hi
    injection hi with hi
    subst hi
    obtain ⟨u, h1, h2⟩ := h i y hc
    refine ⟨u, h1, h2.mv ?_⟩
    rw [List.getElem?_map] at hc
    cases hx : xs[i]? with
    | none => rw [hx] at hc; cases hc
    | some z =>
      rw [hx] at hc
      injection hc with hc
      subst hc
      exact nr_junkC _ _
theorem RS.mv {x : SV} {v : Value} (h : RS P w R B g (junkS [k] x) v) : RS P w R B (mvG n k g) (mvS n k (junkS [k] x)) v := by
  cases x with
  | c x => exact RC.mv (nr_junkC _ _) h
  | agg cs =>
    obtain ⟨vs, h1, h2, h3⟩ := h
    exact ⟨vs, h1, by simpa using h2, cells_mv (us := fun i => vs[i]?) h3⟩
theorem RA.mv {x : AV} {v : Value} (h : RA P w R B g (junkA [k] x) v) : RA P w R B (mvG n k g) (mvA n k (junkA [k] x)) v := by
  cases x with
  | s x => exact RS.mv h
  | tup xs =>
    obtain ⟨vs, h1, h2, h3⟩ := h
    refine ⟨vs, h1, by simpa using h2, fun i x hi => ?_⟩
    rw [List.getElem?_map, List.getElem?_map] at hi
    cases hx : xs[i]? with
    | none => rw [hx] at hi; cases hi
    | some z =>
      rw [hx] at hi
      injection hi with hi
      subst hi
      obtain ⟨u, h4, h5⟩ := h3 i (junkS [k] z) (by rw [List.getElem?_map, hx]; rfl)
      exact ⟨u, h4, h5.mv⟩
theorem RO.mv {j : Nat} {o : Ob} (hj : j ≠ k) (h : RO P w R B g j (junkO [k] o)) : RO P w R B (mvG n k g) (mvN n k j) (mvO n k (junkO [k] o)) := by
  have hg := mvG_mv (n := n) g hj
  have hrow : ∀ {e : TypeId} {els : List (List CV)}, ROw P w R B g j e (els.map (·.map (junkC [k]))) → ROw P w R B (mvG n k g) (mvN n k j) e ((els.map (·.map (junkC [k]))).map (·.map (mvC n k))) := fun {e els} h => by
    rcases h with ⟨h1, h2⟩ | ⟨b, cur, h1, h2, h3, h4, h5⟩
    · exact .inl ⟨hg.trans h1, by rw [h2]; rfl⟩
    · refine .inr ⟨b, cur, hg.trans h1, h2, fun cs hcs => ?_, by simpa using h4, fun i q cs x hi hq => ?_⟩
      · obtain ⟨c0, hc0, rfl⟩ := List.mem_map.1 hcs
        simpa using h3 c0 hc0
      · rw [List.getElem?_map, List.getElem?_map] at hi
        cases hc : els[i]? with
        | none => rw [hc] at hi; cases hi
        | some c0 =>
          rw [hc] at hi
          injection hi with hi
          subst hi
          exact cells_mv (us := fun q => cur[i * szP P e + q]?) (fun q y hq => h5 i q _ y (by rw [List.getElem?_map, hc]; rfl) hq) q x hq
  cases o with
  | row e els => exact hrow h
  | prow e els =>
    have h' : ROw P w R B g j e ((pvs els).map (·.map (junkC [k]))) := by rw [pvs_junk]; exact h
    have := hrow h'
    rw [pvs_junk] at this
    have e1 : (pvs els).map (·.map (mvC n k)) = pvs els := by simp [pvs, mvC, Function.comp_def]
    rw [e1] at this
    exact this
  | mp es =>
    obtain ⟨b, ents, clock, h1, h2⟩ := h
    exact ⟨b, ents, clock, hg.trans h1, h2⟩
  | pool e rows =>
    obtain ⟨⟨bs, h1, h2⟩, h3⟩ := h
    exact ⟨⟨bs, hg.trans h1, h2⟩, by rw [hg]; exact h3⟩
  | trow e p lens =>
    change RO P w R B g j (bif [k].elem p then .unk else .trow e p lens) at h
    show RO P w R B (mvG n k g) (mvN n k j) (mvO n k (bif [k].elem p then .unk else .trow e p lens))
    cases hx : [k].elem p with
    | true => trivial
    | false =>
      rw [hx] at h
      have h' : ROw P w R B g j e ((tcells p lens).map (·.map (junkC [k]))) := by
        rw [tcells_junk hx]
        exact h
      have := hrow h'
      rw [tcells_junk hx] at this
      have e1 : (tcells p lens).map (·.map (mvC n k)) = tcells (mvN n k p) lens := by
        refine List.ext_getElem? fun i => ?_
        simp only [tcells, List.getElem?_map, List.getElem?_mapIdx, Option.map_map]
        cases lens[i]? <;> simp [mvC]
      rw [e1] at this
      exact this
  | unk => trivial
end

section
variable {P : Program} {C : Ctx} {σ : Slots} {m : Mem} {n k : Nat}
theorem lk_mvSl (n k : Nat) : ∀ (σ : Slots) (t : Nat), lk (mvSl n k σ) t = (lk σ t).map (mvA n k)
  | [], _ => rfl
  | (j, v) :: r, t => by
    show (bif Nat.beq j t then some (mvA n k v) else lk (mvSl n k r) t) = Option.map (mvA n k) (bif Nat.beq j t then some v else lk r t)
    cases Nat.beq j t
    · exact lk_mvSl n k r t
    · rfl
theorem mem_mvM {m : Mem} {j : Nat} {o : Ob} (h : lk (mvM n k m) j = some o) : ∃ j0 o0, (j0, o0) ∈ m ∧ j = mvN n k j0 ∧ o = mvO n k o0 := by
  obtain ⟨p, hp, he⟩ := List.mem_map.1 (lk_mem h)
  injection he with h1 h2
  exact ⟨p.1, p.2, hp, h1.symm, h2.symm⟩

/-- each name once -/
def uniqM : Mem → Bool
  | [] => true
  | (n, _) :: r => !(keys r).elem n && uniqM r
theorem uniqM_lk : ∀ {m : Mem} {n : Nat} {o : Ob}, uniqM m = true → (n, o) ∈ m → lk m n = some o
  | [], _, _, _, h => by cases h
  | (j, x) :: r, n, o, hu, h => by
    unfold uniqM at hu
    simp only [Bool.and_eq_true, Bool.not_eq_true'] at hu
    show (bif Nat.beq j n then some x else lk r n) = some o
    cases h with
    | head => rw [Nat.beq_refl]; rfl
    | tail _ h =>
      have hne : j ≠ n := fun e => notin_of_elem hu.1 (e ▸ List.mem_map.2 ⟨_, h, rfl⟩)
      cases hb : Nat.beq j n with
      | true => exact absurd (Nat.eq_of_beq_eq_true hb) hne
      | false => exact uniqM_lk hu.2 h

/-- n is called k from now on (what had been k is forgotten) -/
theorem Ent.mv (n k : Nat) (hp : (!C.pn.elem n && !C.pn.elem k) = true) (hu : uniqM m = true) : Ent P C σ m (mvSl n k (junkSl [k] σ)) (mvM n k (junkM [k] m)) := fun R B g a w hs => by
  simp only [Bool.and_eq_true, Bool.not_eq_true'] at hp
  have hpn := notin_of_elem hp.1
  have hpk := notin_of_elem hp.2
  -- forget k first
  have had : Adv R B g w [] [k] R B (upd g k .dead) w := by
    refine ⟨hs.wf.upd k _ (Nat.le_refl _) (fun b hb => hb.elim) (fun i j b hi => by cases hi), fun _ h => h, fun _ h => h, rfl, rfl, rfl, Nat.le_refl _, fun _ _ _ => rfl, fun i hi => upd_ne g _ (by simpa using hi), fun i hi b hb => ?_, fun i hi => by cases hi⟩
    · have : i = k := by simpa using hi
      subst this
      rw [upd_same] at hb; exact hb.elim
  have h1 : St P C (junkSl [k] σ) (junkM [k] m) R B (upd g k .dead) a w :=
    hs.step (us := []) (df := []) (W := []) (X := [k]) (d := none) (v := .tup []) (u := undef) trivial (fun _ h => by cases h) (fun p hp => by cases hp) rfl (fun j hj => by
      have : j = k := by simpa using hj
      subst this; exact hpk) had (fun b hb => .inl hb) (fun h => by cases h) (fun p hp => by cases hp)
  have hjm : ∀ (m0 : Mem) (j : Nat) (o : Ob), (j, o) ∈ junkM [k] m0 → j ≠ k ∧ ∃ o0, (j, o0) ∈ m0 ∧ o = junkO [k] o0 := by
    intro m0
    induction m0 with
    | nil => intro j o h; cases h
    | cons p r ih =>
      intro j o h
      obtain ⟨i, x⟩ := p
      unfold junkM at h
      cases hi : [k].elem i with
      | true =>
        rw [hi, cond_true] at h
        obtain ⟨h1, o0, h2, h3⟩ := ih j o h
        exact ⟨h1, o0, List.mem_cons_of_mem _ h2, h3⟩
      | false =>
        rw [hi, cond_false] at h
        cases h with
        | head => exact ⟨ne_of_elem1 hi, x, List.mem_cons_self, rfl⟩
        | tail _ h =>
          obtain ⟨h1, o0, h2, h3⟩ := ih j o h
          exact ⟨h1, o0, List.mem_cons_of_mem _ h2, h3⟩
  have hlk : ∀ j o, (j, o) ∈ junkM [k] m → lk (junkM [k] m) j = some o := fun j o hm => by
    obtain ⟨h2, o0, h3, rfl⟩ := hjm m j o hm
    rw [lk_junkM', if_neg (by simpa using h2), uniqM_lk hu h3]
    rfl
  generalize upd g k .dead = g1 at h1
  refine ⟨R, B, mvG n k g1, { h1 with wf := ⟨h1.wf.rb, h1.wf.lt, fun j b hj => ?_, fun i j b hi hj => ?_, fun q i j b hi hj => ?_⟩, sl := fun t v ht => ?_, ob := fun j o hj => ?_, ow := fun j o b hj hb => ?_, pin := fun j hj => ?_ }⟩
  · unfold mvG at hj
    split at hj
    · exact h1.wf.ownH n b hj
    · split at hj
      · exact hj.elim
      · exact h1.wf.ownH j b hj
  · unfold mvG at hi hj
    split at hi
    · rename_i e1
      split at hj
      · rename_i e2; rw [e1, e2]
      · split at hj
        · exact hj.elim
        · rename_i e3; exact absurd (h1.wf.injH n j b hi hj).symm e3
    · split at hi
      · exact hi.elim
      · rename_i e1 e2
        split at hj
        · exact absurd (h1.wf.injH i n b hi hj) e2
        · split at hj
          · exact hj.elim
          · exact h1.wf.injH i j b hi hj
  · unfold mvG at hi hj
    split at hi
    · rename_i e1
      rw [if_pos e1] at hj
      exact h1.wf.nd n i j b hi hj
    · rename_i e1
      rw [if_neg e1] at hj
      split at hi
      · cases hi
      · rename_i e2
        rw [if_neg e2] at hj
        exact h1.wf.nd q i j b hi hj
  · rw [lk_mvSl, lk_junkSl] at ht
    cases hl : lk σ t with
    | none => rw [hl] at ht; cases ht
    | some x =>
      rw [hl] at ht
      injection ht with ht
      subst ht
      exact RA.mv (h1.sl t _ (by rw [lk_junkSl, hl]; rfl))
  · obtain ⟨j0, o0, hm, rfl, rfl⟩ := mem_mvM hj
    obtain ⟨h2, o1, h3, rfl⟩ := hjm m j0 o0 hm
    exact RO.mv h2 (h1.ob j0 _ (hlk j0 _ hm))
  · obtain ⟨j0, o0, hm, rfl, rfl⟩ := mem_mvM hj
    obtain ⟨h2, _⟩ := hjm m j0 o0 hm
    rw [mvG_mv g1 h2] at hb
    exact h1.ow j0 o0 b (hlk j0 o0 hm) hb
  · have e1 : j ≠ k := fun e => hpk (e ▸ hj)
    have e2 : j ≠ n := fun e => hpn (e ▸ hj)
    have : mvG n k g1 j = g1 j := by simp [mvG, e1, e2]
    rw [this]
    exact h1.pin j hj
end
end Go.Fw
