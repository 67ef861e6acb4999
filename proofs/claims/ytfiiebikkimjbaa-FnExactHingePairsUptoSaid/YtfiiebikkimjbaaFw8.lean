/- The framework, part 8: a region whose order is open: the main theorem, and its step rules. -/
import Derived.Test.YtfiiebikkimjbaaFw7
set_option linter.unusedVariables false
set_option linter.unusedSimpArgs false
set_option linter.unnecessarySimpa false
namespace Go.Fw

/-- certificates along a list of operations -/
def Chain (P : Program) (C : Ctx) (ops : Array Oper) : List OC → Slots × Mem → Prop
  | [], _ => True
  | p :: r, st => One P C ops p st ∧ Chain P C ops r (stepC p st)

section
variable {P : Program} {C : Ctx} {ops : Array Oper}

theorem Chain.at : ∀ {L : List OC} {st : Slots × Mem}, Chain P C ops L st → ∀ (i : Nat) p, L[i]? = some p → One P C ops p (runC (L.take i) st)
  | [], _, _, i, _, h => by simp at h
  | q :: r, st, hc, 0, p, h => by
    simp at h
    subst h
    exact hc.1
  | q :: r, st, hc, i + 1, p, h => by
    have := Chain.at hc.2 i p (by simpa using h)
    simpa [runC] using this

theorem mem_ready {listed : Array Bool} {i : Nat} (h : i ∈ Region.ready .any ops listed) : i < ops.size ∧ listed.getD i true = false ∧ ∃ o, ops[i]? = some o ∧ ∀ e ∈ o.after, Region.binds .any e = true → listed.getD e.on false = true := by
  unfold Region.ready at h
  obtain ⟨h1, h2⟩ := List.mem_filter.1 h
  simp only [Bool.and_eq_true, Bool.not_eq_true'] at h2
  obtain ⟨h2, h3⟩ := h2
  refine ⟨List.mem_range.1 h1, h2, ?_⟩
  cases ho : ops[i]? with
  | none => rw [ho] at h3; simp at h3
  | some o =>
    rw [ho] at h3
    refine ⟨o, rfl, fun e he hb => ?_⟩
    have h4 : o.after.all (fun e => !Region.binds .any e || listed.getD e.on false) = true := by simpa using h3
    have h5 := (Array.all_eq_true_iff_forall_mem.1 h4) e he
    rw [hb] at h5
    simpa using h5
theorem ready_mem {listed : Array Bool} {i : Nat} {o : Oper} (hi : ops[i]? = some o) (hl : listed.getD i true = false) (h : ∀ e ∈ o.after, Region.binds .any e = true → listed.getD e.on false = true) : i ∈ Region.ready .any ops listed := by
  unfold Region.ready
  refine List.mem_filter.2 ⟨List.mem_range.2 (Array.getElem?_eq_some_iff.1 hi).1, ?_⟩
  rw [hl, hi]
  simp only [Bool.not_false, Option.map_some, Option.getD_some, Bool.true_and]
  refine Array.all_eq_true_iff_forall_mem.2 fun e he => ?_
  cases hb : Region.binds .any e with
  | true => rw [h e he hb]; simp
  | false => simp

theorem St.drew {σ : Slots} {m : Mem} {R B : Nat → Prop} {g : Nat → GS} {a : Act} {w : World} (h : St P C σ m R B g a w) : St P C σ m R B g a w.drew := by
  have had : Adv R B g w [] [] R B g w.drew := ⟨⟨h.wf.rb, h.wf.lt, h.wf.ownH, h.wf.injH, h.wf.nd⟩, fun _ h => h, fun _ h => h, rfl, rfl, rfl, Nat.le_refl _, fun _ _ _ => rfl, fun _ _ => rfl, fun n hn => (by cases hn), fun n hn => (by cases hn)⟩
  have := h.step (us := []) (df := []) (d := none) (v := .tup []) (u := undef) trivial (fun n hn => by cases hn) (fun p hp => by cases hp) rfl (fun n hn => by cases hn) had (fun b hb => .inl hb) (fun h => by cases h) (fun p hp => by cases hp)
  rw [junkSl_nil, junkM_nil] at this
  exact this

variable {l : List Oper} {L : List OC} {pr : List Nat} {st0 : Slots × Mem}

theorem sel_cut {f : Nat → Bool} {i : Nat} {p : OC} (hi : L[i]? = some p) : sel f 0 L = sel f 0 (L.take i) ++ (bif f i then [p] else []) ++ sel f (i + 1) (L.drop (i + 1)) := by
  have hlt : i < L.length := (List.getElem?_eq_some_iff.1 hi).1
  have e : L = L.take i ++ (p :: L.drop (i + 1)) := by
    have h1 : L.drop i = p :: L.drop (i + 1) := by
      rw [List.drop_eq_getElem_cons hlt]
      congr 1
      rw [List.getElem?_eq_getElem hlt] at hi
      injection hi
    rw [← h1, List.take_append_drop]
  have hl : (L.take i).length = i := by simp; omega
  conv => lhs; rw [e]
  rw [sel_app, hl, Nat.zero_add]
  have e2 : sel f i (p :: L.drop (i + 1)) = bif f i then p :: sel f (i + 1) (L.drop (i + 1)) else sel f (i + 1) (L.drop (i + 1)) := rfl
  rw [e2]
  cases f i
  · simp only [cond_false, List.append_nil]
  · simp only [cond_true, List.append_assoc, List.singleton_append]


theorem draw_go {Q : Exit → Act → World → Prop} (hL : L.map (·.1) = l) (hpr : prOk l pr 0 l = true) (hdr : drawGo l.toArray L pr 0 L = true) (hcert : Chain P C l.toArray L st0)
    (hfin : ∀ R B g a w, St P C (runC L st0).1 (runC L st0).2 R B g a w → Q .normal a w) : ∀ (fuel : Nat) (listed : Array Bool) (R B : Nat → Prop) (g : Nat → GS) (a : Act) (w : World), listed.size = l.length → listed.toList.count false ≤ fuel →
    (∀ i j, i < l.length → listed.getD i true = true → (pr.getD i 0).testBit j = true → listed.getD j false = true) →
    St P C (runC (sel (fun k => listed.getD k true) 0 L) st0).1 (runC (sel (fun k => listed.getD k true) 0 L) st0).2 R B g a w → wpAny P .any l.toArray Q fuel listed a w := by
  have hLl : L.length = l.length := by rw [← hL, List.length_map]
  have hget : ∀ (i : Nat) p, L[i]? = some p → l[i]? = some p.1 := fun i p h => by rw [← hL, List.getElem?_map, h]; rfl
  have hgetD : ∀ (A : Array Bool) (i : Nat) (d : Bool), i < A.size → A.getD i d = A.getD i true := fun A i d hi => by
    simp only [Array.getD_eq_getD_getElem?, Array.getElem?_eq_getElem hi, Option.getD_some]
  -- nothing is ready: all are listed
  have hdone : ∀ (listed : Array Bool), listed.size = l.length → Region.ready .any l.toArray listed = [] → ∀ i, i < l.length → listed.getD i true = true := fun listed hsz hr i => by
    induction i using Nat.strongRecOn with
    | ind i ih =>
      intro hi
      cases hx : listed.getD i true with
      | true => rfl
      | false =>
        have ho : l[i]? = some l[i] := List.getElem?_eq_getElem hi
        have hm := ready_mem (ops := l.toArray) (i := i) (o := l[i]) (by simp) hx fun e he hb => by
          have hlt := ((prOk_spec l 0 hpr i l[i] ho).1 e he hb)
          rw [Nat.zero_add] at hlt
          rw [hgetD _ _ _ (by omega)]
          exact ih e.on hlt (by omega)
        rw [hr] at hm
        cases hm
  have hend : ∀ (listed : Array Bool), listed.size = l.length → Region.ready .any l.toArray listed = [] → sel (fun k => listed.getD k true) 0 L = L := fun listed hsz hr => sel_all fun i hi => by
    rw [Nat.zero_add]
    exact hdone listed hsz hr i (by omega)
  intro fuel
  induction fuel with
  | zero =>
    intro listed R B g a w hsz hcnt hcl hs
    have hr : Region.ready .any l.toArray listed = [] := by
      cases hr : Region.ready .any l.toArray listed with
      | nil => rfl
      | cons i r =>
        have := mem_ready (ops := l.toArray) (listed := listed) (i := i) (by rw [hr]; exact List.mem_cons_self)
        obtain ⟨h1, h2, _⟩ := this
        have hi : i < listed.size := by rw [hsz]; simpa using h1
        have : false ∈ listed.toList := by
          refine List.mem_of_getElem? (i := i) ?_
          rw [Array.getD_eq_getD_getElem?, Array.getElem?_eq_getElem hi] at h2
          simpa [Array.getElem?_eq_getElem hi] using h2
        have := List.count_pos_iff.2 this
        omega
    rw [hend listed hsz hr] at hs
    exact ⟨hr, hfin _ _ _ _ _ hs⟩
  | succ fuel ih =>
    intro listed R B g a w hsz hcnt hcl hs
    refine ⟨fun hr => ?_, fun i hi => ?_⟩
    · rw [hend listed hsz hr] at hs
      exact hfin _ _ _ _ _ hs
    obtain ⟨h1, h2, o, ho, h3⟩ := mem_ready hi
    have h1' : i < l.length := by simpa using h1
    have hiL : i < L.length := by omega
    have hp : L[i]? = some L[i] := List.getElem?_eq_getElem hiL
    generalize hpe : L[i] = p at hp
    have hop : l[i]? = some p.1 := hget i p hp
    have hopo : o = p.1 := by
      have : l.toArray[i]? = some p.1 := by simpa using hop
      rw [ho] at this
      injection this
    subst hopo
    obtain ⟨hp1, hp2⟩ := prOk_spec l 0 hpr i p.1 hop
    rw [Nat.zero_add] at hp1 hp2
    -- its predecessors are listed
    have hpred : ∀ j, (pr.getD i 0).testBit j = true → listed.getD j false = true := fun j hj => by
      obtain ⟨e, he, hb, hej⟩ := hp2 j hj
      have hel := h3 e he hb
      have hlt := hp1 e he hb
      rcases hej with h | h
      · rw [← h]; exact hel
      · exact hcl e.on j (by omega) (by rw [hgetD _ _ false (by omega)] at hel; exact hel) h
    have hpredlt : ∀ (k : Nat), k < l.length → ∀ j, (pr.getD k 0).testBit j = true → j < k := by
      intro k
      induction k using Nat.strongRecOn with
      | ind k ihk =>
        intro hk j hj
        obtain ⟨q1, q2⟩ := prOk_spec l 0 hpr k l[k] (List.getElem?_eq_getElem hk)
        rw [Nat.zero_add] at q1 q2
        obtain ⟨e, he, hb', hej⟩ := q2 j hj
        have hlt := q1 e he hb'
        rcases hej with h | h
        · omega
        · have := ihk e.on hlt (by omega) j h
          omega
    obtain ⟨hd1, hd2⟩ := drawGo_spec L 0 hdr i p hp
    simp only [Nat.zero_add] at hd1 hd2
    -- those behind it that are listed do not stand in its way
    have hBind : ∀ b ∈ sel (fun k => listed.getD k true) (i + 1) (L.drop (i + 1)), indep l.toArray p b = true := fun b hb => by
      obtain ⟨j, hj1, hj2⟩ := sel_mem hb
      rw [List.getElem?_drop] at hj1
      have hjl : i + 1 + j < l.length := by rw [← hLl]; exact (List.getElem?_eq_some_iff.1 hj1).1
      obtain ⟨q1, _⟩ := drawGo_spec L 0 hdr (i + 1 + j) b hj1
      simp only [Nat.zero_add] at q1
      rcases q1 i p (by omega) hp with h | h
      · have := hcl (i + 1 + j) i hjl hj2 h
        rw [hgetD _ _ false (by omega), h2] at this
        cases this
      · exact h
    have hAind : ∀ (j : Nat) q, (L.take i)[j]? = some q → listed.getD j true = false → indep l.toArray q p = true := fun j q hj hf => by
      rw [List.getElem?_take] at hj
      split at hj
      · rename_i hji
        rcases hd1 j q hji hj with h | h
        · have := hpred j h
          rw [hgetD _ _ false (by omega), hf] at this
          cases this
        · exact h
      · cases hj
    have hcut := sel_cut (f := fun k => listed.getD k true) hp
    rw [h2, cond_false, List.append_nil] at hcut
    have hone0 := hcert.at i p hp
    have hone : One P C l.toArray p (runC (sel (fun k => listed.getD k true) 0 L) st0) := by
      rcases hd2 with hnj | ⟨hall, hnone⟩
      · rw [hcut, run_app]
        exact One.found hone0 hnj (fun k => listed.getD k true) rfl hAind hBind
      · have e1 : sel (fun k => listed.getD k true) 0 (L.take i) = L.take i := sel_all fun j hj => by
          rw [Nat.zero_add]
          have hji : j < i := by simp at hj; omega
          have := hpred j (hall j hji)
          rwa [hgetD _ _ false (by omega)] at this
        have e2 : sel (fun k => listed.getD k true) (i + 1) (L.drop (i + 1)) = [] := sel_none fun j hj => by
          have hjl : i + 1 + j < L.length := by simp at hj; omega
          cases hx : listed.getD (i + 1 + j) true with
          | false => rfl
          | true =>
            have := hcl (i + 1 + j) i (by omega) hx (hnone (i + 1 + j) (by omega) hjl)
            rw [hgetD _ _ false (by omega), h2] at this
            cases this
        rw [hcut, e1, e2, List.append_nil]
        exact hone0
    refine hone.wp hs ho fun R' B' g' a' w' hs' => ?_
    have hnew : ∀ k, k < l.length → (listed.setIfInBounds i true).getD k true = if k = i then true else listed.getD k true := fun k hk => by
      simp only [Array.getD_eq_getD_getElem?, Array.getElem?_setIfInBounds]
      by_cases hki : i = k
      · rw [if_pos hki, if_pos hki.symm, if_pos (by omega)]; rfl
      · rw [if_neg hki, if_neg (Ne.symm hki)]
    refine ih (listed.setIfInBounds i true) R' B' g' a' w' (by simpa using hsz) ?_ ?_ ?_
    · have hi' : i < listed.toList.length := by simpa [hsz] using h1'
      have hcs := List.count_set (b := false) (a := true) (l := listed.toList) hi'
      have hv : listed.toList[i] = false := by
        rw [Array.getD_eq_getD_getElem?, Array.getElem?_eq_getElem (by omega)] at h2
        simpa using h2
      rw [Array.toList_setIfInBounds, hcs, hv]
      have e1 : (if (true == false) = true then 1 else 0) = 0 := rfl
      have e2 : (if (false == false) = true then 1 else 0) = 1 := rfl
      rw [e1, e2]
      omega
    · intro k j hk hx hb
      have hjk := hpredlt k hk j hb
      rw [hgetD _ _ false (by simp; omega), hnew j (by omega)]
      rw [hnew k hk] at hx
      by_cases hki : k = i
      · subst hki
        have := hpred j hb
        rw [hgetD _ _ false (by omega)] at this
        rw [this]; simp
      · rw [if_neg hki] at hx
        have := hcl k j hk hx hb
        rw [hgetD _ _ false (by omega)] at this
        rw [this]; simp
    · have hcut' := sel_cut (f := fun k => (listed.setIfInBounds i true).getD k true) hp
      have hfi : (listed.setIfInBounds i true).getD i true = true := by rw [hnew i h1', if_pos rfl]
      rw [hfi, cond_true] at hcut'
      have e1 : sel (fun k => (listed.setIfInBounds i true).getD k true) 0 (L.take i) = sel (fun k => listed.getD k true) 0 (L.take i) := sel_congr fun j hj => by
        have : j < i := by simp at hj; omega
        rw [Nat.zero_add, hnew j (by omega), if_neg (by omega)]
      have e2 : sel (fun k => (listed.setIfInBounds i true).getD k true) (i + 1) (L.drop (i + 1)) = sel (fun k => listed.getD k true) (i + 1) (L.drop (i + 1)) := sel_congr fun j hj => by
        have : i + 1 + j < L.length := by simp at hj; omega
        rw [hnew _ (by omega), if_neg (by omega)]
      rw [hcut', e1, e2, run_app, run_snoc]
      rw [hcut, run_app] at hs'
      exact hs'.eqs (push _ _ hBind)

end

theorem drawB_zip (l : List Oper) (cs : List Ct) (h : cs.length = l.length) : (l.zip cs).map (·.1) = l := by
  induction l generalizing cs with
  | nil => rfl
  | cons x r ih =>
    cases cs with
    | nil => cases h
    | cons c cs => simp only [List.zip_cons_cons, List.map_cons, ih cs (by simpa using h)]

theorem draw_sound {P : Program} {C : Ctx} {l : List Oper} {cs : List Ct} {st0 : Slots × Mem} {id : Nat} {is : List It} {Q : Post} (hm : P.follows .mixedOrders = true) (hd : drawB l cs = true) (hcert : Chain P C l.toArray (l.zip cs) st0)
    (h : AWI P C is (runC (l.zip cs) st0).1 (runC (l.zip cs) st0).2 Q) : AWI P C (.code (.region id l.toArray true) :: is) st0.1 st0.2 Q := fun R B g a w hs => by
  unfold drawB at hd
  simp only [Bool.and_eq_true] at hd
  obtain ⟨⟨h1, h2⟩, h3⟩ := hd
  have hz := drawB_zip l cs (Nat.eq_of_beq_eq_true h1)
  refine wp_region_any hm ?_
  refine draw_go (L := l.zip cs) hz h2 h3 hcert (fun R B g a w hs => h R B g a w hs) _ _ R B g a w.drew (by simp) ?_ (fun i j hi hx _ => ?_) ?_
  · simp
  · rw [Array.getD_eq_getD_getElem?, Array.getElem?_replicate, if_pos (by simpa using hi)] at hx
    cases hx
  · have e : sel (fun k => (Array.replicate l.toArray.size false).getD k true) 0 (l.zip cs) = [] := sel_none fun i hi => by
      have : i < l.length := by simp at hi; omega
      rw [Nat.zero_add, Array.getD_eq_getD_getElem?, Array.getElem?_replicate, if_pos (by simpa using this)]
      rfl
    rw [e]
    exact hs.drew

/-! ### the step rules -/
/-- In a region whose order is open: the operations of 'done' have their certificates (the last first). -/
def AOD {τ : Type} (P : Program) (C : Ctx) (l : List Oper) (done : List Ct) (rest : List Oper) (is : List It) (σ : Slots) (m : Mem) (M : Option τ) (K : τ → Post) : Prop :=
  ∀ t, M = some t → ∃ cs : List Ct, cs.length = rest.length ∧ Chain P C l.toArray (rest.zip cs) (σ, m) ∧ drawB l (done.reverse ++ cs) = true ∧ AWI P C is (runC (rest.zip cs) (σ, m)).1 (runC (rest.zip cs) (σ, m)).2 (K t)

section
variable {P : Program} {C : Ctx} {σ : Slots} {m : Mem} {is : List It} {l rest : List Oper} {done : List Ct} {τ υ : Type} {M : Option τ} {K : τ → Post}
theorem AWR.draw {id : Nat} (hm : P.follows .mixedOrders = true) (h : AOD P C l [] l is σ m M K) : AWR P C (.code (.region id l.toArray true) :: is) σ m M K := fun t ht => by
  obtain ⟨cs, _, h2, h3, h4⟩ := h t ht
  exact draw_sound (st0 := (σ, m)) hm (by simpa using h3) h2 h4
/-! ### the same check, so that it never looks into rows of which it needs to know nothing -/
theorem nrC_nil (x : CV) : nrC [] x = true := by
  cases x <;> simp [nrC]
theorem nrS_nil (x : SV) : nrS [] x = true := by
  cases x with
  | c x => exact nrC_nil x
  | agg cs => exact List.all_eq_true.2 fun x _ => nrC_nil x
theorem nrA_nil (x : AV) : nrA [] x = true := by
  cases x with
  | s x => exact nrS_nil x
  | tup cs => exact List.all_eq_true.2 fun x _ => nrS_nil x
theorem nrO_nil (o : Ob) : nrO [] o = true := by
  cases o with
  | row e els => exact List.all_eq_true.2 fun cs _ => List.all_eq_true.2 fun x _ => nrC_nil x
  | _ => first | rfl | simp [nrO]
def half2 (ops : Array Oper) (a b : OC) : Bool :=
  (match a.1.dst with | some d => !(rdOf ops b).elem d && b.1.dst != some d | none => true) && disL (wrOf a) (nmOf b) && (a.2.X.isEmpty || (nrA a.2.X b.2.v && b.2.ins.all (fun q => nrA a.2.X q.2) && b.2.us.all (fun q => nrO a.2.X q.2) && b.2.df.all (fun q => nrO a.2.X q.2)))
theorem half2_imp {ops : Array Oper} {a b : OC} (h : half2 ops a b = true) : half ops a b = true := by
  unfold half2 at h
  unfold half
  rw [Bool.and_eq_true, Bool.or_eq_true] at h
  obtain ⟨h1, h2⟩ := h
  simp only [Bool.and_assoc] at h1 ⊢
  rw [Bool.and_eq_true] at h1
  rw [Bool.and_eq_true, Bool.and_eq_true]
  refine ⟨h1.1, h1.2, ?_⟩
  rcases h2 with h2 | h2
  · have : a.2.X = [] := by simpa using h2
    rw [this, nrA_nil, List.all_eq_true.2 fun q _ => nrA_nil q.2, List.all_eq_true.2 fun q _ => nrO_nil q.2, List.all_eq_true.2 fun q _ => nrO_nil q.2]
    rfl
  · simpa only [Bool.and_assoc] using h2
def pairOk2 (ops : Array Oper) (prk : Nat) (b : OC) : Nat → List OC → Bool
  | _, [] => true
  | j, a :: r => (prk.testBit j || (half2 ops a b && half2 ops b a)) && pairOk2 ops prk b (j + 1) r
theorem pairOk2_imp {ops : Array Oper} {prk : Nat} {b : OC} : ∀ (L : List OC) (j : Nat), pairOk2 ops prk b j L = true → pairOk ops prk b j L = true
  | [], _, _ => rfl
  | a :: r, j, h => by
    unfold pairOk2 at h
    unfold pairOk
    simp only [Bool.and_eq_true, Bool.or_eq_true] at h ⊢
    refine ⟨h.1.imp id fun h => ?_, pairOk2_imp r (j + 1) h.2⟩
    unfold indep
    rw [half2_imp h.1, half2_imp h.2]; rfl
def drawGo2 (ops : Array Oper) (L : List OC) (pr : List Nat) : Nat → List OC → Bool
  | _, [] => true
  | k, b :: r => pairOk2 ops (pr.getD k 0) b 0 (L.take k) && ((allBits (pr.getD k 0) k && (r.zipIdx (k + 1)).all fun q => (pr.getD q.2 0).testBit k) || njOk b) && drawGo2 ops L pr (k + 1) r
theorem drawGo2_imp {ops : Array Oper} {L : List OC} {pr : List Nat} : ∀ (r : List OC) (k : Nat), drawGo2 ops L pr k r = true → drawGo ops L pr k r = true
  | [], _, _ => rfl
  | b :: r, k, h => by
    unfold drawGo2 at h
    unfold drawGo
    rw [Bool.and_eq_true, Bool.and_eq_true] at h ⊢
    refine ⟨⟨pairOk2_imp _ _ h.1.1, ?_⟩, drawGo2_imp r (k + 1) h.2⟩
    rw [Bool.or_comm]
    exact h.1.2
def drawB2 (l : List Oper) (cs : List Ct) : Bool :=
  let pr := (Region.before l.toArray).toList
  Nat.beq cs.length l.length && prOk l pr 0 l && drawGo2 l.toArray (l.zip cs) pr 0 (l.zip cs)
theorem drawB2_imp {l : List Oper} {cs : List Ct} (h : drawB2 l cs = true) : drawB l cs = true := by
  unfold drawB2 at h
  unfold drawB
  simp only [Bool.and_eq_true] at h ⊢
  exact ⟨h.1, drawGo2_imp _ _ h.2⟩
theorem AOD.nil (hd : drawB2 l done.reverse = true) (h : AWR P C is σ m M K) : AOD P C l done [] is σ m M K := fun t ht => ⟨[], rfl, trivial, by simpa using drawB2_imp hd, h t ht⟩
theorem AOD.bind {x : Option υ} {f : υ → Option τ} (h : ∀ u, x = some u → AOD P C l done rest is σ m (f u) K) : AOD P C l done rest is σ m (x.bind f) K := fun t ht => by
  obtain ⟨u, hu, hf⟩ := Option.bind_eq_some_iff.1 ht
  exact h u hu t hf
theorem AOD.split {b : Bool} {M1 M2 : Option τ} (ht : b = true → AOD P C l done rest is σ m M1 K) (hf : b = false → AOD P C l done rest is σ m M2 K) : AOD P C l done rest is σ m (bif b then M1 else M2) K := fun t h => by
  cases hb : b with
  | true => rw [hb] at h; exact ht hb t h
  | false => rw [hb] at h; exact hf hb t h
theorem AOD.none : AOD P C l done rest is σ m (none : Option τ) K := fun t h => by cases h
theorem AOD.step {o : Oper} {ins : List (Operand × AV)} {us df : Mem} {v : AV} {W X : List Nat} (hlt : LT P o ins us v df W X) (hi : EvL σ ins) (hu : LkL m us) (hg : GuardIs l.toArray σ o true)
    (hside : (dstOk C.N o.dst && subL W (X ++ keys df) && subL W (keys us) && subL (keys df) (X ++ W) && disL X C.pn) = true) (h : AOD P C l (⟨ins, us, v, df, W, X, true⟩ :: done) rest is (setD (junkSl X σ) o.dst v) (df ++ junkM X m) M K) :
    AOD P C l done (o :: rest) is σ m M K := fun t ht => by
  obtain ⟨cs, h1, h2, h3, h4⟩ := h t ht
  exact ⟨⟨ins, us, v, df, W, X, true⟩ :: cs, by simp [h1], ⟨⟨hlt, hi, hu, hg, hside⟩, h2⟩, by simpa using h3, h4⟩
theorem AOD.pure {o : Oper} {ins : List (Operand × AV)} {us : Mem} {v : AV} (hlt : LT P o ins us v [] [] []) (hi : EvL σ ins) (hu : LkL m us) (hg : GuardIs l.toArray σ o true)
    (hd : dstOk C.N o.dst = true) (h : AOD P C l (⟨ins, us, v, [], [], [], true⟩ :: done) rest is (setD σ o.dst v) m M K) : AOD P C l done (o :: rest) is σ m M K :=
  AOD.step hlt hi hu hg (by rw [hd]; rfl) (by rw [junkSl_nil, junkM_nil]; exact h)
theorem AOD.skip {o : Oper} (hg : GuardIs l.toArray σ o false) (hd : dstOk C.N o.dst = true) (h : AOD P C l (⟨[], [], .tup [], [], [], [], false⟩ :: done) rest is (setD σ o.dst (.tup [])) m M K) : AOD P C l done (o :: rest) is σ m M K := fun t ht => by
  obtain ⟨cs, h1, h2, h3, h4⟩ := h t ht
  have e : stepC (o, (⟨[], [], .tup [], [], [], [], false⟩ : Ct)) (σ, m) = (setD σ o.dst (.tup []), m) := by
    unfold stepC
    rw [junkSl_nil, junkM_nil]
    rfl
  refine ⟨⟨[], [], .tup [], [], [], [], false⟩ :: cs, by simp [h1], ⟨⟨hg, hd, rfl, rfl, rfl, rfl, rfl⟩, ?_⟩, by simpa using h3, ?_⟩
  · rw [e]; exact h2
  · rw [List.zip_cons_cons]
    show AWI P C is (runC (rest.zip cs) (stepC _ _)).1 (runC (rest.zip cs) (stepC _ _)).2 (K t)
    rw [e]
    exact h4
end

end Go.Fw
