/- Parts of a proof that a law of the program holds: what the program computes, and why that is right. -/
import Derived.KernelRfl
import Derived.MapKept
import Derived.Carry
import Derived.ChangeMaps5
import Derived.Test.YteognanhfpbghaaZEIsPinnedRigid0
section
set_option linter.unusedVariables false
set_option linter.unusedSimpArgs false
set_option linter.unnecessarySimpa false
namespace Go.Fw
def idx {α : Type} (l : List α) (i : Int) : Option α := if 0 ≤ i then l[i.toNat]? else none
def lim (n : Nat) : Option Unit := if n ≤ LIM then some () else none
def lenOk (n : Int) : Option Unit := if 0 ≤ n ∧ n ≤ 2147483648 then some () else none
def same (a b : Nat) : Option Unit := if a = b then some () else none
def BIG : Nat := 18446744073709551616
theorem idx_nn {α : Type} {l : List α} {i : Int} {x : α} (h : idx l i = some x) : 0 ≤ i := by
  unfold idx at h; split at h
  · assumption
  · cases h
theorem idx_get {α : Type} {l : List α} {i : Int} {x : α} (h : idx l i = some x) : l[i.toNat]? = some x := by
  unfold idx at h; split at h
  · assumption
  · cases h
theorem idx_lt {α : Type} {l : List α} {i : Int} {x : α} (h : idx l i = some x) : i < l.length := by
  have h0 := idx_nn h
  have h1 := (List.getElem?_eq_some_iff.1 (idx_get h)).1
  omega
theorem lim_le {n : Nat} {u : Unit} (h : lim n = some u) : n ≤ LIM := by
  unfold lim at h; split at h
  · assumption
  · cases h
theorem lenOk_le {n : Int} {u : Unit} (h : lenOk n = some u) : 0 ≤ n ∧ n ≤ LIM := by
  unfold lenOk at h; split at h
  · assumption
  · cases h
section
variable {P : Program} {C : Ctx} {σ σ' : Slots} {m m' : Mem} {is : List It} {τ υ : Type} {M : Option τ} {K : τ → Post}
def SubS (σ' σ : Slots) : Prop := match σ' with
  | [] => True
  | (t, v) :: r => lk σ t = some v ∧ SubS r σ
def SubM (m' m : Mem) : Prop := match m' with
  | [] => True
  | (n, o) :: r => lk m n = some o ∧ SubM r m
theorem SubS.spec : ∀ {σ' : Slots}, SubS σ' σ → ∀ t v, lk σ' t = some v → lk σ t = some v
  | [], _, _, _, h => by cases h
  | (k, x) :: r, hs, t, v, h => by
    change (bif Nat.beq k t then some x else lk r t) = some v at h
    cases hb : Nat.beq k t with
    | true =>
      rw [hb, cond_true] at h
      injection h with h
      have := Nat.eq_of_beq_eq_true hb
      subst this
      subst h
      exact hs.1
    | false =>
      rw [hb, cond_false] at h
      exact SubS.spec hs.2 t v h
theorem SubM.spec : ∀ {m' : Mem}, SubM m' m → ∀ t v, lk m' t = some v → lk m t = some v
  | [], _, _, _, h => by cases h
  | (k, x) :: r, hs, t, v, h => by
    change (bif Nat.beq k t then some x else lk r t) = some v at h
    cases hb : Nat.beq k t with
    | true =>
      rw [hb, cond_true] at h
      injection h with h
      have := Nat.eq_of_beq_eq_true hb
      subst this
      subst h
      exact hs.1
    | false =>
      rw [hb, cond_false] at h
      exact SubM.spec hs.2 t v h
theorem Ent.of (h1 : SubS σ' σ) (h2 : SubM m' m) : Ent P C σ m σ' m' := fun R B g _ _ hs => ⟨R, B, g, hs.weak (SubS.spec h1) (SubM.spec h2)⟩
theorem Ent.refl : Ent P C σ m σ m := fun R B g _ _ hs => ⟨R, B, g, hs⟩
theorem Ent.trans {σ2 : Slots} {m2 : Mem} (h : Ent P C σ m σ' m') (k : Ent P C σ' m' σ2 m2) : Ent P C σ m σ2 m2 := fun R B g a w hs => by
  obtain ⟨R', B', g', hs'⟩ := h R B g a w hs
  exact k R' B' g' a w hs'
theorem AOR.ent {ops : Array Oper} {rest : List Oper} (h : Ent P C σ m σ' m') (k : AOR P C ops rest is σ' m' M K) : AOR P C ops rest is σ m M K := fun t ht R B g a w hs => by
  obtain ⟨R', B', g', hs'⟩ := h R B g a w hs
  exact k t ht R' B' g' a w hs'
def KL {σs β ρ : Type} (P : Program) (C : Ctx) (id : Nat) (S : σs → Slots × Mem) (Sb : β → Slots × Mem) (Kr : ρ → Post) : σs ⊕ (β ⊕ ρ) → Post := fun o e σ m => match o with
  | .inl s => e = .normal ∧ Ent P C σ m (S s).1 (S s).2
  | .inr (.inl b) => e = .exit id ∧ Ent P C σ m (Sb b).1 (Sb b).2
  | .inr (.inr r) => e = .ret ∧ Kr r .ret σ m
theorem AWR.loopR {σs β ρ : Type} {body : Code} {id : Nat} (bm : σs → Option (σs ⊕ (β ⊕ ρ))) (S : σs → Slots × Mem) (Sb : β → Slots × Mem) (Kr : ρ → Post) {f : β → Option τ} {gr : ρ → Option τ} {n : Nat} {s : σs}
    (hb : ∀ s, AWR P C [.code body] (S s).1 (S s).2 (bm s) (KL P C id S Sb Kr)) (h0 : Ent P C σ m (S s).1 (S s).2) (hid : hasBlk id is = true)
    (hl : ∀ b, loopM bm n s = some (.inl b) → AWR P C (dropTo id is) (Sb b).1 (Sb b).2 (f b) K) (hr : ∀ r t σ m, gr r = some t → Kr r .ret σ m → K t .ret σ m) :
    AWR P C (.code (.loop body) :: is) σ m ((loopM bm n s).bind (Sum.elim f gr)) K :=
  AWR.loop (Lv := fun o e σ m => match o with | .inl b => e = .exit id ∧ Ent P C σ m (Sb b).1 (Sb b).2 | .inr r => e = .ret ∧ Kr r .ret σ m) bm S
    (fun s t ht R B g a w hs => wp_mono (hb s t ht R B g a w hs) fun e a w he => by
      obtain ⟨σ', m', R', B', g', hs', hp⟩ := he
      refine ⟨σ', m', R', B', g', hs', ?_⟩
      rcases t with s' | b | r
      · exact hp
      · obtain ⟨rfl, hp⟩ := hp
        exact ⟨by simp, rfl, hp⟩
      · obtain ⟨rfl, hp⟩ := hp
        exact ⟨by simp, rfl, hp⟩) h0 (fun u e σ' m' hu hlv t ht => by
      rcases u with b | r
      · obtain ⟨rfl, hp⟩ := hlv
        exact AWE.exit_to hid (AWE.ent hp (hl b hu t ht))
      · obtain ⟨rfl, hp⟩ := hlv
        exact AWE.ret_end (hr r t σ' m' ht hp))
def KL1 {σs β : Type} (P : Program) (C : Ctx) (id : Nat) (S : σs → Slots × Mem) (Sb : β → Slots × Mem) : σs ⊕ β → Post := fun o e σ m => match o with
  | .inl s => e = .normal ∧ Ent P C σ m (S s).1 (S s).2
  | .inr b => e = .exit id ∧ Ent P C σ m (Sb b).1 (Sb b).2
theorem AWR.loop1 {σs β : Type} {body : Code} {id : Nat} (bm : σs → Option (σs ⊕ β)) (S : σs → Slots × Mem) (Sb : β → Slots × Mem) {f : β → Option τ} {n : Nat} {s : σs}
    (hb : ∀ s, AWR P C [.code body] (S s).1 (S s).2 (bm s) (KL1 P C id S Sb)) (h0 : Ent P C σ m (S s).1 (S s).2) (hid : hasBlk id is = true)
    (hl : ∀ b, loopM bm n s = some b → AWR P C (dropTo id is) (Sb b).1 (Sb b).2 (f b) K) : AWR P C (.code (.loop body) :: is) σ m ((loopM bm n s).bind f) K :=
  AWR.loop (Lv := fun b e σ m => e = .exit id ∧ Ent P C σ m (Sb b).1 (Sb b).2) bm S
    (fun s t ht R B g a w hs => wp_mono (hb s t ht R B g a w hs) fun e a w he => by
      obtain ⟨σ', m', R', B', g', hs', hp⟩ := he
      refine ⟨σ', m', R', B', g', hs', ?_⟩
      rcases t with s' | b
      · exact hp
      · obtain ⟨rfl, hp⟩ := hp
        exact ⟨by simp, rfl, hp⟩) h0 (fun u e σ' m' hu hlv t ht => by
      obtain ⟨rfl, hp⟩ := hlv
      exact AWE.exit_to hid (AWE.ent hp (hl u hu t ht)))
def KJ (P : Program) (C : Ctx) (S : υ → Slots × Mem) : υ → Post := fun u e σ m => e = .normal ∧ Ent P C σ m (S u).1 (S u).2
theorem AWR.joinK {c : Code} {M1 : Option υ} {f : υ → Option τ} (S : υ → Slots × Mem) (h1 : AWR P C [.code c] σ m M1 (KJ P C S)) (h2 : ∀ t, M1 = some t → AWR P C is (S t).1 (S t).2 (f t) K) : AWR P C (.code c :: is) σ m (M1.bind f) K :=
  AWR.join S h1 h2
theorem AWE.exit_end {id : Nat} {Q : Post} : ∀ {is : List It}, hasBlk id is = false → Q (.exit id) σ m → AWE P C is (.exit id) σ m Q
  | [], _, h => AWE.nil h
  | .code c :: is, hb, h => AWE.exit_code (AWE.exit_end (is := is) hb h)
  | .blk i :: is, hb, h => by
    unfold hasBlk at hb
    rw [Bool.or_eq_false_iff] at hb
    exact AWE.exit_miss (Ne.symm (Nat.ne_of_beq_eq_false hb.1)) (AWE.exit_end (is := is) hb.2 h)
theorem AWR.exit_end {id : Nat} {t : τ} (hb : hasBlk id is = false) (h : K t (.exit id) σ m) : AWR P C (.code (.exit id) :: is) σ m (some t) K := AWR.exit_out (AWE.exit_end hb h)
def FPost {ρ : Type} (P : Program) (res : List ResultVar) (us : Mem) (X : List Nat) (rs : ρ → List SV) (dfs : ρ → Mem) : ρ → Post := fun t e σ m =>
  (e = .normal ∨ e = .ret) ∧ RvL P σ m res (rs t) ∧ LkL m (dfs t) ∧ subL (keys us) (keys (dfs t)) = true ∧ subL X (keys (dfs t)) = true ∧ PermA (resA (rs t)) ∧ (∀ p ∈ dfs t, PermO p.2) ∧ okA (keys us ++ X) (resA (rs t)) = true ∧
    (dfs t).all (fun p => (keys us ++ X).elem p.1 && okO (keys us ++ X) p.2) = true
def PermPL : List PV → Prop
  | [] => True
  | p :: r => PermP p ∧ PermPL r
theorem PermPL.spec : ∀ {l : List PV}, PermPL l → ∀ p ∈ l, PermP p
  | [], _, p, hp => by cases hp
  | q :: r, h, p, hp => by
    cases hp with
    | head => exact h.1
    | tail _ hp => exact PermPL.spec h.2 p hp
def PermCL : List CV → Prop
  | [] => True
  | p :: r => PermC p ∧ PermCL r
theorem PermCL.spec : ∀ {l : List CV}, PermCL l → ∀ p ∈ l, PermC p
  | [], _, p, hp => by cases hp
  | q :: r, h, p, hp => by
    cases hp with
    | head => exact h.1
    | tail _ hp => exact PermCL.spec h.2 p hp
def PermSV : SV → Prop
  | .c x => PermC x
  | .agg cs => PermCL cs
theorem PermSV.spec {x : SV} (h : PermSV x) : PermS x := by
  cases x with
  | c x => exact h
  | agg cs => exact PermCL.spec h
def PermSL : List SV → Prop
  | [] => True
  | x :: r => PermSV x ∧ PermSL r
theorem PermSL.spec : ∀ {l : List SV}, PermSL l → ∀ p ∈ l, PermS p
  | [], _, p, hp => by cases hp
  | q :: r, h, p, hp => by
    cases hp with
    | head => exact h.1.spec
    | tail _ hp => exact PermSL.spec h.2 p hp
theorem PermSL.res {l : List SV} (h : PermSL l) : PermA (resA l) := by
  match l, h with
  | [], _ => intro x hx; cases hx
  | [x], h => exact h.1.spec
  | x :: y :: r, h => exact PermSL.spec h
def PermL : Mem → Prop
  | [] => True
  | (_, o) :: r => PermO o ∧ PermL r
theorem PermL.spec : ∀ {df : Mem}, PermL df → ∀ p ∈ df, PermO p.2
  | [], _, p, hp => by cases hp
  | (n, o) :: r, h, p, hp => by
    cases hp with
    | head => exact h.1
    | tail _ hp => exact PermL.spec h.2 p hp
theorem PermO.prow' {α : Type} {enc : α → List PV} {e : TypeId} {xs : List α} (h : ∀ a, PermPL (enc a)) : PermO (.prow e (xs.map enc)) := fun cs hcs p hp => by
  obtain ⟨a, _, rfl⟩ := List.mem_map.1 hcs
  exact (h a).spec p hp
theorem infS {t : TypeId} (h : (P.info? t).isSome = true) : P.info? t = some ((P.info? t).get h) := (Option.some_get h).symm
theorem FPost.mk {ρ : Type} {res : List ResultVar} {us : Mem} {X : List Nat} {rs : ρ → List SV} {dfs : ρ → Mem} {t : ρ} {e : Exit} (he : e = .normal ∨ e = .ret) (h1 : RvL P σ m res (rs t)) (h2 : LkL m (dfs t))
    (hside : (subL (keys us) (keys (dfs t)) && subL X (keys (dfs t)) && okA (keys us ++ X) (resA (rs t)) && (dfs t).all (fun p => (keys us ++ X).elem p.1 && okO (keys us ++ X) p.2)) = true) (h3 : PermSL (rs t)) (h4 : PermL (dfs t)) :
    FPost P res us X rs dfs t e σ m := by
  simp only [Bool.and_eq_true] at hside
  obtain ⟨⟨⟨a1, a2⟩, a3⟩, a4⟩ := hside
  exact ⟨he, h1, h2, a1, a2, h3.res, h4.spec, a3, a4⟩
theorem FPost.ret {ρ : Type} {res : List ResultVar} {us : Mem} {X : List Nat} {rs : ρ → List SV} {dfs : ρ → Mem} {t : ρ} {e : Exit} {σ : Slots} {m : Mem} (h : FPost P res us X rs dfs t .ret σ m) : FPost P res us X rs dfs t .ret σ m := h
theorem Fn.of {f : FuncId} {fn : Func} {c : Code} {args : List SV} {us : Mem} {pn X : List Nat} {N : Nat} {ρ : Type} {M : Option ρ} {rs : ρ → List SV} {dfs : ρ → Mem} (hf : P.funcs[f]? = some fn) (hb : fn.body = some c) (hN : fn.ntmps = N)
    (hargs : args.length ≤ N) (hside : (subL (keys us) (pn ++ X) && disL X pn && subL pn (keys us)) = true)
    (h : ∀ w0 U0 R0 g0, AWR P ⟨w0, U0, R0, g0, N, pn⟩ [.code c] (argSl 0 args) us M (FPost P fn.results.toList us X rs dfs)) : ∀ t, M = some t → Fn P f args us (resA (rs t)) (dfs t) (keys us) X :=
  Fn.of_body (df := []) hf hb hN hargs hside fun w0 U0 R0 g0 _ => h w0 U0 R0 g0
end
def rn (ρ : List (Nat × Nat)) (n : Nat) : Nat := (lk ρ n).getD 0
def rnC (ρ : List (Nat × Nat)) : CV → CV
  | .loc n o l => .loc (rn ρ n) o l
  | .pl n o => .pl (rn ρ n) o
  | .fn f caps => .fn f (caps.map (rn ρ))
  | .mref n => .mref (rn ρ n)
  | .tl p k o l => .tl (rn ρ p) k o l
  | .tpl p k o => .tpl (rn ρ p) k o
  | x => x
def rnS (ρ : List (Nat × Nat)) : SV → SV
  | .c x => .c (rnC ρ x)
  | .agg cs => .agg (cs.map (rnC ρ))
def rnA (ρ : List (Nat × Nat)) : AV → AV
  | .s x => .s (rnS ρ x)
  | .tup xs => .tup (xs.map (rnS ρ))
def rnO (ρ : List (Nat × Nat)) : Ob → Ob
  | .row e els => .row e (els.map (·.map (rnC ρ)))
  | .prow e els => .prow e els
  | .mp es => .mp es
  | .pool e rows => .pool e rows
  | .trow e p lens => .trow e (rn ρ p) lens
  | .unk => .unk
def rnM (ρ : List (Nat × Nat)) (m : Mem) : Mem := m.map fun p => (rn ρ p.1, rnO ρ p.2)
section
variable {P : Program} {w : World} {R B : Nat → Prop} {g g' : Nat → GS} {ρ : List (Nat × Nat)}
theorem RC.rn {x : CV} {v : Value} (hz : okC (keys ρ) x = true) (hg : ∀ n ∈ keys ρ, g' (rn ρ n) = g n) (h : RC P w R B g x v) : RC P w R B g' (rnC ρ x) v := by
  refine ⟨h.1, ?_⟩
  have h2 := h.2
  cases x with
  | pv p => exact h2
  | px q cells => exact h2
  | loc n off len =>
    have hn := hg n (List.mem_of_elem_eq_true hz)
    rcases h2 with ⟨h3, h4⟩ | h3 | ⟨b, cap, cur, e, h3, h4⟩
    · exact .inl ⟨hn.trans h3, h4⟩
    · exact .inr (.inl h3)
    · exact .inr (.inr ⟨b, cap, cur, e, hn.trans h3, h4⟩)
  | pl n off =>
    obtain ⟨b, h3, h4⟩ := h2
    exact ⟨b, (hg n (List.mem_of_elem_eq_true hz)).trans h3, h4⟩
  | fn f caps =>
    obtain ⟨vs, h3, h4, h5⟩ := h2
    refine ⟨vs, h3, by simpa using h4, fun k n hk => ?_⟩
    rw [List.getElem?_map] at hk
    cases hc : caps[k]? with
    | none => rw [hc] at hk; cases hk
    | some n0 =>
      rw [hc] at hk
      injection hk with hk
      subst hk
      obtain ⟨b, h6, h7⟩ := h5 k n0 hc
      exact ⟨b, (hg n0 (List.mem_of_elem_eq_true (List.all_eq_true.1 hz n0 (List.mem_of_getElem? hc)))).trans h6, h7⟩
  | mref n =>
    obtain ⟨b, h3, h4⟩ := h2
    exact ⟨b, (hg n (List.mem_of_elem_eq_true hz)).trans h3, h4⟩
  | tl p k off len =>
    have hn := hg p (List.mem_of_elem_eq_true hz)
    rcases h2 with ⟨h3, h4⟩ | h3 | ⟨b, cap, cur, e, h3, h4⟩
    · exact .inl ⟨by rw [hn]; exact h3, h4⟩
    · exact .inr (.inl h3)
    · exact .inr (.inr ⟨b, cap, cur, e, by rw [hn]; exact h3, h4⟩)
  | tpl p k off =>
    obtain ⟨b, h3, h4⟩ := h2
    exact ⟨b, by rw [hg p (List.mem_of_elem_eq_true hz)]; exact h3, h4⟩
  | junk => trivial
theorem cells_rn {xs : List CV} {vs : List Value} (hz : xs.all (okC (keys ρ)) = true) (hg : ∀ n ∈ keys ρ, g' (Fw.rn ρ n) = g n) (h : ∀ (k : Nat) x, xs[k]? = some x → ∃ u, vs[k]? = some u ∧ RC P w R B g x u) :
    ∀ (k : Nat) x, (xs.map (rnC ρ))[k]? = some x → ∃ u, vs[k]? = some u ∧ RC P w R B g' x u := fun k x hk => by
  rw [List.getElem?_map] at hk
  cases hc : xs[k]? with
  | none => rw [hc] at hk; cases hk
  | some y =>
    rw [hc] at hk
    injection hk with hk
    subst hk
    obtain ⟨u, h4, h5⟩ := h k y hc
    exact ⟨u, h4, h5.rn (List.all_eq_true.1 hz y (List.mem_of_getElem? hc)) hg⟩
theorem RS.rn {x : SV} {v : Value} (hz : okS (keys ρ) x = true) (hg : ∀ n ∈ keys ρ, g' (Fw.rn ρ n) = g n) (h : RS P w R B g x v) : RS P w R B g' (rnS ρ x) v := by
  cases x with
  | c x => exact RC.rn hz hg h
  | agg cs =>
    obtain ⟨vs, h1, h2, h3⟩ := h
    exact ⟨vs, h1, by simpa using h2, cells_rn hz hg h3⟩
theorem RA.rn {x : AV} {v : Value} (hz : okA (keys ρ) x = true) (hg : ∀ n ∈ keys ρ, g' (Fw.rn ρ n) = g n) (h : RA P w R B g x v) : RA P w R B g' (rnA ρ x) v := by
  cases x with
  | s x => exact RS.rn hz hg h
  | tup xs =>
    obtain ⟨vs, h1, h2, h3⟩ := h
    refine ⟨vs, h1, by simpa using h2, fun k x hk => ?_⟩
    rw [List.getElem?_map] at hk
    cases hc : xs[k]? with
    | none => rw [hc] at hk; cases hk
    | some y =>
      rw [hc] at hk
      injection hk with hk
      subst hk
      obtain ⟨u, h4, h5⟩ := h3 k y hc
      exact ⟨u, h4, h5.rn (List.all_eq_true.1 hz y (List.mem_of_getElem? hc)) hg⟩
theorem pvs_rn (ρ : List (Nat × Nat)) (els : List (List PV)) : (pvs els).map (·.map (rnC ρ)) = pvs els := by simp [pvs, rnC, Function.comp_def]
theorem tcells_rn (ρ : List (Nat × Nat)) (p : Nat) (lens : List Nat) : (tcells p lens).map (·.map (rnC ρ)) = tcells (Fw.rn ρ p) lens := by
  refine List.ext_getElem? fun j => ?_
  simp only [tcells, List.getElem?_map, List.getElem?_mapIdx, Option.map_map]
  cases lens[j]? <;> simp [rnC]
theorem tcells_ok {zs : List Nat} {e : TypeId} {p : Nat} {lens : List Nat} (hz : okO zs (.trow e p lens) = true) : (tcells p lens).all (·.all (okC zs)) = true :=
  List.all_eq_true.2 fun cs hcs => by
    obtain ⟨j, l, rfl⟩ := mem_tcells hcs
    simpa [okC, okO] using hz
theorem ROw.rn {n : Nat} {e : TypeId} {els : List (List CV)} (hn : n ∈ keys ρ) (hz : els.all (·.all (okC (keys ρ))) = true) (hg : ∀ n ∈ keys ρ, g' (Fw.rn ρ n) = g n) (h : ROw P w R B g n e els) : ROw P w R B g' (Fw.rn ρ n) e (els.map (·.map (rnC ρ))) := by
  rcases h with ⟨h1, h2⟩ | ⟨b, cur, h1, h2, h3, h4, h5⟩
  · exact .inl ⟨(hg n hn).trans h1, by simp [h2]⟩
  · refine .inr ⟨b, cur, (hg n hn).trans h1, h2, fun cs hcs => ?_, by simpa using h4, fun j k cs x hj hk => ?_⟩
    · obtain ⟨c0, hc0, rfl⟩ := List.mem_map.1 hcs
      simpa using h3 c0 hc0
    · rw [List.getElem?_map] at hj
      cases hc : els[j]? with
      | none => rw [hc] at hj; cases hj
      | some cs0 =>
        rw [hc] at hj
        injection hj with hj
        subst hj
        rw [List.getElem?_map] at hk
        cases hc2 : cs0[k]? with
        | none => rw [hc2] at hk; cases hk
        | some y =>
          rw [hc2] at hk
          injection hk with hk
          subst hk
          obtain ⟨u, h6, h7⟩ := h5 j k cs0 y hc hc2
          exact ⟨u, h6, h7.rn (List.all_eq_true.1 (List.all_eq_true.1 hz cs0 (List.mem_of_getElem? hc)) y (List.mem_of_getElem? hc2)) hg⟩
theorem RO.rn {n : Nat} {o : Ob} (hn : n ∈ keys ρ) (hz : okO (keys ρ) o = true) (hg : ∀ n ∈ keys ρ, g' (Fw.rn ρ n) = g n) (h : RO P w R B g n o) : RO P w R B g' (Fw.rn ρ n) (rnO ρ o) := by
  cases o with
  | row e els => exact ROw.rn hn hz hg h
  | prow e els =>
    have := ROw.rn hn (by simp [pvs, List.all_eq_true, okC]) hg (els := pvs els) h
    rwa [pvs_rn] at this
  | mp es =>
    obtain ⟨b, ents, clock, h1, h2⟩ := h
    exact ⟨b, ents, clock, (hg n hn).trans h1, h2⟩
  | pool e rows =>
    obtain ⟨⟨bs, h1, h2⟩, h3⟩ := h
    exact ⟨⟨bs, (hg n hn).trans h1, h2⟩, by rw [hg n hn]; exact h3⟩
  | trow e p lens =>
    have := ROw.rn hn (tcells_ok hz) hg (els := tcells p lens) h
    rwa [tcells_rn] at this
  | unk => trivial
theorem rn_mem {n : Nat} (h : n ∈ keys ρ) : ∃ k, lk ρ n = some k ∧ (n, k) ∈ ρ := by
  induction ρ with
  | nil => simp [keys] at h
  | cons p r ih =>
    obtain ⟨a, b⟩ := p
    show ∃ k, (bif Nat.beq a n then some b else lk r n) = some k ∧ _
    cases hb : Nat.beq a n with
    | true => have := Nat.eq_of_beq_eq_true hb; subst this; exact ⟨b, rfl, List.mem_cons_self⟩
    | false =>
      have hne := Nat.ne_of_beq_eq_false hb
      have : n ∈ keys r := by
        simp [keys] at h
        rcases h with h | h
        · exact absurd h.symm hne
        · exact List.mem_map.2 (by simpa using h)
      obtain ⟨k, h1, h2⟩ := ih this
      exact ⟨k, h1, List.mem_cons_of_mem _ h2⟩
def nodup : List Nat → Bool
  | [] => true
  | n :: r => !r.elem n && nodup r
theorem nodup_inj : ∀ {ρ : List (Nat × Nat)}, nodup (ρ.map (·.2)) = true → ∀ p q, p ∈ ρ → q ∈ ρ → p.2 = q.2 → p = q
  | [], _, _, _, h, _, _ => by cases h
  | x :: r, hn, p, q, hp, hq, he => by
    unfold nodup at hn
    simp only [List.map_cons, Bool.and_eq_true, Bool.not_eq_true'] at hn
    have hx := notin_of_elem hn.1
    cases hp with
    | head =>
      cases hq with
      | head => rfl
      | tail _ hq => exact absurd (List.mem_map.2 ⟨q, hq, he.symm⟩) hx
    | tail _ hp =>
      cases hq with
      | head => exact absurd (List.mem_map.2 ⟨p, hp, he⟩) hx
      | tail _ hq => exact nodup_inj hn.2 p q hp hq he
theorem rn_inj (hn : nodup (ρ.map (·.2)) = true) {n k : Nat} (h1 : n ∈ keys ρ) (h2 : k ∈ keys ρ) (h : rn ρ n = rn ρ k) : n = k := by
  obtain ⟨a, ha, hma⟩ := rn_mem h1
  obtain ⟨b, hb, hmb⟩ := rn_mem h2
  unfold rn at h
  rw [ha, hb] at h
  have := nodup_inj hn _ _ hma hmb h
  injection this
theorem RC.un {x : CV} {v : Value} (hz : okC (keys ρ) x = true) (hg : ∀ n ∈ keys ρ, g' n = g (Fw.rn ρ n)) (h : RC P w R B g (rnC ρ x) v) : RC P w R B g' x v := by
  refine ⟨h.1, ?_⟩
  have h2 := h.2
  cases x with
  | pv p => exact h2
  | px q cells => exact h2
  | loc n off len =>
    have hn := hg n (List.mem_of_elem_eq_true hz)
    rcases h2 with ⟨h3, h4⟩ | h3 | ⟨b, cap, cur, e, h3, h4⟩
    · exact .inl ⟨hn.trans h3, h4⟩
    · exact .inr (.inl h3)
    · exact .inr (.inr ⟨b, cap, cur, e, hn.trans h3, h4⟩)
  | pl n off =>
    obtain ⟨b, h3, h4⟩ := h2
    exact ⟨b, (hg n (List.mem_of_elem_eq_true hz)).trans h3, h4⟩
  | fn f caps =>
    obtain ⟨vs, h3, h4, h5⟩ := h2
    refine ⟨vs, h3, by simpa using h4, fun k n hk => ?_⟩
    obtain ⟨b, h6, h7⟩ := h5 k (Fw.rn ρ n) (by rw [List.getElem?_map, hk]; rfl)
    exact ⟨b, (hg n (List.mem_of_elem_eq_true (List.all_eq_true.1 hz n (List.mem_of_getElem? hk)))).trans h6, h7⟩
  | mref n =>
    obtain ⟨b, h3, h4⟩ := h2
    exact ⟨b, (hg n (List.mem_of_elem_eq_true hz)).trans h3, h4⟩
  | tl p k off len =>
    have hn := hg p (List.mem_of_elem_eq_true hz)
    rcases h2 with ⟨h3, h4⟩ | h3 | ⟨b, cap, cur, e, h3, h4⟩
    · exact .inl ⟨by rw [hn]; exact h3, h4⟩
    · exact .inr (.inl h3)
    · exact .inr (.inr ⟨b, cap, cur, e, by rw [hn]; exact h3, h4⟩)
  | tpl p k off =>
    obtain ⟨b, h3, h4⟩ := h2
    exact ⟨b, by rw [hg p (List.mem_of_elem_eq_true hz)]; exact h3, h4⟩
  | junk => trivial
theorem cells_un {xs : List CV} {vs : List Value} (hz : xs.all (okC (keys ρ)) = true) (hg : ∀ n ∈ keys ρ, g' n = g (Fw.rn ρ n)) (h : ∀ (k : Nat) x, (xs.map (rnC ρ))[k]? = some x → ∃ u, vs[k]? = some u ∧ RC P w R B g x u) :
    ∀ (k : Nat) x, xs[k]? = some x → ∃ u, vs[k]? = some u ∧ RC P w R B g' x u := fun k x hk => by
  obtain ⟨u, h4, h5⟩ := h k (rnC ρ x) (by rw [List.getElem?_map, hk]; rfl)
  exact ⟨u, h4, h5.un (List.all_eq_true.1 hz x (List.mem_of_getElem? hk)) hg⟩
theorem RS.un {x : SV} {v : Value} (hz : okS (keys ρ) x = true) (hg : ∀ n ∈ keys ρ, g' n = g (Fw.rn ρ n)) (h : RS P w R B g (rnS ρ x) v) : RS P w R B g' x v := by
  cases x with
  | c x => exact RC.un hz hg h
  | agg cs =>
    obtain ⟨vs, h1, h2, h3⟩ := h
    exact ⟨vs, h1, by simpa using h2, cells_un hz hg h3⟩
theorem ROw.un {n : Nat} {e : TypeId} {els : List (List CV)} (hn : n ∈ keys ρ) (hz : els.all (·.all (okC (keys ρ))) = true) (hg : ∀ n ∈ keys ρ, g' n = g (Fw.rn ρ n)) (h : ROw P w R B g (Fw.rn ρ n) e (els.map (·.map (rnC ρ)))) : ROw P w R B g' n e els := by
  rcases h with ⟨h1, h2⟩ | ⟨b, cur, h1, h2, h3, h4, h5⟩
  · exact .inl ⟨(hg n hn).trans h1, by simpa using h2⟩
  · refine .inr ⟨b, cur, (hg n hn).trans h1, h2, fun cs hcs => ?_, by simpa using h4, fun j k cs x hj hk => ?_⟩
    · have := h3 (cs.map (rnC ρ)) (List.mem_map.2 ⟨cs, hcs, rfl⟩)
      simpa using this
    · obtain ⟨u, h6, h7⟩ := h5 j k (cs.map (rnC ρ)) (rnC ρ x) (by rw [List.getElem?_map, hj]; rfl) (by rw [List.getElem?_map, hk]; rfl)
      exact ⟨u, h6, h7.un (List.all_eq_true.1 (List.all_eq_true.1 hz cs (List.mem_of_getElem? hj)) x (List.mem_of_getElem? hk)) hg⟩
theorem RO.un {n : Nat} {o : Ob} (hn : n ∈ keys ρ) (hz : okO (keys ρ) o = true) (hg : ∀ n ∈ keys ρ, g' n = g (Fw.rn ρ n)) (h : RO P w R B g (Fw.rn ρ n) (rnO ρ o)) : RO P w R B g' n o := by
  cases o with
  | row e els => exact ROw.un hn hz hg h
  | prow e els => exact ROw.un hn (by simp [pvs, List.all_eq_true, okC]) hg (els := pvs els) (by rw [pvs_rn]; exact h)
  | mp es =>
    obtain ⟨b, ents, clock, h1, h2⟩ := h
    exact ⟨b, ents, clock, (hg n hn).trans h1, h2⟩
  | pool e rows =>
    obtain ⟨⟨bs, h1, h2⟩, h3⟩ := h
    exact ⟨⟨bs, (hg n hn).trans h1, h2⟩, by rw [hg n hn]; exact h3⟩
  | trow e p lens => exact ROw.un hn (tcells_ok hz) hg (els := tcells p lens) (by rw [tcells_rn]; exact h)
  | unk => trivial
theorem Fn.ren {f : FuncId} {args : List SV} {us df : Mem} {v : AV} {W X : List Nat} (ρ : List (Nat × Nat)) (h : Fn P f args us v df W X)
    (hc : (nodup (ρ.map (·.2)) && args.all (okS (keys ρ)) && us.all (fun p => (keys ρ).elem p.1 && okO (keys ρ) p.2) && okA (keys ρ) v && df.all (fun p => (keys ρ).elem p.1 && okO (keys ρ) p.2) && subL W (keys ρ) && subL X (keys ρ)) = true) :
    Fn P f (args.map (rnS ρ)) (rnM ρ us) (rnA ρ v) (rnM ρ df) (W.map (rn ρ)) (X.map (rn ρ)) := by
  simp only [Bool.and_eq_true] at hc
  obtain ⟨⟨⟨⟨⟨⟨hnd, hargs⟩, hus⟩, hv⟩, hdf⟩, hW⟩, hX⟩ := hc
  have hWk := subL_spec hW
  have hXk := subL_spec hX
  intro R B g w vs hw hlen hvs hust
  classical
  let gc : Nat → GS := fun n => if n ∈ keys ρ then g (rn ρ n) else .dead
  have hgc : ∀ n ∈ keys ρ, gc n = g (rn ρ n) := fun n hn => if_pos hn
  have hgd : ∀ n, gc n ≠ .dead → n ∈ keys ρ := fun n h => by
    by_cases hn : n ∈ keys ρ
    · exact hn
    · exact absurd (if_neg hn) h
  have hgk : ∀ n b, (gc n).has b → n ∈ keys ρ := fun n b h => hgd n fun e => by rw [e] at h; exact h
  have hwc : WF R B gc w := ⟨hw.rb, hw.lt, fun n b hg => by
    have hn := hgk n b hg
    rw [hgc n hn] at hg
    exact hw.ownH _ b hg, fun n k b h1 h2 => by
    have hn := hgk n b h1
    have hk := hgk k b h2
    rw [hgc n hn] at h1
    rw [hgc k hk] at h2
    exact rn_inj hnd hn hk (hw.injH _ _ b h1 h2), fun n j k b h1 h2 => by
    have hn := hgd n fun e => by rw [e] at h1; cases h1
    rw [hgc n hn] at h1 h2
    exact hw.nd _ j k b h1 h2⟩
  refine (h R B gc w vs hwc (by simpa using hlen) (fun k x hk => ?_) (fun p hp => ?_)).mono fun e w' hp => ?_
  · obtain ⟨u, h1, h2⟩ := hvs k (rnS ρ x) (by rw [List.getElem?_map, hk]; rfl)
    exact ⟨u, h1, h2.un (List.all_eq_true.1 hargs x (List.mem_of_getElem? hk)) hgc⟩
  · have h1 := List.all_eq_true.1 hus p hp
    simp only [Bool.and_eq_true] at h1
    exact RO.un (List.mem_of_elem_eq_true h1.1) h1.2 hgc (hust (rn ρ p.1, rnO ρ p.2) (List.mem_map.2 ⟨p, hp, rfl⟩))
  · obtain ⟨u, R', B', g', rfl, had, hR, hvv, hdfv⟩ := hp
    let g2 : Nat → GS := fun n => if h : ∃ k, k ∈ keys ρ ∧ rn ρ k = n then g' h.choose else g n
    have hin : ∀ k ∈ keys ρ, g2 (rn ρ k) = g' k := fun k hk => by
      have hex : ∃ j, j ∈ keys ρ ∧ rn ρ j = rn ρ k := ⟨k, hk, rfl⟩
      show (if h : ∃ j, j ∈ keys ρ ∧ rn ρ j = rn ρ k then g' h.choose else g (rn ρ k)) = g' k
      rw [dif_pos hex]
      have := hex.choose_spec
      rw [rn_inj hnd this.1 hk this.2]
    have hout : ∀ n, (¬ ∃ k, k ∈ keys ρ ∧ rn ρ k = n) → g2 n = g n := fun n hn => dif_neg hn
    have hRsz : ∀ b, R' b → b < w'.heap.size := fun b hb => had.wf.lt b (had.wf.rb b hb)
    have hcross : ∀ n k b, (¬ ∃ k, k ∈ keys ρ ∧ rn ρ k = n) → k ∈ keys ρ → (g n).has b → (g' k).has b → False := fun n k b hn hk h1 h2 => by
      by_cases hkX : k ∈ X
      · rcases had.fresh k hkX b h2 with h3 | ⟨m, hm, h3⟩
        · exact absurd (hw.ownH n b h1).2 (by omega)
        · rw [hgc m (hWk m hm)] at h3
          exact hn ⟨m, hWk m hm, hw.injH _ _ b h3 h1⟩
      · rw [had.names k hkX, hgc k hk] at h2
        exact hn ⟨k, hk, hw.injH _ _ b h2 h1⟩
    have hwf : WF R' (fun b => B b ∨ R' b) g2 w' := by
      refine ⟨fun b hb => .inr hb, fun b hb => hb.elim (fun hb => Nat.lt_of_lt_of_le (hw.lt b hb) had.size) (hRsz b), fun n b hg => ?_, fun n k b hn hk => ?_, fun n i j b hi hj => ?_⟩
      · by_cases hn : ∃ k, k ∈ keys ρ ∧ rn ρ k = n
        · obtain ⟨k, hk, rfl⟩ := hn
          rw [hin k hk] at hg
          have h1 := had.wf.ownH k b hg
          exact ⟨fun hB => h1.1 (hB.elim (had.b b) (had.wf.rb b)), h1.2⟩
        · rw [hout n hn] at hg
          have h1 := hw.ownH n b hg
          refine ⟨fun hB => ?_, Nat.lt_of_lt_of_le h1.2 had.size⟩
          rcases hB with hB | hB
          · exact h1.1 hB
          · rcases hR b hB with h2 | h2
            · exact h1.1 (hw.rb b h2)
            · exact absurd h1.2 (by omega)
      · by_cases h1 : ∃ j, j ∈ keys ρ ∧ rn ρ j = n <;> by_cases h2 : ∃ j, j ∈ keys ρ ∧ rn ρ j = k
        · obtain ⟨n0, hn0, rfl⟩ := h1
          obtain ⟨k0, hk0, rfl⟩ := h2
          rw [hin n0 hn0] at hn
          rw [hin k0 hk0] at hk
          rw [had.wf.injH n0 k0 b hn hk]
        · obtain ⟨n0, hn0, rfl⟩ := h1
          rw [hin n0 hn0] at hn
          rw [hout k h2] at hk
          exact (hcross k n0 b h2 hn0 hk hn).elim
        · obtain ⟨k0, hk0, rfl⟩ := h2
          rw [hin k0 hk0] at hk
          rw [hout n h1] at hn
          exact (hcross n k0 b h1 hk0 hn hk).elim
        · rw [hout n h1] at hn
          rw [hout k h2] at hk
          exact hw.injH n k b hn hk
      · by_cases hn : ∃ k, k ∈ keys ρ ∧ rn ρ k = n
        · obtain ⟨k, hk, rfl⟩ := hn
          rw [hin k hk] at hi hj
          exact had.wf.nd k i j b hi hj
        · rw [hout n hn] at hi hj
          exact hw.nd n i j b hi hj
    have hadv : Adv R B g w (W.map (rn ρ)) (X.map (rn ρ)) R' (fun b => B b ∨ R' b) g2 w' := by
      refine ⟨hwf, had.r, fun b hb => .inl hb, had.os, had.tape, had.output, had.size, fun b hb hnW => had.heap b hb fun n hn => ?_, fun n hn => ?_, fun n hn b hb => ?_, fun n hnW hnX b cur e hg hh => ?_⟩
      · rw [hgc n (hWk n hn)]
        exact hnW _ (List.mem_map.2 ⟨n, hn, rfl⟩)
      · by_cases h1 : ∃ k, k ∈ keys ρ ∧ rn ρ k = n
        · obtain ⟨k, hk, rfl⟩ := h1
          rw [hin k hk, had.names k fun hkX => hn (List.mem_map.2 ⟨k, hkX, rfl⟩), hgc k hk]
        · exact hout n h1
      · obtain ⟨k, hkX, rfl⟩ := List.mem_map.1 hn
        rw [hin k (hXk k hkX)] at hb
        rcases had.fresh k hkX b hb with h3 | ⟨m, hm, h3⟩
        · exact .inl h3
        · rw [hgc m (hWk m hm)] at h3
          exact .inr ⟨rn ρ m, List.mem_map.2 ⟨m, hm, rfl⟩, h3⟩
      · obtain ⟨k, hkW, rfl⟩ := List.mem_map.1 hnW
        exact had.shape k hkW (fun hkX => hnX (List.mem_map.2 ⟨k, hkX, rfl⟩)) b cur e (by rw [hgc k (hWk k hkW)]; exact hg) hh
    refine ⟨u, R', _, g2, rfl, hadv, hR, hvv.rn hv hin, fun p hp => ?_⟩
    obtain ⟨q, hq, rfl⟩ := List.mem_map.1 hp
    have h1 := List.all_eq_true.1 hdf q hq
    simp only [Bool.and_eq_true] at h1
    exact RO.rn (List.mem_of_elem_eq_true h1.1) h1.2 hin (hdfv q hq)
end
end Go.Fw
end
section
set_option linter.unusedVariables false
set_option linter.unusedSimpArgs false
set_option linter.unnecessarySimpa false
namespace Go.Fw
section
variable {P : Program} {o : Oper} {α : Type} {enc : α → List PV}
theorem LT.tlenRO {x : Operand} {t e : TypeId} {q : Bool} {xs : List α} (ho : o.op = .call { callee := .builtin .len, args := #[x], argTypes := #[t] }) (ht : P.underlying t = some (.slice e)) :
    LT P o [(x, Cc (.pv (.xs q (xs.map enc))))] [] (Iv xs.length) [] [] [] := by
  have := LT.lenRO (P := P) (o := o) (q := q) (els := xs.map enc) ho ht
  rwa [List.length_map] at this
theorem LT.tindexRO {x y : Operand} {t e : TypeId} {i : Int} {q : Bool} {xs : List α} {b : α} (ho : o.op = .indexAddr t x y) (h : elB P t = some e) (hi : idx xs i = some b) (hs : szP P e = (enc b).length) :
    LT P o [(x, Cc (.pv (.xs q (xs.map enc)))), (y, Iv i)] [] (Cc (.px q (enc b))) [] [] [] :=
  LT.indexRO ho h (idx_nn hi) (by rw [List.getElem?_map, idx_get hi]; rfl) hs.symm
theorem LT.tindexLoc {x y : Operand} {t e : TypeId} {i : Int} {n len : Nat} {xs : List α} {b : α} (hl : len = xs.length) (ho : o.op = .indexAddr t x y) (h : elB P t = some e) (hi : idx xs i = some b) :
    LT P o [(x, Cc (.loc n 0 len)), (y, Iv i)] [(n, .prow e (xs.map enc))] (Cc (.pl n (i.toNat * szP P e))) [] [] [] := by
  subst hl
  exact LT.usP (LT.indexLoc ho h (idx_nn hi) (idx_lt hi))
theorem pvs_get {xs : List α} {i : Int} {b : α} (hi : idx xs i = some b) : (pvs (xs.map enc))[i.toNat]? = some ((enc b).map .pv) := by
  simp [pvs, List.getElem?_map, idx_get hi]
theorem LT.tload1 {x : Operand} {t e : TypeId} {n off k : Nat} {i : Int} {xs : List α} {b : α} {p : PV} (ho : o.op = .load t x) (h : agB P t = some false) (hi : idx xs i = some b) (hk : (enc b)[k]? = some p)
    (ha : off = i.toNat * szP P e + k) : LT P o [(x, Cc (.pl n off))] [(n, .prow e (xs.map enc))] (Cc (.pv p)) [] [] [] :=
  LT.usP (LT.loadPl1 ho h (pvs_get hi) (by rw [List.getElem?_map, hk]; rfl) ha)
theorem LT.bload1 {x : Operand} {t e : TypeId} {n off : Nat} {cs : List CV} {c : CV} (ho : o.op = .load t x) (h : agB P t = some false) (hk : cs[off]? = some c) : LT P o [(x, Cc (.pl n off))] [(n, .row e [cs])] (Cc c) [] [] [] :=
  LT.loadPl1 (j := 0) ho h rfl hk (by rw [Nat.zero_mul, Nat.zero_add])
theorem LT.bloadN {x : Operand} {t e : TypeId} {n off s : Nat} {cs out : List CV} {it : TypeInfo} (ho : o.op = .load t x) (h : agB P t = some true) (hit : P.info? t = some it) (hs : szP P t = s) (ho2 : (cs.drop off).take s = out) (hl : out.length = s) :
    LT P o [(x, Cc (.pl n off))] [(n, .row e [cs])] (Ag out) [] [] [] := by
  have hd : ((cs.drop off).take (szP P t)) = out := by rw [hs, ho2]
  have := LT.loadPlN (P := P) (o := o) (n := n) (off := off) (e := e) (els := [cs]) (j := 0) (k := off) ho h hit rfl (by rw [Nat.zero_mul, Nat.zero_add]) (by rw [hd, hl, hs])
  rwa [hd] at this
theorem LT.bstore {t e : TypeId} {n off s : Nat} {x y : Operand} {cs out : List CV} {v : SV} {it : TypeInfo} (ho : o.op = .store t x y) (hd : o.dst = none) (hit : P.info? t = some it) (hs : szP P t = s) (hl : (svCells v).length = s) (hk : off + s ≤ cs.length)
    (hout : ow cs off (svCells v) = out) : LT P o [(x, Cc (.pl n off)), (y, .s v)] [(n, .row e [cs])] (.tup []) [(n, .row e [out])] [n] [] := by
  have := LT.store (P := P) (o := o) (n := n) (off := off) (e := e) (els := [cs]) (j := 0) (k := off) ho hd hit hs hl rfl (by rw [Nat.zero_mul, Nat.zero_add]) hk
  subst hout
  exact this
theorem LT.tstore {t e : TypeId} {n off k s : Nat} {x y : Operand} {i : Int} {xs : List α} {b b' : α} {v : SV} {it : TypeInfo} (ho : o.op = .store t x y) (hd : o.dst = none) (hit : P.info? t = some it) (hs : szP P t = s) (hl : (svCells v).length = s) (hi : idx xs i = some b)
    (ha : off = i.toNat * szP P e + k) (hk : k + s ≤ (enc b).length) (hb : ow ((enc b).map .pv) k (svCells v) = (enc b').map .pv) :
    LT P o [(x, Cc (.pl n off)), (y, .s v)] [(n, .prow e (xs.map enc))] (.tup []) [(n, .prow e ((xs.set i.toNat b').map enc))] [n] [] := by
  have := LT.store (P := P) (o := o) (n := n) (off := off) (e := e) (els := pvs (xs.map enc)) ho hd hit hs hl (pvs_get hi) ha (by simpa using hk)
  have e1 : (pvs (xs.map enc)).set i.toNat (ow ((enc b).map .pv) k (svCells v)) = pvs ((xs.set i.toNat b').map enc) := by
    rw [hb]
    simp [pvs, List.map_set]
  rw [e1] at this
  exact LT.dfP (Y := []) (LT.usP (by rw [pvs_junk]; exact this))
section
variable {t e : TypeId} {x y : Operand} {n n2 len len2 : Nat} {xs ys : List α} {z : Value} {s by_ : Nat} {q : Bool}
theorem enc_len (h : ∀ a, (enc a).length = s) : ∀ cs ∈ ys.map enc, cs.length = s := fun cs hcs => by
  obtain ⟨a, _, rfl⟩ := List.mem_map.1 hcs
  exact h a
theorem LT.tappRO (hl : len = xs.length) (ho : o.op = .call { callee := .builtin .append, args := #[x, y], argTypes := #[t, t] }) (ht : P.underlying t = some (.slice e)) (hz : TI P e z s by_) (hzs : z.cells.size = s) (hs : 0 < s) (hb : by_ ≤ 65536)
    (hl2 : ∀ a, (enc a).length = s) (hlim : xs.length + ys.length ≤ LIM) :
    LT P o [(x, Cc (.loc n 0 len)), (y, Cc (.pv (.xs q (ys.map enc))))] [(n, .prow e (xs.map enc))] (Cc (.loc n 0 (xs ++ ys).length)) [(n, .prow e ((xs ++ ys).map enc))] [n] [n] := by
  subst hl
  have := LT.appP_RO (P := P) (o := o) (n := n) (q := q) (pels := xs.map enc) (pels2 := ys.map enc) ho ht hz hzs hs hb (enc_len hl2) (by simpa using hlim)
  rwa [List.length_map, List.length_map, ← List.map_append, ← List.length_append] at this
theorem LT.tappP (hl : len = xs.length) (hl2 : len2 = ys.length) (ho : o.op = .call { callee := .builtin .append, args := #[x, y], argTypes := #[t, t] }) (ht : P.underlying t = some (.slice e)) (hz : TI P e z s by_) (hzs : z.cells.size = s) (hs : 0 < s) (hb : by_ ≤ 65536)
    (hel : ∀ a, (enc a).length = s) (hlim : xs.length + ys.length ≤ LIM) :
    LT P o [(x, Cc (.loc n 0 len)), (y, Cc (.loc n2 0 len2))] [(n, .prow e (xs.map enc)), (n2, .prow e (ys.map enc))] (Cc (.loc n 0 (xs ++ ys).length)) [(n, .prow e ((xs ++ ys).map enc))] [n] [n] := by
  subst hl; subst hl2
  have := LT.appP_P (P := P) (o := o) (n := n) (n2 := n2) (pels := xs.map enc) (pels2 := ys.map enc) ho ht hz hzs hs hb (enc_len hel) (by simpa using hlim)
  rwa [List.length_map, List.length_map, ← List.map_append, ← List.length_append] at this
end
theorem LT.tbuildSlice {t e : TypeId} {len n : Nat} {parts : Array (Nat × Operand)} (ps : Parts) {z : Value} {s b : Nat} {zc : List CV} (xs : List α) (ho : o.op = .buildSlice t len parts) (hps : parts.toList = Parts.ops ps) (he : P.underlying t = some (.slice e)) (hz : TI P e z s b)
    (hzc : z.cells.toList.map sC = zc) (h1 : z.cells.toList.all (·.oneCell') = true) (hsz : zc.length = s) (hlen : xs.length = len) (hmax : len * s ≤ 16777216 ∧ 0 < s) (hel : ∀ a, (enc a).length = s)
    (hf : fillC (fun i => some (i * s, s)) ((List.range (len * s)).map fun i => zc.getD (i % s) .junk) (Parts.vals ps) = some (pvs (xs.map enc)).flatten) :
    LT P o (Parts.ins ps) [] (Cc (.loc n 0 xs.length)) [(n, .prow e (xs.map enc))] [] [n] := by
  have hlen' : (pvs (xs.map enc)).length = xs.length := by simp [pvs]
  have := LT.buildSlice (P := P) (o := o) (n := n) ps (els := pvs (xs.map enc)) ho hps he hz hzc h1 hsz (hlen'.trans hlen) hmax (by
    refine List.all_eq_true.2 fun cs hcs => ?_
    obtain ⟨c, hc, rfl⟩ := List.mem_map.1 hcs
    obtain ⟨a, _, rfl⟩ := List.mem_map.1 hc
    rw [List.length_map, hel a]
    exact Nat.beq_refl s) hf
  rw [hlen'] at this
  exact this.dfP
theorem LT.tmake {t e : TypeId} {n : Nat} {x y : Operand} {len : Int} {z : Value} {s b : Nat} {zc : List CV} (a : α) (ho : o.op = .makeSlice t x y) (he : P.underlying t = some (.slice e)) (hz : TI P e z s b)
    (hzc : z.cells.toList.map sC = zc) (h1 : z.cells.toList.all (·.oneCell') = true) (hsz : zc.length = s) (hs : 0 < s) (hb : b ≤ 65536) (hl : 0 ≤ len ∧ len ≤ LIM) (ha : (enc a).map .pv = zc) :
    LT P o [(x, Iv len), (y, Iv len)] [] (Cc (.loc n 0 (List.replicate len.toNat a).length)) [(n, .prow e ((List.replicate len.toNat a).map enc))] [] [n] := by
  have := LT.makeSlice (P := P) (o := o) (n := n) (x := x) (y := y) ho he hz hzc h1 hsz hs hb hl
  have e1 : List.replicate len.toNat zc = pvs ((List.replicate len.toNat a).map enc) := by simp [pvs, List.map_replicate, ha]
  have e2 : (List.replicate len.toNat zc).length = (List.replicate len.toNat a).length := by simp
  rw [e2, e1] at this
  exact this.dfP
theorem ShC.tloc {sh : Mem} {n len : Nat} {e : TypeId} {xs : List α} (hl : len = xs.length) (h : lk sh n = some (.prow e (xs.map enc))) : ShC sh (.loc n 0 len) (.pv (.xs false (xs.map enc))) := by
  subst hl
  have := ShC.loc h
  rwa [List.length_map] at this
def JunkL (X : List Nat) : Mem → Prop
  | [] => True
  | (_, o) :: r => junkO X o = o ∧ JunkL X r
theorem JunkL.spec {X : List Nat} : ∀ {us : Mem}, JunkL X us → ∀ p ∈ us, junkO X p.2 = p.2
  | [], _, p, hp => by cases hp
  | (n, o) :: r, h, p, hp => by
    cases hp with
    | head => exact h.1
    | tail _ hp => exact JunkL.spec h.2 p hp
theorem LT.callF {cf : Operand} {f : FuncId} {ops : Array Operand} {ts : Array TypeId} {xs ys : List SV} {us sh df : Mem} {v : AV} {W X : List Nat} (hf : Fn P f ys us v df W X)
    (ho : o.op = .call { callee := .value cf, args := ops, argTypes := ts }) (hb : callB P f = true) (hsh : ShA sh xs ys) (hlen : ops.size = xs.length)
    (hside : (disL (keys sh) (W ++ X ++ keys us ++ keys df ++ []) && subL W (keys us)) = true) (hus : JunkL (keys sh) us) : LT P o ((cf, Cc (.fn f [])) :: zipOps ops.toList xs) (us ++ sh) v df W X :=
  LT.call (caps := []) (by rw [List.map_nil, List.append_nil]; exact hf) ho hb hlen hsh hside hus.spec
end
section
variable {P : Program} {C : Ctx} {σ : Slots} {m : Mem}
theorem St.nilName {R B : Nat → Prop} {g : Nat → GS} {a : Act} {w : World} (hs : St P C σ m R B g a w) (n : Nat) (hn : n ∉ C.pn) (e : TypeId) : St P C (junkSl [n] σ) ((n, .prow e []) :: junkM [n] m) R B (upd g n .nil) a w := by
  have had : Adv R B g w [] [n] R B (upd g n .nil) w := by
    refine ⟨hs.wf.upd n _ (Nat.le_refl _) (fun b hb => hb.elim) (fun i j b hi => by cases hi), fun _ h => h, fun _ h => h, rfl, rfl, rfl, Nat.le_refl _, fun _ _ _ => rfl, fun k hk => upd_ne g _ (by simpa using hk), fun k hk b hb => ?_, fun k hk => by cases hk⟩
    · have : k = n := by simpa using hk
      subst this
      rw [upd_same] at hb; exact hb.elim
  exact hs.step (us := []) (df := [(n, .prow e [])]) (W := []) (X := [n]) (d := none) (v := .tup []) (u := undef) trivial (fun _ h => by cases h) (fun p hp => by
      have : p = (n, .prow e []) := by simpa using hp
      subst this; exact .inl (by simp)) rfl (fun k hk => by
      have : k = n := by simpa using hk
      subst this; exact hn) had (fun b hb => .inl hb) (fun h => by cases h) (one_ro (.inl ⟨upd_same .., rfl⟩))
def nilAt (n k : Nat) (cs : List CV) : List CV := cs.set k (.loc n 0 0)
theorem nilAt_rel {w : World} {R B : Nat → Prop} {g : Nat → GS} {n k : Nat} {cs : List CV} {us : Nat → Option Value} (hg : g n = .nil) (hk : cs[k]? = some (sC nilV)) (h : ∀ (j : Nat) x, cs[j]? = some x → ∃ u, us j = some u ∧ RC P w R B g x u) :
    ∀ (j : Nat) x, (nilAt n k cs)[j]? = some x → ∃ u, us j = some u ∧ RC P w R B g x u := fun j x hj => by
  unfold nilAt at hj
  rw [List.getElem?_set] at hj
  by_cases hkj : k = j
  · subst hkj
    have hlt : k < cs.length := (List.getElem?_eq_some_iff.1 hk).1
    rw [if_pos rfl, if_pos hlt] at hj
    injection hj with hj
    subst hj
    obtain ⟨u, h1, h2⟩ := h k _ hk
    obtain ⟨_, h2⟩ := h2
    cases h2
    exact ⟨nilV, h1, rfl, .inl ⟨hg, rfl, rfl, rfl⟩⟩
  · rw [if_neg hkj] at hj
    exact h j x hj
theorem junk_nil_at {n k : Nat} {cs : List CV} (h : cs[k]? = some (sC nilV)) : (cs.map (junkC [n]))[k]? = some (sC nilV) := by rw [List.getElem?_map, h]; rfl
theorem Ent.nilB (b k n : Nat) (e : TypeId) {t : TypeId} {cs : List CV} (hn : C.pn.elem n = false) (hbn : Nat.beq b n = false) (h : lk m b = some (.row t [cs])) (hk : cs[k]? = some (sC nilV)) :
    Ent P C σ m (junkSl [n] σ) ((b, .row t [nilAt n k (cs.map (junkC [n]))]) :: (n, .prow e []) :: junkM [n] m) := fun R B g a w hs => by
  have h1 := hs.nilName n (notin_of_elem hn) e
  have hne : b ≠ n := Nat.ne_of_beq_eq_false hbn
  have hlk : lk ((n, Ob.prow e []) :: junkM [n] m) b = some (.row t [cs.map (junkC [n])]) := by
    show (bif Nat.beq n b then some (Ob.prow e []) else lk (junkM [n] m) b) = _
    have hnb : Nat.beq n b = false := by
      cases hx : Nat.beq n b with
      | false => rfl
      | true => exact absurd (Nat.eq_of_beq_eq_true hx).symm hne
    rw [hnb, cond_false, lk_junkM', if_neg (by simpa using hne), h]
    rfl
  refine ⟨R, B, _, { h1 with ob := fun j o hj => ?_, ow := fun j o c hj hg => ?_ }⟩
  · change (bif Nat.beq b j then some (Ob.row t [nilAt n k (cs.map (junkC [n]))]) else lk ((n, Ob.prow e []) :: junkM [n] m) j) = some o at hj
    cases hb : Nat.beq b j with
    | false => rw [hb] at hj; exact h1.ob j o hj
    | true =>
      rw [hb, cond_true] at hj
      injection hj with hj
      subst hj
      have := Nat.eq_of_beq_eq_true hb
      subst this
      have h2 := h1.ob b _ hlk
      rcases h2 with ⟨_, h3⟩ | ⟨c, cur, h3, h4, h5, h6, h7⟩
      · cases h3
      · refine .inr ⟨c, cur, h3, h4, fun x hx => ?_, by simpa using h6, fun j k' x y hj hk' => ?_⟩
        · have : x = nilAt n k (cs.map (junkC [n])) := by simpa using hx
          subst this
          have := h5 (cs.map (junkC [n])) (by simp)
          simpa [nilAt] using this
        · cases j with
          | zero =>
            simp at hj
            subst hj
            exact nilAt_rel (us := fun k' => cur[0 * szP P t + k']?) (upd_same ..) (junk_nil_at hk) (fun q y hq => h7 0 q _ y rfl hq) k' y hk'
          | succ j => simp at hj
  · change (bif Nat.beq b j then some (Ob.row t [nilAt n k (cs.map (junkC [n]))]) else lk ((n, Ob.prow e []) :: junkM [n] m) j) = some o at hj
    cases hb : Nat.beq b j with
    | false => rw [hb] at hj; exact h1.ow j o c hj hg
    | true =>
      have := Nat.eq_of_beq_eq_true hb
      subst this
      exact h1.ow b _ c hlk hg
end
end Go.Fw
end
section
set_option linter.unusedVariables false
set_option linter.unusedSimpArgs false
set_option linter.unnecessarySimpa false
namespace Go.Fw
def mvN (n k j : Nat) : Nat := bif Nat.beq j n then k else j
def mvC (n k : Nat) : CV → CV
  | .loc j o l => .loc (mvN n k j) o l
  | .pl j o => .pl (mvN n k j) o
  | .fn f caps => .fn f (caps.map (mvN n k))
  | .mref j => .mref (mvN n k j)
  | .tl j i o l => .tl (mvN n k j) i o l
  | .tpl j i o => .tpl (mvN n k j) i o
  | x => x
def mvS (n k : Nat) : SV → SV
  | .c x => .c (mvC n k x)
  | .agg cs => .agg (cs.map (mvC n k))
def mvA (n k : Nat) : AV → AV
  | .s x => .s (mvS n k x)
  | .tup xs => .tup (xs.map (mvS n k))
def mvO (n k : Nat) : Ob → Ob
  | .row e els => .row e (els.map (·.map (mvC n k)))
  | .prow e els => .prow e els
  | .mp es => .mp es
  | .pool e rows => .pool e rows
  | .trow e p lens => .trow e (mvN n k p) lens
  | .unk => .unk
def mvSl (n k : Nat) (σ : Slots) : Slots := σ.map fun p => (p.1, mvA n k p.2)
def mvM (n k : Nat) (m : Mem) : Mem := m.map fun p => (mvN n k p.1, mvO n k p.2)
def mvG (n k : Nat) (g : Nat → GS) : Nat → GS := fun j => if j = k then g n else if j = n then .dead else g j
theorem mvG_mv {n k j : Nat} (g : Nat → GS) (hj : j ≠ k) : mvG n k g (mvN n k j) = g j := by
  unfold mvN
  cases hb : Nat.beq j n with
  | true =>
    have := Nat.eq_of_beq_eq_true hb
    subst this
    simp [mvG]
  | false =>
    have := Nat.ne_of_beq_eq_false hb
    simp [mvG, hj, this]
section
variable {P : Program} {w : World} {R B : Nat → Prop} {g : Nat → GS} {n k : Nat}
theorem ne_of_elem1 {j k : Nat} (h : [k].elem j = false) : j ≠ k := by
  have := notin_of_elem h
  simpa using this
theorem RC.mv {x : CV} {v : Value} (hz : nrC [k] x = true) (h : RC P w R B g x v) : RC P w R B (mvG n k g) (mvC n k x) v := by
  refine ⟨h.1, ?_⟩
  have h2 := h.2
  cases x with
  | pv p => exact h2
  | px q cells => exact h2
  | loc j off len =>
    have hn := mvG_mv (n := n) g (ne_of_elem1 (by simpa [nrC] using hz))
    rcases h2 with ⟨h3, h4⟩ | h3 | ⟨b, cap, cur, e, h3, h4⟩
    · exact .inl ⟨hn.trans h3, h4⟩
    · exact .inr (.inl h3)
    · exact .inr (.inr ⟨b, cap, cur, e, hn.trans h3, h4⟩)
  | pl j off =>
    obtain ⟨b, h3, h4⟩ := h2
    exact ⟨b, (mvG_mv g (ne_of_elem1 (by simpa [nrC] using hz))).trans h3, h4⟩
  | fn f caps =>
    obtain ⟨vs, h3, h4, h5⟩ := h2
    refine ⟨vs, h3, by simpa using h4, fun i j hk => ?_⟩
    rw [List.getElem?_map] at hk
    cases hc : caps[i]? with
    | none => rw [hc] at hk; cases hk
    | some n0 =>
      rw [hc] at hk
      injection hk with hk
      subst hk
      obtain ⟨b, h6, h7⟩ := h5 i n0 hc
      have hz' : caps.any [k].elem = false := by simpa [nrC] using hz
      have hne : [k].elem n0 = false := by
        cases hx : [k].elem n0 with
        | false => rfl
        | true =>
          have : caps.any [k].elem = true := List.any_eq_true.2 ⟨n0, List.mem_of_getElem? hc, hx⟩
          rw [hz'] at this
          cases this
      exact ⟨b, (mvG_mv g (ne_of_elem1 hne)).trans h6, h7⟩
  | mref j =>
    obtain ⟨b, h3, h4⟩ := h2
    exact ⟨b, (mvG_mv g (ne_of_elem1 (by simpa [nrC] using hz))).trans h3, h4⟩
  | tl j i off len =>
    have hn := mvG_mv (n := n) g (ne_of_elem1 (by simpa [nrC] using hz))
    rcases h2 with ⟨h3, h4⟩ | h3 | ⟨b, cap, cur, e, h3, h4⟩
    · exact .inl ⟨by rw [hn]; exact h3, h4⟩
    · exact .inr (.inl h3)
    · exact .inr (.inr ⟨b, cap, cur, e, by rw [hn]; exact h3, h4⟩)
  | tpl j i off =>
    obtain ⟨b, h3, h4⟩ := h2
    exact ⟨b, by rw [mvG_mv (n := n) g (ne_of_elem1 (by simpa [nrC] using hz))]; exact h3, h4⟩
  | junk => trivial
theorem nr_junkC (X : List Nat) (x : CV) : nrC X (junkC X x) = true := by
  cases x with
  | loc j o l => cases hx : X.elem j <;> simp only [nrC, junkC, hx, cond_true, cond_false, Bool.not_false]
  | pl j o => cases hx : X.elem j <;> simp only [nrC, junkC, hx, cond_true, cond_false, Bool.not_false]
  | fn f caps => cases hx : caps.any X.elem <;> simp only [nrC, junkC, hx, cond_true, cond_false, Bool.not_false]
  | mref j => cases hx : X.elem j <;> simp only [nrC, junkC, hx, cond_true, cond_false, Bool.not_false]
  | tl j i o l => cases hx : X.elem j <;> simp only [nrC, junkC, hx, cond_true, cond_false, Bool.not_false]
  | tpl j i o => cases hx : X.elem j <;> simp only [nrC, junkC, hx, cond_true, cond_false, Bool.not_false]
  | _ => rfl
theorem cells_mv {xs : List CV} {us : Nat → Option Value} (h : ∀ (i : Nat) x, (xs.map (junkC [k]))[i]? = some x → ∃ u, us i = some u ∧ RC P w R B g x u) :
    ∀ (i : Nat) x, ((xs.map (junkC [k])).map (mvC n k))[i]? = some x → ∃ u, us i = some u ∧ RC P w R B (mvG n k g) x u := fun i x hi => by
  rw [List.getElem?_map] at hi
  cases hc : (xs.map (junkC [k]))[i]? with
  | none => rw [hc] at hi; cases hi
  | some y =>
    rw [hc] at hi
    injection hi with hi
    subst hi
    obtain ⟨u, h1, h2⟩ := h i y hc
    refine ⟨u, h1, h2.mv ?_⟩
    rw [List.getElem?_map] at hc
    cases hx : xs[i]? with
    | none => rw [hx] at hc; cases hc
    | some z =>
      rw [hx] at hc
      injection hc with hc
      subst hc
      exact nr_junkC _ _
theorem RS.mv {x : SV} {v : Value} (h : RS P w R B g (junkS [k] x) v) : RS P w R B (mvG n k g) (mvS n k (junkS [k] x)) v := by
  cases x with
  | c x => exact RC.mv (nr_junkC _ _) h
  | agg cs =>
    obtain ⟨vs, h1, h2, h3⟩ := h
    exact ⟨vs, h1, by simpa using h2, cells_mv (us := fun i => vs[i]?) h3⟩
theorem RA.mv {x : AV} {v : Value} (h : RA P w R B g (junkA [k] x) v) : RA P w R B (mvG n k g) (mvA n k (junkA [k] x)) v := by
  cases x with
  | s x => exact RS.mv h
  | tup xs =>
    obtain ⟨vs, h1, h2, h3⟩ := h
    refine ⟨vs, h1, by simpa using h2, fun i x hi => ?_⟩
    rw [List.getElem?_map, List.getElem?_map] at hi
    cases hx : xs[i]? with
    | none => rw [hx] at hi; cases hi
    | some z =>
      rw [hx] at hi
      injection hi with hi
      subst hi
      obtain ⟨u, h4, h5⟩ := h3 i (junkS [k] z) (by rw [List.getElem?_map, hx]; rfl)
      exact ⟨u, h4, h5.mv⟩
theorem RO.mv {j : Nat} {o : Ob} (hj : j ≠ k) (h : RO P w R B g j (junkO [k] o)) : RO P w R B (mvG n k g) (mvN n k j) (mvO n k (junkO [k] o)) := by
  have hg := mvG_mv (n := n) g hj
  have hrow : ∀ {e : TypeId} {els : List (List CV)}, ROw P w R B g j e (els.map (·.map (junkC [k]))) → ROw P w R B (mvG n k g) (mvN n k j) e ((els.map (·.map (junkC [k]))).map (·.map (mvC n k))) := fun {e els} h => by
    rcases h with ⟨h1, h2⟩ | ⟨b, cur, h1, h2, h3, h4, h5⟩
    · exact .inl ⟨hg.trans h1, by rw [h2]; rfl⟩
    · refine .inr ⟨b, cur, hg.trans h1, h2, fun cs hcs => ?_, by simpa using h4, fun i q cs x hi hq => ?_⟩
      · obtain ⟨c0, hc0, rfl⟩ := List.mem_map.1 hcs
        simpa using h3 c0 hc0
      · rw [List.getElem?_map, List.getElem?_map] at hi
        cases hc : els[i]? with
        | none => rw [hc] at hi; cases hi
        | some c0 =>
          rw [hc] at hi
          injection hi with hi
          subst hi
          exact cells_mv (us := fun q => cur[i * szP P e + q]?) (fun q y hq => h5 i q _ y (by rw [List.getElem?_map, hc]; rfl) hq) q x hq
  cases o with
  | row e els => exact hrow h
  | prow e els =>
    have h' : ROw P w R B g j e ((pvs els).map (·.map (junkC [k]))) := by rw [pvs_junk]; exact h
    have := hrow h'
    rw [pvs_junk] at this
    have e1 : (pvs els).map (·.map (mvC n k)) = pvs els := by simp [pvs, mvC, Function.comp_def]
    rw [e1] at this
    exact this
  | mp es =>
    obtain ⟨b, ents, clock, h1, h2⟩ := h
    exact ⟨b, ents, clock, hg.trans h1, h2⟩
  | pool e rows =>
    obtain ⟨⟨bs, h1, h2⟩, h3⟩ := h
    exact ⟨⟨bs, hg.trans h1, h2⟩, by rw [hg]; exact h3⟩
  | trow e p lens =>
    change RO P w R B g j (bif [k].elem p then .unk else .trow e p lens) at h
    show RO P w R B (mvG n k g) (mvN n k j) (mvO n k (bif [k].elem p then .unk else .trow e p lens))
    cases hx : [k].elem p with
    | true => trivial
    | false =>
      rw [hx] at h
      have h' : ROw P w R B g j e ((tcells p lens).map (·.map (junkC [k]))) := by
        rw [tcells_junk hx]
        exact h
      have := hrow h'
      rw [tcells_junk hx] at this
      have e1 : (tcells p lens).map (·.map (mvC n k)) = tcells (mvN n k p) lens := by
        refine List.ext_getElem? fun i => ?_
        simp only [tcells, List.getElem?_map, List.getElem?_mapIdx, Option.map_map]
        cases lens[i]? <;> simp [mvC]
      rw [e1] at this
      exact this
  | unk => trivial
end
section
variable {P : Program} {C : Ctx} {σ : Slots} {m : Mem} {n k : Nat}
theorem lk_mvSl (n k : Nat) : ∀ (σ : Slots) (t : Nat), lk (mvSl n k σ) t = (lk σ t).map (mvA n k)
  | [], _ => rfl
  | (j, v) :: r, t => by
    show (bif Nat.beq j t then some (mvA n k v) else lk (mvSl n k r) t) = Option.map (mvA n k) (bif Nat.beq j t then some v else lk r t)
    cases Nat.beq j t
    · exact lk_mvSl n k r t
    · rfl
theorem mem_mvM {m : Mem} {j : Nat} {o : Ob} (h : lk (mvM n k m) j = some o) : ∃ j0 o0, (j0, o0) ∈ m ∧ j = mvN n k j0 ∧ o = mvO n k o0 := by
  obtain ⟨p, hp, he⟩ := List.mem_map.1 (lk_mem h)
  injection he with h1 h2
  exact ⟨p.1, p.2, hp, h1.symm, h2.symm⟩
def uniqM : Mem → Bool
  | [] => true
  | (n, _) :: r => !(keys r).elem n && uniqM r
theorem uniqM_lk : ∀ {m : Mem} {n : Nat} {o : Ob}, uniqM m = true → (n, o) ∈ m → lk m n = some o
  | [], _, _, _, h => by cases h
  | (j, x) :: r, n, o, hu, h => by
    unfold uniqM at hu
    simp only [Bool.and_eq_true, Bool.not_eq_true'] at hu
    show (bif Nat.beq j n then some x else lk r n) = some o
    cases h with
    | head => rw [Nat.beq_refl]; rfl
    | tail _ h =>
      have hne : j ≠ n := fun e => notin_of_elem hu.1 (e ▸ List.mem_map.2 ⟨_, h, rfl⟩)
      cases hb : Nat.beq j n with
      | true => exact absurd (Nat.eq_of_beq_eq_true hb) hne
      | false => exact uniqM_lk hu.2 h
theorem Ent.mv (n k : Nat) (hp : (!C.pn.elem n && !C.pn.elem k) = true) (hu : uniqM m = true) : Ent P C σ m (mvSl n k (junkSl [k] σ)) (mvM n k (junkM [k] m)) := fun R B g a w hs => by
  simp only [Bool.and_eq_true, Bool.not_eq_true'] at hp
  have hpn := notin_of_elem hp.1
  have hpk := notin_of_elem hp.2
  -- forget k first
  have had : Adv R B g w [] [k] R B (upd g k .dead) w := by
    refine ⟨hs.wf.upd k _ (Nat.le_refl _) (fun b hb => hb.elim) (fun i j b hi => by cases hi), fun _ h => h, fun _ h => h, rfl, rfl, rfl, Nat.le_refl _, fun _ _ _ => rfl, fun i hi => upd_ne g _ (by simpa using hi), fun i hi b hb => ?_, fun i hi => by cases hi⟩
    · have : i = k := by simpa using hi
      subst this
      rw [upd_same] at hb; exact hb.elim
  have h1 : St P C (junkSl [k] σ) (junkM [k] m) R B (upd g k .dead) a w :=
    hs.step (us := []) (df := []) (W := []) (X := [k]) (d := none) (v := .tup []) (u := undef) trivial (fun _ h => by cases h) (fun p hp => by cases hp) rfl (fun j hj => by
      have : j = k := by simpa using hj
      subst this; exact hpk) had (fun b hb => .inl hb) (fun h => by cases h) (fun p hp => by cases hp)
  have hjm : ∀ (m0 : Mem) (j : Nat) (o : Ob), (j, o) ∈ junkM [k] m0 → j ≠ k ∧ ∃ o0, (j, o0) ∈ m0 ∧ o = junkO [k] o0 := by
    intro m0
    induction m0 with
    | nil => intro j o h; cases h
    | cons p r ih =>
      intro j o h
      obtain ⟨i, x⟩ := p
      unfold junkM at h
      cases hi : [k].elem i with
      | true =>
        rw [hi, cond_true] at h
        obtain ⟨h1, o0, h2, h3⟩ := ih j o h
        exact ⟨h1, o0, List.mem_cons_of_mem _ h2, h3⟩
      | false =>
        rw [hi, cond_false] at h
        cases h with
        | head => exact ⟨ne_of_elem1 hi, x, List.mem_cons_self, rfl⟩
        | tail _ h =>
          obtain ⟨h1, o0, h2, h3⟩ := ih j o h
          exact ⟨h1, o0, List.mem_cons_of_mem _ h2, h3⟩
  have hlk : ∀ j o, (j, o) ∈ junkM [k] m → lk (junkM [k] m) j = some o := fun j o hm => by
    obtain ⟨h2, o0, h3, rfl⟩ := hjm m j o hm
    rw [lk_junkM', if_neg (by simpa using h2), uniqM_lk hu h3]
    rfl
  generalize upd g k .dead = g1 at h1
  refine ⟨R, B, mvG n k g1, { h1 with wf := ⟨h1.wf.rb, h1.wf.lt, fun j b hj => ?_, fun i j b hi hj => ?_, fun q i j b hi hj => ?_⟩, sl := fun t v ht => ?_, ob := fun j o hj => ?_, ow := fun j o b hj hb => ?_, pin := fun j hj => ?_ }⟩
  · unfold mvG at hj
    split at hj
    · exact h1.wf.ownH n b hj
    · split at hj
      · exact hj.elim
      · exact h1.wf.ownH j b hj
  · unfold mvG at hi hj
    split at hi
    · rename_i e1
      split at hj
      · rename_i e2; rw [e1, e2]
      · split at hj
        · exact hj.elim
        · rename_i e3; exact absurd (h1.wf.injH n j b hi hj).symm e3
    · split at hi
      · exact hi.elim
      · rename_i e1 e2
        split at hj
        · exact absurd (h1.wf.injH i n b hi hj) e2
        · split at hj
          · exact hj.elim
          · exact h1.wf.injH i j b hi hj
  · unfold mvG at hi hj
    split at hi
    · rename_i e1
      rw [if_pos e1] at hj
      exact h1.wf.nd n i j b hi hj
    · rename_i e1
      rw [if_neg e1] at hj
      split at hi
      · cases hi
      · rename_i e2
        rw [if_neg e2] at hj
        exact h1.wf.nd q i j b hi hj
  · rw [lk_mvSl, lk_junkSl] at ht
    cases hl : lk σ t with
    | none => rw [hl] at ht; cases ht
    | some x =>
      rw [hl] at ht
      injection ht with ht
      subst ht
      exact RA.mv (h1.sl t _ (by rw [lk_junkSl, hl]; rfl))
  · obtain ⟨j0, o0, hm, rfl, rfl⟩ := mem_mvM hj
    obtain ⟨h2, o1, h3, rfl⟩ := hjm m j0 o0 hm
    exact RO.mv h2 (h1.ob j0 _ (hlk j0 _ hm))
  · obtain ⟨j0, o0, hm, rfl, rfl⟩ := mem_mvM hj
    obtain ⟨h2, _⟩ := hjm m j0 o0 hm
    rw [mvG_mv g1 h2] at hb
    exact h1.ow j0 o0 b (hlk j0 o0 hm) hb
  · have e1 : j ≠ k := fun e => hpk (e ▸ hj)
    have e2 : j ≠ n := fun e => hpn (e ▸ hj)
    have : mvG n k g1 j = g1 j := by simp [mvG, e1, e2]
    rw [this]
    exact h1.pin j hj
end
end Go.Fw
end
section
set_option linter.unusedVariables false
set_option linter.unusedSimpArgs false
set_option linter.unnecessarySimpa false
namespace Go.Fw
def eqI : List Int → List Int → Bool
  | [], [] => true
  | a :: r, b :: s => (a == b) && eqI r s
  | _, _ => false
def istF (P : Program) : Nat → List Field → Bool
  | _, [] => true
  | k, f :: r => (f.name != "_") && Nat.beq f.offset k && (match P.underlying f.type with | some (.int _) => true | _ => false) && istF P (k + 1) r
def istB (P : Program) (t : TypeId) : Option Nat := match P.underlying t with
  | some (.struct fs) => if (istF P 0 fs.toList && !P.stoodInHeld t && !P.eqGuardType P.depth t) = true then some fs.size else none
  | _ => none
section
variable {P : Program} {o : Oper}
def ivs (l : List Int) : Array Value := (l.map fun n => Value.int .i64 n).toArray
theorem run_eqInts (w : World) (d : Nat) : ∀ (fs : List Field) (k : Nat) (xs ys : List Int), istF P k fs = true → xs.length = k + fs.length → ys.length = k + fs.length →
    (Op.eqFields (d + 1) (ivs xs) (ivs ys) fs).run P w = .ok (eqI (xs.drop k) (ys.drop k)) w
  | [], k, xs, ys, _, hx, hy => by
    rw [List.drop_eq_nil_of_le (by simp at hx; omega), List.drop_eq_nil_of_le (by simp at hy; omega)]
    rfl
  | f :: r, k, xs, ys, h, hx, hy => by
    unfold istF at h
    simp only [Bool.and_eq_true] at h
    obtain ⟨⟨⟨h1, h2⟩, h3⟩, h4⟩ := h
    have hoff : f.offset = k := Nat.eq_of_beq_eq_true h2
    have hname : f.name ≠ "_" := by simpa using h1
    have hkx : k < xs.length := by simp at hx; omega
    have hky : k < ys.length := by simp at hy; omega
    have hkind : ∃ kd, P.underlying f.type = some (.int kd) := by
      split at h3
      · exact ⟨_, by assumption⟩
      · cases h3
    obtain ⟨kd, hk⟩ := hkind
    have hpx : (part f.type (ivs xs) f.offset).run P w = .ok (.int .i64 xs[k]) w := by simp [part, isAgg, run_underlying hk, hoff, ivs, List.getElem?_map, hkx]
    have hpy : (part f.type (ivs ys) f.offset).run P w = .ok (.int .i64 ys[k]) w := by simp [part, isAgg, run_underlying hk, hoff, ivs, List.getElem?_map, hky]
    have ih := run_eqInts w d r (k + 1) xs ys h4 (by simp at hx ⊢; omega) (by simp at hy ⊢; omega)
    rw [List.drop_eq_getElem_cons hkx, List.drop_eq_getElem_cons hky]
    unfold Op.eqFields
    rw [if_pos hname]
    simp only [Sem.run_bind, hpx, hpy, Result.andThen_ok, run_equalIn_int w d f.type .i64 kd _ _ hk]
    cases hb : (xs[k] == ys[k]) with
    | true => simp [ih, eqI, hb]
    | false => simp [eqI, hb]
theorem run_eqlInts {t : TypeId} {n : Nat} (h : istB P t = some n) (xs ys : List Int) (hx : xs.length = n) (hy : ys.length = n) (w : World) :
    (Op.equalIn 10000 t (.agg (ivs xs)) (.agg (ivs ys))).run P w = .ok (eqI xs ys) w ∧ P.eqGuardType P.depth t = false := by
  unfold istB at h
  split at h
  · rename_i fs hfs
    split at h
    · rename_i hc
      simp only [Bool.and_eq_true, Bool.not_eq_true'] at hc
      injection h with h
      subst h
      have hf : P.fieldsOf t = fs := by simp [Program.fieldsOf, hfs]
      refine ⟨?_, hc.2⟩
      rw [show (10000 : Nat) = 9999 + 1 from rfl, run_equalIn_agg w 9999 t _ _ (by rw [hf]; exact hfs) hc.1.2, hf]
      have := run_eqInts (P := P) w 9998 fs.toList 0 xs ys hc.1.1 (by simpa using hx) (by simpa using hy)
      simpa using this
    · cases h
  · cases h
theorem ag_inv {w : World} {R B : Nat → Prop} {g : Nat → GS} {xs : List Int} {v : Value} (h : RA P w R B g (Ag (xs.map iC)) v) : v = .agg (ivs xs) := by
  obtain ⟨vs, rfl, hl, hc⟩ := h
  have : vs = xs.map fun n => Value.int .i64 n := by
    refine List.ext_getElem (by simpa using hl) fun i h1 h2 => ?_
    have hi : i < xs.length := by simpa using h2
    obtain ⟨u, h3, h4⟩ := hc i (iC xs[i]) (by rw [List.getElem?_map, List.getElem?_eq_getElem hi]; rfl)
    obtain ⟨_, h4⟩ := h4
    cases h4
    rw [List.getElem?_eq_getElem h1] at h3
    injection h3 with h3
    rw [h3]
    simp
  rw [this]
  rfl
theorem LT.eqlStruct {t t' : TypeId} {x y : Operand} {n : Nat} (xs ys : List Int) (ho : o.op = .binOp .eql t x y t') (h : istB P t = some n) (hx : xs.length = n) (hy : ys.length = n) :
    LT P o [(x, Ag (xs.map iC)), (y, Ag (ys.map iC))] [] (Bv (eqI xs ys)) [] [] [] := .calm fun R B g w a _ hi _ => by
  obtain ⟨h1, h2⟩ := run_eqlInts h xs ys hx hy w
  refine ⟨.bool (eqI xs ys), ?_, sc_mk rfl⟩
  simp only [execOp, ho, ag_inv (in1 hi), ag_inv (in2 hi), Sem.run_bind, run_eqGuard_agg w .eql t x y _ _ h2, Result.andThen_ok, run_eql_struct, h1, Sem.run_pure]
end
end Go.Fw
end
section
set_option linter.unusedVariables false
set_option linter.unusedSimpArgs false
set_option linter.unnecessarySimpa false
namespace Go.Fw
theorem BIG_gt {n : Nat} (h : n ≤ 1099511627776) : n < BIG := by unfold BIG; omega
theorem w64_small {n : Int} (h1 : -4611686018427387904 ≤ n) (h2 : n ≤ 4611686018427387904) : w64 n = n := w64_id (by omega) (by omega)
theorem loopM_go {σ τ : Type} {b : σ → Option (σ ⊕ τ)} {r : τ} (st : Nat → σ) (n : Nat) (h : ∀ k, k < n → b (st k) = some (.inl (st (k + 1)))) (hr : b (st n) = some (.inr r)) : ∀ (j k f : Nat), k + j = n → j < f → loopM b f (st k) = some r
  | 0, k, f, hk, hf => by
    obtain ⟨f, rfl⟩ : ∃ g, f = g + 1 := ⟨f - 1, by omega⟩
    have : k = n := by omega
    subst this
    unfold loopM
    rw [hr]
  | j + 1, k, f, hk, hf => by
    obtain ⟨f, rfl⟩ : ∃ g, f = g + 1 := ⟨f - 1, by omega⟩
    unfold loopM
    rw [h k (by omega)]
    exact loopM_go st n h hr j (k + 1) f (by omega) (by omega)
theorem loopM_run {σ τ : Type} {b : σ → Option (σ ⊕ τ)} {r : τ} {s : σ} (st : Nat → σ) (n : Nat) (hn : n ≤ 1099511627776) (h0 : st 0 = s) (h : ∀ k, k < n → b (st k) = some (.inl (st (k + 1)))) (hr : b (st n) = some (.inr r)) : loopM b BIG s = some r := by
  subst h0
  exact loopM_go st n h hr n 0 BIG (by omega) (BIG_gt hn)
theorem idx_at {α : Type} {l : List α} {k : Nat} (h : k < l.length) : idx l (k : Int) = some l[k] := by
  unfold idx
  rw [if_pos (by omega), Int.toNat_natCast, List.getElem?_eq_getElem h]
theorem idx_of {α : Type} {l : List α} {k : Nat} {x : α} (h : l[k]? = some x) : idx l (k : Int) = some x := by
  unfold idx
  rw [if_pos (by omega), Int.toNat_natCast, h]
theorem w64_succ {k : Nat} (h : k ≤ 1099511627776) : w64 ((k : Int) + 1) = ((k + 1 : Nat) : Int) := by
  rw [w64_small (by omega) (by omega)]; omega
theorem count_loop {τ : Type} {b : Int → Option (Int ⊕ τ)} {r : τ} (n : Nat) (hn : n ≤ 1099511627776) (h : ∀ k : Nat, k < n → b k = some (.inl (w64 ((k : Int) + 1)))) (hr : b n = some (.inr r)) : loopM b BIG 0 = some r :=
  loopM_run (fun k => (k : Int)) n hn rfl (fun k hk => by rw [h k hk, w64_succ (by omega)]) hr
theorem any_loop {γ : Type} {b : Int → Option (Int ⊕ (Unit ⊕ γ))} (bad : Nat → Bool) (c : γ) (k0 n : Nat) (hn : n ≤ 1099511627776) (h0 : k0 ≤ n) (h : ∀ k : Nat, k0 ≤ k → k < n → b k = bif bad k then some (.inr (.inr c)) else some (.inl (w64 ((k : Int) + 1)))) (hr : b n = some (.inr (.inl ()))) :
    loopM b BIG k0 = some (bif (List.range' k0 (n - k0)).any bad then .inr c else .inl ()) := by
  have go : ∀ (j k f : Nat), k + j = n → k0 ≤ k → j < f → loopM b f (k : Int) = some (bif (List.range' k j).any bad then .inr c else .inl ()) := by
    intro j
    induction j with
    | zero =>
      intro k f hk _ hf
      obtain ⟨f, rfl⟩ : ∃ g, f = g + 1 := ⟨f - 1, by omega⟩
      have : k = n := by omega
      subst this
      unfold loopM
      rw [hr]
      rfl
    | succ j ih =>
      intro k f hk hk0 hf
      obtain ⟨f, rfl⟩ : ∃ g, f = g + 1 := ⟨f - 1, by omega⟩
      have h1 := h k hk0 (by omega)
      unfold loopM
      cases hb : bad k with
      | true =>
        rw [hb, cond_true] at h1
        rw [h1, List.range'_succ, List.any_cons, hb]
        rfl
      | false =>
        rw [hb, cond_false, w64_succ (by omega)] at h1
        rw [h1, List.range'_succ, List.any_cons, hb, Bool.false_or]
        exact ih (k + 1) f (by omega) (by omega) (by omega)
  exact go (n - k0) k0 BIG (by omega) (Nat.le_refl _) (by have := BIG_gt hn; omega)
theorem loop_inv {σ τ : Type} {b : σ → Option (σ ⊕ τ)} {s : σ} (I : Nat → σ → Prop) (Q : τ → Prop) (n : Nat) (hn : n ≤ 1099511627776) (h0 : I 0 s)
    (h : ∀ k s, k < n → I k s → (∃ s', b s = some (.inl s') ∧ I (k + 1) s') ∨ ∃ r, b s = some (.inr r) ∧ Q r) (hr : ∀ s, I n s → ∃ r, b s = some (.inr r) ∧ Q r) : ∃ r, loopM b BIG s = some r ∧ Q r := by
  have go : ∀ (j k f : Nat) (s : σ), k + j = n → j < f → I k s → ∃ r, loopM b f s = some r ∧ Q r := by
    intro j
    induction j with
    | zero =>
      intro k f s hk hf hi
      obtain ⟨f, rfl⟩ : ∃ g, f = g + 1 := ⟨f - 1, by omega⟩
      have : k = n := by omega
      subst this
      obtain ⟨r, h1, h2⟩ := hr s hi
      exact ⟨r, by unfold loopM; rw [h1], h2⟩
    | succ j ih =>
      intro k f s hk hf hi
      obtain ⟨f, rfl⟩ : ∃ g, f = g + 1 := ⟨f - 1, by omega⟩
      rcases h k s (by omega) hi with ⟨s', h1, h2⟩ | ⟨r, h1, h2⟩
      · obtain ⟨r, h3, h4⟩ := ih (k + 1) f s' (by omega) (by omega) h2
        exact ⟨r, by unfold loopM; rw [h1]; exact h3, h4⟩
      · exact ⟨r, by unfold loopM; rw [h1], h2⟩
  exact go n 0 BIG s (by omega) (BIG_gt hn) h0
theorem copy_loop {α : Type} {b : Int × List α → Option ((Int × List α) ⊕ List α)} (a : List α) (z : α) (ha : a.length ≤ 1099511627776)
    (h : ∀ (k : Nat) (l : List α) x y, a[k]? = some x → l[k]? = some y → b (k, l) = some (.inl (w64 ((k : Int) + 1), l.set k x))) (hr : ∀ l, b ((a.length : Int), l) = some (.inr l)) :
    loopM b BIG (0, List.replicate a.length z) = some a := by
  refine loopM_run (fun k => ((k : Int), a.take k ++ List.replicate (a.length - k) z)) a.length ha (by simp) (fun k hk => ?_) (by simp [hr])
  have h1 : (a.take k ++ List.replicate (a.length - k) z)[k]? = some z := by
    have hl : (a.take k).length = k := by simp; omega
    rw [List.getElem?_append_right (by omega), hl, Nat.sub_self, List.getElem?_replicate, if_pos (by omega)]
  rw [h k _ a[k] z (List.getElem?_eq_getElem hk) h1, w64_succ (by omega)]
  congr 3
  obtain ⟨m, hm⟩ : ∃ m, a.length - k = m + 1 := ⟨a.length - k - 1, by omega⟩
  have hm2 : a.length - (k + 1) = m := by omega
  rw [hm, hm2, List.set_append_right _ _ (by simp; omega)]
  have : k - (a.take k).length = 0 := by simp; omega
  rw [this, List.replicate_succ, List.set_cons_zero]
  have ht : a.take (k + 1) = a.take k ++ [a[k]] := by rw [List.take_add_one, List.getElem?_eq_getElem hk]; rfl
  rw [ht, List.append_assoc]
  rfl
theorem lim_ok {n : Nat} (h : n ≤ 2147483648) : lim n = some () := by unfold lim LIM; rw [if_pos h]
theorem lenOk_ok {n : Int} (h0 : 0 ≤ n) (h : n ≤ 2147483648) : lenOk n = some () := by unfold lenOk; rw [if_pos ⟨h0, h⟩]
theorem same_ok {a b : Nat} (h : a = b) : same a b = some () := by unfold same; rw [if_pos h]
end Go.Fw
end
section
set_option linter.unusedVariables false
set_option linter.unusedSimpArgs false
set_option linter.unnecessarySimpa false
namespace Go.Fw
def iter {β : Type} (f : Nat → β → β) : Nat → β → β
  | 0, a => a
  | n + 1, a => f n (iter f n a)
theorem iter_inv {β : Type} {f : Nat → β → β} {a0 : β} (I : Nat → β → Prop) (h0 : I 0 a0) : ∀ n, (∀ k a, k < n → I k a → I (k + 1) (f k a)) → I n (iter f n a0)
  | 0, _ => h0
  | n + 1, h => h n _ (by omega) (iter_inv I h0 n fun k a hk hi => h k a (by omega) hi)
theorem fold_loop {β τ σ : Type} {b : σ → Option (σ ⊕ τ)} {s : σ} (mk : Nat → β → σ) (f : Nat → β → β) (I : Nat → β → Prop) (fin : β → τ) (n : Nat) (a0 : β) (hn : n ≤ 1099511627776) (hs : s = mk 0 a0) (h0 : I 0 a0)
    (h : ∀ k a, k < n → I k a → b (mk k a) = some (.inl (mk (k + 1) (f k a))) ∧ I (k + 1) (f k a)) (hr : ∀ a, I n a → b (mk n a) = some (.inr (fin a))) :
    loopM b BIG s = some (fin (iter f n a0)) ∧ I n (iter f n a0) := by
  have hI : ∀ m, m ≤ n → I m (iter f m a0) := fun m hm => iter_inv I h0 m fun k a hk hi => (h k a (by omega) hi).2
  subst hs
  exact ⟨loopM_run (fun k => mk k (iter f k a0)) n hn rfl (fun k hk => (h k _ hk (hI k (by omega))).1) (hr _ (hI n (Nat.le_refl _))), hI n (Nat.le_refl _)⟩
def pieces {α : Type} (f : Nat → List α) : Nat → List α
  | 0 => []
  | n + 1 => pieces f n ++ f n
theorem pieces_len {α : Type} {f : Nat → List α} {c : Nat} : ∀ n, (∀ k, k < n → (f k).length ≤ c) → (pieces f n).length ≤ c * n
  | 0, _ => by simp [pieces]
  | n + 1, h => by
    have h1 := pieces_len n fun k hk => h k (by omega)
    have h2 := h n (by omega)
    show (pieces f n ++ f n).length ≤ _
    rw [List.length_append, Nat.mul_add, Nat.mul_one]
    omega
theorem app_loop {α τ σ : Type} {b : σ → Option (σ ⊕ τ)} {s : σ} (mk : Nat → List α → σ) (f : Nat → List α) (fin : List α → τ) (c n : Nat) (out0 : List α) (hn : n ≤ 1099511627776) (hs : s = mk 0 out0) (hc : ∀ k, k < n → (f k).length ≤ c)
    (h : ∀ k out, k < n → out.length ≤ out0.length + c * k → b (mk k out) = some (.inl (mk (k + 1) (out ++ f k)))) (hr : ∀ out, b (mk n out) = some (.inr (fin out))) :
    loopM b BIG s = some (fin (out0 ++ pieces f n)) := by
  subst hs
  refine loopM_run (fun k => mk k (out0 ++ pieces f k)) n hn (by simp [pieces]) (fun k hk => ?_) (hr _)
  have h1 := pieces_len (f := f) (c := c) k fun j hj => hc j (by omega)
  rw [h k _ hk (by rw [List.length_append]; omega), List.append_assoc]
  rfl
theorem any_range {p : Nat → Bool} {k0 n : Nat} : (List.range' k0 n).any p = true ↔ ∃ k, k0 ≤ k ∧ k < k0 + n ∧ p k = true := by
  rw [List.any_eq_true]
  constructor
  · rintro ⟨k, hk, h⟩
    rw [List.mem_range'_1] at hk
    exact ⟨k, hk.1, hk.2, h⟩
  · rintro ⟨k, h1, h2, h⟩
    exact ⟨k, List.mem_range'_1.2 ⟨h1, h2⟩, h⟩
theorem any_range_false {p : Nat → Bool} {k0 n : Nat} : (List.range' k0 n).any p = false ↔ ∀ k, k0 ≤ k → k < k0 + n → p k = false := by
  rw [← Bool.not_eq_true, any_range]
  constructor
  · intro h k h1 h2
    cases hp : p k
    · rfl
    · exact absurd ⟨k, h1, h2, hp⟩ h
  · rintro h ⟨k, h1, h2, h3⟩
    rw [h k h1 h2] at h3
    cases h3
theorem any_loop0 {γ : Type} {b : Int → Option (Int ⊕ (Unit ⊕ γ))} (bad : Nat → Bool) (c : γ) (n : Nat) (hn : n ≤ 1099511627776) (h : ∀ k : Nat, k < n → b k = bif bad k then some (.inr (.inr c)) else some (.inl (w64 ((k : Int) + 1)))) (hr : b n = some (.inr (.inl ()))) :
    loopM b BIG 0 = some (bif (List.range' 0 n).any bad then .inr c else .inl ()) := by
  have := any_loop (b := b) bad c 0 n hn (by omega) (fun k _ hk => h k hk) hr
  rwa [Nat.sub_zero] at this
theorem set_repl {α : Type} (a : List α) (z x : α) (k n : Nat) (ha : a.length = k) (hk : k < n) : (a ++ List.replicate (n - k) z).set k x = (a ++ [x]) ++ List.replicate (n - (k + 1)) z := by
  obtain ⟨m, hm⟩ : ∃ m, n - k = m + 1 := ⟨n - k - 1, by omega⟩
  rw [hm, show n - (k + 1) = m by omega, List.set_append_right _ _ (by omega), ha, Nat.sub_self, List.replicate_succ, List.set_cons_zero, List.append_assoc]
  rfl
theorem take_get {α : Type} {l : List α} {k : Nat} (hk : k < l.length) : l.take (k + 1) = l.take k ++ [l[k]] := by
  rw [List.take_add_one, List.getElem?_eq_getElem hk]; rfl
end Go.Fw
end
section
set_option linter.unusedVariables false
set_option linter.unusedSimpArgs false
set_option linter.unnecessarySimpa false
namespace Go.Fw
open Go.ChangeMaps
def slc {α : Type} (l : List α) (lo hi : Int) : Option (List α) := if 0 ≤ lo ∧ lo ≤ hi ∧ hi ≤ (l.length : Int) then some ((l.take hi.toNat).drop lo.toNat) else none
theorem slc_spec {α : Type} {l r : List α} {lo hi : Int} (h : slc l lo hi = some r) : 0 ≤ lo ∧ lo ≤ hi ∧ hi ≤ (l.length : Int) ∧ r = (l.take hi.toNat).drop lo.toNat := by
  unfold slc at h
  split at h
  · rename_i h0
    injection h with h
    exact ⟨h0.1, h0.2.1, h0.2.2, h.symm⟩
  · cases h
theorem slc_lh {α : Type} {l r : List α} {lo hi : Int} (h : slc l lo hi = some r) : lo.toNat ≤ hi.toNat := by
  have := slc_spec h
  omega
theorem slc_hl {α : Type} {l r : List α} {lo hi : Int} (h : slc l lo hi = some r) : hi.toNat ≤ l.length := by
  have := slc_spec h
  omega
def mget : List (Int × Int) → Int → Int
  | [], _ => 0
  | e :: r, k => bif k == e.1 then e.2 else mget r k
def mhas : List (Int × Int) → Int → Bool
  | [], _ => false
  | e :: r, k => bif k == e.1 then true else mhas r k
def mput : List (Int × Int) → Int → Int → List (Int × Int)
  | [], k, v => [(k, v)]
  | e :: r, k, v => bif k == e.1 then (k, v) :: r else e :: mput r k v
section
variable {P : Program} {o : Oper} {w : World} {R B : Nat → Prop} {g : Nat → GS}
theorem run_sliceBounds {lo hi : Option Value} {len cap : Nat} {l h : Nat} (hlo : lo = some (.int .i64 (l : Int)) ∨ (lo = none ∧ l = 0)) (hhi : hi = some (.int .i64 (h : Int)) ∨ (hi = none ∧ h = len)) (h1 : l ≤ h) (h2 : h ≤ len) (h3 : len ≤ cap) (w : World) :
    (Instr.sliceBounds true len cap lo hi none).run P w = .ok (l, h, cap) w := by
  have e1 : (Instr.sliceBound (.int .i64 (h : Int)) cap .sliceAcap).run P w = .ok h w := by
    have : (0 : Int) ≤ (h : Int) ∧ (h : Int) ≤ (cap : Int) := by omega
    simp [Instr.sliceBound, asIntOf, this]
  have e2 : (Instr.sliceBound (.int .i64 (l : Int)) h .sliceB).run P w = .ok l w := by
    have : (0 : Int) ≤ (l : Int) ∧ (l : Int) ≤ (h : Int) := by omega
    simp [Instr.sliceBound, asIntOf, this]
  rcases hlo with rfl | ⟨rfl, rfl⟩ <;> rcases hhi with rfl | ⟨rfl, rfl⟩ <;> simp [Instr.sliceBounds, e1, e2, Result.andThen]
def bndIns : Option (Operand × Int) → List (Operand × AV)
  | some (x, n) => [(x, Iv n)]
  | none => []
theorem bnd_val {a : Act} {b : Option (Operand × Int)} {x : Option Operand} (hx : x = b.map (·.1)) (h : ∀ p ∈ bndIns b, RA P w R B g p.2 (a.eval p.1)) : x.map a.eval = b.map fun q => Value.int .i64 q.2 := by
  subst hx
  cases b with
  | none => rfl
  | some q =>
    obtain ⟨y, n⟩ := q
    have := sc_inv (h (y, Iv n) List.mem_cons_self)
    simp [this]
theorem run_slice {t e : TypeId} {it : TypeInfo} (ht : P.underlying t = some (.slice e)) (hit : P.info? e = some it) {lo hi : Option Value} {A : Option Addr} {len cap l h : Nat} (hlo : lo = some (.int .i64 (l : Int)) ∨ (lo = none ∧ l = 0)) (hhi : hi = some (.int .i64 (h : Int)) ∨ (hi = none ∧ h = len)) (h1 : l ≤ h) (h2 : h ≤ len) (h3 : len ≤ cap) (w : World) :
    (Instr.sliceAt t (.slice A len cap) lo hi none).run P w = .ok (.slice (if cap = l then A else A.map (·.add (l * szP P e))) (h - l) (cap - l)) w := by
  have hb := run_sliceBounds (P := P) hlo hhi h1 h2 h3 w
  simp [Instr.sliceAt, Instr.slice, run_underlying ht, hb, run_sizeOf hit, Result.andThen]
theorem bnd_nat {b : Option (Operand × Int)} {n : Nat} {d : Option Nat} (h : (∃ x m, b = some (x, m) ∧ 0 ≤ m ∧ n = m.toNat) ∨ (b = none ∧ some n = d)) : (b.map fun q => Value.int .i64 q.2) = some (.int .i64 (n : Int)) ∨ ((b.map fun q => Value.int .i64 q.2) = none ∧ some n = d) := by
  rcases h with ⟨x, m, rfl, h0, rfl⟩ | ⟨rfl, h⟩
  · left
    simp [Int.toNat_of_nonneg h0]
  · exact .inr ⟨rfl, h⟩
theorem LT.sliceRO {x : Operand} {t e : TypeId} {lo hi : Option Operand} {blo bhi : Option (Operand × Int)} {q : Bool} {els : List (List PV)} {l h : Nat} (ho : o.op = .slice t x lo hi none) (hlo : lo = blo.map (·.1)) (hhi : hi = bhi.map (·.1)) (ht : P.underlying t = some (.slice e)) (hi2 : (P.info? e).isSome = true)
    (hl : ∀ cs ∈ els, cs.length = szP P e) (el : (∃ x m, blo = some (x, m) ∧ 0 ≤ m ∧ l = m.toNat) ∨ (blo = none ∧ some l = some 0)) (eh : (∃ x m, bhi = some (x, m) ∧ 0 ≤ m ∧ h = m.toNat) ∨ (bhi = none ∧ some h = some els.length)) (h1 : l ≤ h) (h2 : h ≤ els.length) :
    LT P o ((x, Cc (.pv (.xs q els))) :: (bndIns blo ++ bndIns bhi)) [] (Cc (.pv (.xs q ((els.take h).drop l)))) [] [] [] := .calm fun R B g w a hw hi3 _ => by
  obtain ⟨it, hit⟩ := Option.isSome_iff_exists.1 hi2
  have hv := in1 hi3
  have e1 : lo.map a.eval = blo.map fun q => Value.int .i64 q.2 := bnd_val hlo fun p hp => hi3 p (List.mem_cons_of_mem _ (List.mem_append_left _ hp))
  have e2 : hi.map a.eval = bhi.map fun q => Value.int .i64 q.2 := bnd_val hhi fun p hp => hi3 p (List.mem_cons_of_mem _ (List.mem_append_right _ hp))
  have el' := bnd_nat el
  have eh' := bnd_nat eh
  rw [← e1] at el'
  rw [← e2] at eh'
  have el2 : lo.map a.eval = some (.int .i64 (l : Int)) ∨ (lo.map a.eval = none ∧ l = 0) := el'.imp id (fun h => ⟨h.1, by injection h.2⟩)
  have eh2 : hi.map a.eval = some (.int .i64 (h : Int)) ∨ (hi.map a.eval = none ∧ h = els.length) := eh'.imp id (fun h => ⟨h.1, by injection h.2⟩)
  obtain ⟨_, hv⟩ := hv
  generalize hav : a.eval x = v at hv
  have fin : ∀ (A : Option Addr) (c : Nat), v = .slice A els.length c → els.length ≤ c → ((els.take h).drop l = [] ∨ ∃ ad, A = some ad ∧ pick2 R B q ad.block ∧ ∃ (s : Nat) (val : Nat → Nat → Value), (∀ cs ∈ els, cs.length = s) ∧ (∀ j k cs p, els[j]? = some cs → cs[k]? = some p → w.cell? (ad.add (j * s + k)) = some (val j k)) ∧ ∀ j k cs p, els[j]? = some cs → cs[k]? = some p → RPV w R B p (val j k)) →
      ∃ u, (execOp a.eval o).run P w = .ok (.value u) w ∧ RA P w R B g (Cc (.pv (.xs q ((els.take h).drop l)))) u := fun A c hA hc hx => by
    have hr := run_slice (P := P) ht hit (A := A) el2 eh2 h1 h2 hc w
    refine ⟨.slice (if c = l then A else A.map (·.add (l * szP P e))) (h - l) (c - l), ?_, ?_⟩
    · simp only [execOp, ho, hav, hA, Sem.run_bind, Option.map_none, hr, Result.andThen_ok, Sem.run_pure]
    · refine ⟨rfl, ?_⟩
      by_cases hnil : (els.take h).drop l = []
      · rw [hnil]
        have hz : h - l = 0 := by
          have := congrArg List.length hnil
          simp at this
          omega
        rw [hz]
        exact .emp
      · rcases hx with hx | ⟨ad, rfl, hb, s, val, hs, hcell, hrp⟩
        · exact absurd hx hnil
        · have hlt : l < h := by
            rcases Nat.lt_or_ge l h with h | h'
            · exact h
            · exact absurd (List.drop_eq_nil_of_le (by simp; omega)) hnil
          have hne : ¬ c = l := by omega
          rw [if_neg hne]
          have hget : ∀ j, ((els.take h).drop l)[j]? = if l + j < h then els[l + j]? else none := fun j => by
            rw [List.getElem?_drop, List.getElem?_take]
          have hss : s = szP P e := by
            have h0 : 0 < els.length := by omega
            have hm := List.getElem_mem h0
            rw [← hs _ hm, hl _ hm]
          refine .xs (s := s) (fun j k => val (l + j) k) (by simp; omega) (by rw [add_block]; exact hb) (by simp; omega) (fun cs hcs => hs cs (List.mem_of_mem_take (List.mem_of_mem_drop hcs))) (fun j k cs p hj hk => ?_) (fun j k cs p hj hk => ?_)
          · rw [hget] at hj
            split at hj
            · have := hcell _ _ _ _ hj hk
              rw [add_add, ← hss]
              rwa [show l * s + (j * s + k) = (l + j) * s + k by rw [Nat.add_mul]; omega]
            · cases hj
          · rw [hget] at hj
            split at hj
            · exact hrp _ _ _ _ hj hk
            · cases hj
  cases hv with
  | @emp _ A c =>
    have h0 : h = 0 := by simp at h2; exact h2
    have hl0 : l = 0 := by omega
    subst h0
    subst hl0
    -- the capacity may be anything
    have hr := run_slice (P := P) ht hit (A := A) (len := 0) (cap := c) el2 (eh2.imp id fun h => ⟨h.1, by simpa using h.2⟩) h1 (Nat.le_refl _) (Nat.zero_le _) w
    refine ⟨_, by simp only [execOp, ho, hav, Sem.run_bind, Option.map_none, hr, Result.andThen_ok, Sem.run_pure]; rfl, rfl, RPV.emp⟩
  | @xs _ _ ad c s n val hn hb hc hs hcell hrp =>
    subst hn
    exact fin (some ad) c rfl hc (.inr ⟨ad, rfl, hb, s, val, hs, hcell, hrp⟩)
variable {α : Type} {enc : α → List PV}
theorem LT.tsliceRO {x : Operand} {t e : TypeId} {lo hi : Option Operand} {blo bhi : Option (Operand × Int)} {q : Bool} {xs : List α} {l h : Nat} (ho : o.op = .slice t x lo hi none) (hlo : lo = blo.map (·.1)) (hhi : hi = bhi.map (·.1)) (ht : P.underlying t = some (.slice e)) (hi2 : (P.info? e).isSome = true)
    (hs : ∀ a, (enc a).length = szP P e) (el : (∃ x m, blo = some (x, m) ∧ 0 ≤ m ∧ l = m.toNat) ∨ (blo = none ∧ some l = some 0)) (eh : (∃ x m, bhi = some (x, m) ∧ 0 ≤ m ∧ h = m.toNat) ∨ (bhi = none ∧ some h = some xs.length)) (h1 : l ≤ h) (h2 : h ≤ xs.length) :
    LT P o ((x, Cc (.pv (.xs q (xs.map enc)))) :: (bndIns blo ++ bndIns bhi)) [] (Cc (.pv (.xs q (((xs.take h).drop l).map enc)))) [] [] [] := by
  have := LT.sliceRO (P := P) (o := o) (q := q) (els := xs.map enc) ho hlo hhi ht hi2 (fun cs hcs => by obtain ⟨a, _, rfl⟩ := List.mem_map.1 hcs; exact hs a) el (eh.imp id fun h => ⟨h.1, by simpa using h.2⟩) h1 (by simpa using h2)
  simpa [List.map_take, List.map_drop] using this
theorem PermO.row1 {e : TypeId} {cs : List CV} (h : PermCL cs) : PermO (.row e [cs]) := fun c hc x hx => by
  have : c = cs := by simpa using hc
  subst this
  exact h.spec x hx
theorem findNow_none {k : Int} : ∀ {es : List MapEntry} {m : List (Int × Int)} {i : Nat}, es.map (fun e => (e.key, e.val)) = m.map (fun e => (Value.int .i64 e.1, Value.int .i64 e.2)) → mhas m k = false → Instr.findNow (.int .i64) (.int .i64 k) es i = some none
  | [], [], _, _, _ => rfl
  | [], _ :: _, _, h, _ => by cases h
  | _ :: _, [], _, h, _ => by cases h
  | e :: es, x :: m, i, h, hh => by
    simp only [List.map_cons, List.cons.injEq, Prod.mk.injEq] at h
    obtain ⟨⟨h1, h2⟩, h3⟩ := h
    unfold mhas at hh
    cases hx : k == x.1 with
    | true => rw [hx] at hh; cases hh
    | false =>
      rw [hx, cond_false] at hh
      simp [Instr.findNow, Instr.sameNow, h1, hx, findNow_none h3 hh]
theorem findNow_some {k : Int} : ∀ {es : List MapEntry} {m : List (Int × Int)} {i : Nat}, es.map (fun e => (e.key, e.val)) = m.map (fun e => (Value.int .i64 e.1, Value.int .i64 e.2)) → mhas m k = true →
    ∃ j, Instr.findNow (.int .i64) (.int .i64 k) es i = some (some (i + j, .int .i64 (mget m k))) ∧ (∃ e, es[j]? = some e ∧ e.key = .int .i64 k) ∧ ∀ v, mput m k v = m.set j (k, v)
  | [], [], _, _, h => by cases h
  | [], _ :: _, _, h, _ => by cases h
  | _ :: _, [], _, h, _ => by cases h
  | e :: es, x :: m, i, h, hh => by
    simp only [List.map_cons, List.cons.injEq, Prod.mk.injEq] at h
    obtain ⟨⟨h1, h2⟩, h3⟩ := h
    unfold mhas at hh
    cases hx : k == x.1 with
    | true =>
      refine ⟨0, ?_, ⟨e, rfl, by rw [h1, eq_of_beq hx]⟩, fun v => ?_⟩
      · simp [Instr.findNow, Instr.sameNow, h1, hx, h2, mget]
      · simp [mput, hx]
    | false =>
      rw [hx, cond_false] at hh
      obtain ⟨j, k1, ⟨e2, k2, k3⟩, k4⟩ := findNow_some (i := i + 1) h3 hh
      refine ⟨j + 1, ?_, ⟨e2, by simpa using k2, k3⟩, fun v => ?_⟩
      · simp [Instr.findNow, Instr.sameNow, h1, hx, k1, mget]
        omega
      · simp [mput, hx, k4]
theorem mput_none {k : Int} : ∀ {m : List (Int × Int)}, mhas m k = false → ∀ v, mput m k v = m ++ [(k, v)]
  | [], _, _ => rfl
  | x :: m, h, v => by
    unfold mhas at h
    cases hx : k == x.1 with
    | true => rw [hx] at h; cases h
    | false =>
      rw [hx, cond_false] at h
      simp [mput, hx, mput_none h]
def mapB (P : Program) (t : TypeId) : Option (TypeId × TypeId) := match P.underlying t with
  | some (.map k e) => match P.underlying k, (P.info? e).bind (·.zero) with
    | some (.int .i64), some (.int .i64 0) => some (k, e)
    | _, _ => none
  | _ => none
theorem mapB_spec {t k e : TypeId} (h : mapB P t = some (k, e)) : P.underlying t = some (.map k e) ∧ P.underlying k = some (.int .i64) ∧ ∃ i, P.info? e = some i ∧ i.zero = some (.int .i64 0) := by
  unfold mapB at h
  split at h
  · rename_i k' e' hu
    split at h
    · rename_i hk hz
      injection h with h
      injection h with h1 h2
      subst h1
      subst h2
      cases hi : P.info? e' with
      | none => rw [hi] at hz; cases hz
      | some i =>
        rw [hi] at hz
        exact ⟨hu, hk, i, rfl, hz⟩
    · cases h
  · cases h
theorem run_checkKey_int {b : Bool} {k : TypeId} (hk : P.underlying k = some (.int .i64)) (n : Int) (w : World) : (Instr.checkKey b 10000 k (.int .i64 n)).run P w = .ok () w := by
  unfold Instr.checkKey
  simp only [Sem.run_bind, run_underlying hk, Result.andThen_ok]
  rfl
theorem run_findKey_now {k : TypeId} (hk : P.underlying k = some (.int .i64)) {n : Int} {es : List MapEntry} {r : Option (Nat × Value)} (h : Instr.findNow (.int .i64) (.int .i64 n) es 0 = some r) (w : World) : (Instr.findKey k (.int .i64 n) es).run P w = .ok r w := by
  simp [Instr.findKey, run_underlying hk, h, Result.andThen]
theorem LT.makeMap {t : TypeId} {n : Nat} (ho : o.op = .makeMap t none) : LT P o [] [] (Cc (.mref n)) [(n, .mp [])] [] [n] := by
  intro R B g w a hw hi hu K Q hK
  have hr := Go.RowKit.run_makeMap (P := P) t w
  have had := Adv.alloc hw n (.map #[] 0)
  have hrun : (execOp a.eval o).run P w = .ok (.value (.map (some w.heap.size))) (w.alloc (.map #[] 0)) := by
    simp [execOp, ho, hr]
  unfold Oper.wp
  rw [hrun]
  refine hK _ _ _ _ _ had (fun b hb => .inl hb) (fun _ => ⟨rfl, w.heap.size, upd_same .., rfl⟩) (fun p hp => ?_)
  have : p = (n, .mp []) := by simpa using hp
  subst this
  exact ⟨w.heap.size, #[], 0, upd_same .., (Go.MapKept.heap_alloc w _).1, rfl⟩
theorem map_look {t k e : TypeId} (ht : mapB P t = some (k, e)) {n : Nat} {m : List (Int × Int)} (h : RO P w R B g n (.mp m)) {v : Value} (hv : RC P w R B g (.mref n) v) (x : Int) (ok : Bool) :
    (Instr.lookup t v (.int .i64 x) ok).run P w = .ok (if ok then .tuple #[.int .i64 (mget m x), .bool (mhas m x)] else .int .i64 (mget m x)) w := by
  obtain ⟨h1, h2, i, h3, h4⟩ := mapB_spec ht
  obtain ⟨b, ents, clock, k1, k2, k3⟩ := h
  obtain ⟨_, b', k4, rfl⟩ := hv
  rw [k1] at k4
  injection k4 with k4
  subst k4
  cases hh : mhas m x with
  | false =>
    have hf := run_findKey_now (P := P) h2 (findNow_none k3 hh) w
    have hg : mget m x = 0 := by
      clear hf k3
      induction m with
      | nil => rfl
      | cons y r ih =>
        unfold mhas at hh
        unfold mget
        cases hy : x == y.1 with
        | true => rw [hy] at hh; cases hh
        | false =>
          rw [hy, cond_false] at hh
          exact ih hh
    simp [Instr.lookup, run_underlying h1, Go.MapKept.run_getObj_map k2, run_checkKey_int h2, hf, Result.andThen, zeroValue, typeInfo, h3, h4, hg]
  | true =>
    obtain ⟨j, hj, _, _⟩ := findNow_some (i := 0) k3 hh
    have hf := run_findKey_now (P := P) h2 hj w
    simp [Instr.lookup, run_underlying h1, Go.MapKept.run_getObj_map k2, run_checkKey_int h2, hf, Result.andThen]
theorem LT.mapGet {t k e : TypeId} {x y : Operand} {n : Nat} {m : List (Int × Int)} {i : Int} (ho : o.op = .lookup t x y false) (ht : mapB P t = some (k, e)) : LT P o [(x, Cc (.mref n)), (y, Iv i)] [(n, .mp m)] (Iv (mget m i)) [] [] [] := .calm fun R B g w a hw hi hu => by
  have hl := map_look (P := P) ht (us1 hu) (in1 hi) i false
  rw [if_neg (by simp)] at hl
  refine ⟨_, ?_, sc_mk rfl⟩
  simp [execOp, ho, sc_inv (in2 hi), hl]
theorem LT.mapGetOk {t k e : TypeId} {x y : Operand} {n : Nat} {m : List (Int × Int)} {i : Int} (ho : o.op = .lookup t x y true) (ht : mapB P t = some (k, e)) : LT P o [(x, Cc (.mref n)), (y, Iv i)] [(n, .mp m)] (.tup [.c (iC (mget m i)), .c (bC (mhas m i))]) [] [] [] := .calm fun R B g w a hw hi hu => by
  have hl := map_look (P := P) ht (us1 hu) (in1 hi) i true
  rw [if_pos rfl] at hl
  refine ⟨.tuple #[.int .i64 (mget m i), .bool (mhas m i)], by simp [execOp, ho, sc_inv (in2 hi), hl], [.int .i64 (mget m i), .bool (mhas m i)], rfl, rfl, fun k x hk => ?_⟩
  match k, hk with
  | 0, hk => simp at hk; subst hk; exact ⟨_, rfl, rfl, .sc rfl⟩
  | 1, hk => simp at hk; subst hk; exact ⟨_, rfl, rfl, .sc rfl⟩
  | k + 2, hk => simp at hk
theorem Adv.setMap (h : WF R B g w) {n b : Nat} {es : Array MapEntry} {clock : Nat} (hn : g n = .blk b) (hh : w.heap[b]? = some (.map es clock)) (o' : Obj) : Adv R B g w [n] [] R B g (setBlock w b o') where
  wf := h.mono (by simp [setBlock])
  r _ h := h
  b _ h := h
  os := rfl
  tape := rfl
  output := rfl
  size := by simp [setBlock]
  heap c _ hc := heap_setBlock_other hh o' (fun e => hc n List.mem_cons_self (by rw [hn, e]; rfl))
  names _ _ := rfl
  fresh _ hk := by cases hk
  shape k hk _ c cu e' hg hc := by
    have : k = n := by simpa using hk
    subst this
    rw [hn] at hg
    have hg : b = c := Eq.symm hg
    subst hg
    rw [hh] at hc
    cases hc
theorem LT.mapPut {t k e : TypeId} {x y z : Operand} {n : Nat} {m : List (Int × Int)} {i j : Int} {v : AV} (ho : o.op = .mapUpdate t x y z ∨ o.op = .insert t x y z) (hd : o.dst = none) (ht : mapB P t = some (k, e)) : LT P o [(x, Cc (.mref n)), (y, Iv i), (z, Iv j)] [(n, .mp m)] v [(n, .mp (mput m i j))] [n] [] := by
  intro R B g w a hw hin hu K Q hK
  obtain ⟨h1, h2, _, _, _⟩ := mapB_spec ht
  obtain ⟨b, ents, clock, k1, k2, k3⟩ := us1 hu
  obtain ⟨_, b', k4, k5⟩ := in1 hin
  rw [k1] at k4
  injection k4 with k4
  subst k4
  have e2 := sc_inv (in2 hin)
  have e3 := sc_inv (in3 hin)
  have key : ∃ es' clock', (Instr.mapUpdate t (.map (some b)) (.int .i64 i) (.int .i64 j)).run P w = .ok () (setBlock w b (.map es' clock')) ∧ es'.toList.map (fun e => (e.key, e.val)) = (mput m i j).map fun e => (Value.int .i64 e.1, Value.int .i64 e.2) := by
    cases hh : mhas m i with
    | false =>
      have hf := run_findKey_now (P := P) h2 (findNow_none k3 hh) w
      refine ⟨ents.push { key := .int .i64 i, val := .int .i64 j, born := clock }, clock + 1, ?_, ?_⟩
      · simp [Instr.mapUpdate, run_underlying h1, Go.MapKept.run_getObj_map k2, run_checkKey_int h2, hf, Go.MapKept.run_setObj_map _ k2, Result.andThen]
        rfl
      · rw [mput_none hh]
        simp [k3]
    | true =>
      obtain ⟨q, hq, ⟨en, hen, hkey⟩, hput⟩ := findNow_some (i := 0) k3 hh
      rw [Nat.zero_add] at hq
      have hf := run_findKey_now (P := P) h2 hq w
      have hen' : ents[q]? = some en := by simpa using hen
      refine ⟨ents.modify q fun e => { e with key := .int .i64 i, val := .int .i64 j }, clock, ?_, ?_⟩
      · simp [Instr.mapUpdate, run_underlying h1, Go.MapKept.run_getObj_map k2, run_checkKey_int h2, hf, hen', hkey, Instr.keyThatStays, Instr.sameBits, Go.MapKept.run_setObj_map _ k2, Result.andThen]
        rfl
      · rw [hput]
        apply List.ext_getElem?
        intro r
        have hk3 := congrArg (fun l => l[r]?) k3
        simp only [List.getElem?_map, Array.getElem?_toList] at hk3
        simp only [List.getElem?_map, List.getElem?_set, Array.getElem?_toList, Array.getElem?_modify]
        by_cases hr : q = r
        · subst hr
          rw [hen'] at hk3
          cases hm : m[q]? with
          | none => rw [hm] at hk3; cases hk3
          | some y =>
            have := (List.getElem?_eq_some_iff.1 hm).1
            simp [hen', this]
        · simp [hr, hk3]
  obtain ⟨es', clock', hrun, hes⟩ := key
  have hex : (execOp a.eval o).run P w = .ok .skip (setBlock w b (.map es' clock')) := by
    rcases ho with ho | ho <;> simp [execOp, ho, k5, e2, e3, hrun]
  have had := Adv.setMap hw k1 k2 (.map es' clock')
  unfold Oper.wp
  rw [hex]
  have hq := hK undef R B g (setBlock w b (.map es' clock')) had (fun b hb => .inl hb) (fun h => by rw [hd] at h; cases h) (fun p hp => by
    have : p = (n, .mp (mput m i j)) := by simpa using hp
    subst this
    exact ⟨b, es', clock', k1, heap_setBlock_same k2 _, hes⟩)
  exact hq
end
end Go.Fw
end
section
set_option linter.unusedVariables false
set_option linter.unusedSimpArgs false
set_option linter.unnecessarySimpa false
namespace Go.Fw
section
variable {P : Program} {C : Ctx} {σ : Slots} {m : Mem}
theorem RC.junk {w : World} {R B : Nat → Prop} {g : Nat → GS} {x : CV} {v : Value} (h : RC P w R B g x v) : RC P w R B g .junk v := ⟨h.1, trivial⟩
theorem rel_junk {w : World} {R B : Nat → Prop} {g : Nat → GS} {cs : List CV} {k : Nat} {T : Nat → Value → Prop} (h : ∀ (j : Nat) x, cs[j]? = some x → ∃ u, T j u ∧ RC P w R B g x u) : ∀ (j : Nat) x, (cs.set k .junk)[j]? = some x → ∃ u, T j u ∧ RC P w R B g x u := fun j x hj => by
  rw [List.getElem?_set] at hj
  by_cases hk : k = j
  · rw [if_pos hk] at hj
    split at hj
    · injection hj with hj
      subst hj
      rename_i hl
      obtain ⟨u, h1, h2⟩ := h j cs[j] (List.getElem?_eq_getElem (by omega))
      exact ⟨u, h1, h2.junk⟩
    · cases hj
  · rw [if_neg hk] at hj
    exact h j x hj
theorem St.slot {R B : Nat → Prop} {g : Nat → GS} {a : Act} {w : World} (hs : St P C σ m R B g a w) {t : Nat} {v : AV} (h : RA P w R B g v (a.tmps.getD t undef)) : St P C ((t, v) :: σ) m R B g a w := by
  refine { hs with sl := ?_ }
  intro t' v' hl
  change (bif Nat.beq t t' then some v else lk σ t') = some v' at hl
  cases hb : Nat.beq t t' with
  | true =>
    rw [hb, cond_true] at hl
    injection hl with hl
    subst hl
    rw [← Nat.eq_of_beq_eq_true hb]
    exact h
  | false =>
    rw [hb, cond_false] at hl
    exact hs.sl t' v' hl
theorem St.obj {R B : Nat → Prop} {g : Nat → GS} {a : Act} {w : World} (hs : St P C σ m R B g a w) {n : Nat} {o0 o : Ob} (h0 : lk m n = some o0) (h : RO P w R B g n o) : St P C σ ((n, o) :: m) R B g a w := by
  refine { hs with ob := ?_, ow := ?_ }
  · intro n' o' hl
    change (bif Nat.beq n n' then some o else lk m n') = some o' at hl
    cases hb : Nat.beq n n' with
    | true =>
      rw [hb, cond_true] at hl
      injection hl with hl
      subst hl
      rw [← Nat.eq_of_beq_eq_true hb]
      exact h
    | false =>
      rw [hb, cond_false] at hl
      exact hs.ob n' o' hl
  · intro n' o' b hl hg
    change (bif Nat.beq n n' then some o else lk m n') = some o' at hl
    cases hb : Nat.beq n n' with
    | true =>
      have := Nat.eq_of_beq_eq_true hb
      subst this
      exact hs.ow n o0 b h0 hg
    | false =>
      rw [hb, cond_false] at hl
      exact hs.ow n' o' b hl hg
theorem Ent.junkS (t : Nat) {x : CV} (h : lk σ t = some (Cc x)) : Ent P C σ m ((t, Cc .junk) :: σ) m := fun R B g a w hs =>
  ⟨R, B, g, hs.slot (v := Cc .junk) (RC.junk (x := x) (hs.sl t _ h))⟩
theorem Ent.junkB (n k : Nat) {e : TypeId} {cs : List CV} (h : lk m n = some (.row e [cs])) : Ent P C σ m σ ((n, .row e [cs.set k .junk]) :: m) := fun R B g a w hs => by
  refine ⟨R, B, g, hs.obj h ?_⟩
  rcases hs.ob n _ h with ⟨h1, h2⟩ | ⟨b, cur, h1, h2, h3, h4, h5⟩
  · cases h2
  · refine .inr ⟨b, cur, h1, h2, fun c hc => ?_, by simpa using h4, fun j i c x hj hx => ?_⟩
    · have : c = cs.set k .junk := by simpa using hc
      subst this
      simpa using h3 cs List.mem_cons_self
    · cases j with
      | succ j => simp at hj
      | zero =>
        simp at hj
        subst hj
        exact rel_junk (T := fun i u => cur[0 * szP P e + i]? = some u) (fun i x hx => h5 0 i cs x rfl hx) i x hx
theorem Ent.nilNew (n : Nat) (e : TypeId) (hn : C.pn.elem n = false) : Ent P C σ m (junkSl [n] σ) ((n, .prow e []) :: junkM [n] m) := fun R B g a w hs =>
  ⟨R, B, upd g n .nil, hs.nilName n (by
    intro h
    rw [List.elem_eq_true_of_mem h] at hn
    cases hn) e⟩
def QWL : List PV → List PV → Prop
  | [], [] => True
  | p :: r, p' :: r' => QW p p' ∧ QWL r r'
  | _, _ => False
theorem QWL.get : ∀ {l l' : List PV}, QWL l l' → l'.length = l.length ∧ ∀ (k : Nat) p p', l[k]? = some p → l'[k]? = some p' → QW p p'
  | [], [], _ => ⟨rfl, fun k p p' h => by simp at h⟩
  | p :: r, p' :: r', h => by
    obtain ⟨h1, h2⟩ := QWL.get h.2
    refine ⟨by simp [h1], fun k x x' hx hx' => ?_⟩
    cases k with
    | zero =>
      simp at hx hx'
      subst hx
      subst hx'
      exact h.1
    | succ k => exact h2 k x x' (by simpa using hx) (by simpa using hx')
  | [], _ :: _, h => h.elim
  | _ :: _, [], h => h.elim
section
variable {α : Type} {enc : α → List PV}
end
end
end Go.Fw
end
section
set_option linter.unusedVariables false
set_option linter.unusedSimpArgs false
set_option linter.unnecessarySimpa false
namespace Go.Fw
section
variable {P : Program} {w : World} {R B : Nat → Prop} {g g' : Nat → GS} {X : List Nat} {p k m : Nat}
theorem RC.av {x : CV} {v : Value} (hz : nrC X x = true) (hg : ∀ n, n ∉ X → g' n = g n) (h : RC P w R B g x v) : RC P w R B g' x v := by
  refine ⟨h.1, ?_⟩
  have h2 := h.2
  cases x with
  | pv p => exact h2
  | px q cells => exact h2
  | loc n off len =>
    have hn := hg n (notin_of_elem (by simpa [nrC] using hz))
    rcases h2 with ⟨h3, h4⟩ | h3 | ⟨b, cap, cur, e, h3, h4⟩
    · exact .inl ⟨hn.trans h3, h4⟩
    · exact .inr (.inl h3)
    · exact .inr (.inr ⟨b, cap, cur, e, hn.trans h3, h4⟩)
  | pl n off =>
    obtain ⟨b, h3, h4⟩ := h2
    exact ⟨b, (hg n (notin_of_elem (by simpa [nrC] using hz))).trans h3, h4⟩
  | fn f caps =>
    obtain ⟨vs, h3, h4, h5⟩ := h2
    exact ⟨vs, h3, h4, fun k n hk => by
      obtain ⟨b, h6, h7⟩ := h5 k n hk
      have hc : caps.any X.elem = false := by simpa [nrC] using hz
      have hn : X.elem n = false := by
        have := List.any_eq_false.1 hc n (List.mem_of_getElem? hk)
        simpa using this
      exact ⟨b, (hg n (notin_of_elem hn)).trans h6, h7⟩⟩
  | mref n =>
    obtain ⟨b, h3, h4⟩ := h2
    exact ⟨b, (hg n (notin_of_elem (by simpa [nrC] using hz))).trans h3, h4⟩
  | tl q j off len =>
    have hn := hg q (notin_of_elem (by simpa [nrC] using hz))
    rcases h2 with ⟨h3, h4⟩ | h3 | ⟨b, cap, cur, e, h3, h4⟩
    · exact .inl ⟨by rw [hn]; exact h3, h4⟩
    · exact .inr (.inl h3)
    · exact .inr (.inr ⟨b, cap, cur, e, by rw [hn]; exact h3, h4⟩)
  | tpl q j off =>
    obtain ⟨b, h3, h4⟩ := h2
    exact ⟨b, by rw [hg q (notin_of_elem (by simpa [nrC] using hz))]; exact h3, h4⟩
  | junk => trivial
theorem RS.av {x : SV} {v : Value} (hz : nrS X x = true) (hg : ∀ n, n ∉ X → g' n = g n) (h : RS P w R B g x v) : RS P w R B g' x v := by
  cases x with
  | c x => exact RC.av hz hg h
  | agg cs =>
    obtain ⟨vs, h1, h2, h3⟩ := h
    exact ⟨vs, h1, h2, fun k x hk => by
      obtain ⟨u, h4, h5⟩ := h3 k x hk
      exact ⟨u, h4, h5.av (List.all_eq_true.1 hz x (List.mem_of_getElem? hk)) hg⟩⟩
theorem ROw.av {n : Nat} {e : TypeId} {els : List (List CV)} (hn : n ∉ X) (hz : els.all (·.all (nrC X)) = true) (hg : ∀ n, n ∉ X → g' n = g n) (h : ROw P w R B g n e els) : ROw P w R B g' n e els := by
  rcases h with ⟨h1, h2⟩ | ⟨b, cur, h1, h2, h3, h4, h5⟩
  · exact .inl ⟨(hg n hn).trans h1, h2⟩
  · exact .inr ⟨b, cur, (hg n hn).trans h1, h2, h3, h4, fun j k cs x hj hk => by
      obtain ⟨u, h6, h7⟩ := h5 j k cs x hj hk
      exact ⟨u, h6, h7.av (List.all_eq_true.1 (List.all_eq_true.1 hz cs (List.mem_of_getElem? hj)) x (List.mem_of_getElem? hk)) hg⟩⟩
theorem RO.av {n : Nat} {o : Ob} (hn : n ∉ X) (hz : nrO X o = true) (hg : ∀ n, n ∉ X → g' n = g n) (h : RO P w R B g n o) : RO P w R B g' n o := by
  cases o with
  | row e els => exact ROw.av hn hz hg h
  | prow e els => exact ROw.av hn (by simp [pvs, List.all_eq_true, nrC]) hg h
  | mp es =>
    obtain ⟨b, ents, clock, h1, h2⟩ := h
    exact ⟨b, ents, clock, (hg n hn).trans h1, h2⟩
  | pool e rows =>
    obtain ⟨⟨bs, h1, h2⟩, h3⟩ := h
    exact ⟨⟨bs, (hg n hn).trans h1, h2⟩, by rw [hg n hn]; exact h3⟩
  | trow e p lens => exact ROw.av hn (List.all_eq_true.2 fun cs hcs => by
      obtain ⟨j, l, rfl⟩ := mem_tcells hcs
      simpa [nrC, nrO] using hz) hg h
  | unk => trivial
theorem PRow.of {n : Nat} {e : TypeId} {els : List (List PV)} (h : ROw P w R B g n e (pvs els)) : PRow P w R B (g n) e els := by
  rcases h with ⟨h1, h2⟩ | ⟨b, cur, h1, h2, h3, h4, h5⟩
  · exact .inl ⟨h1, by simpa [pvs] using h2⟩
  · refine .inr ⟨b, cur, h1, h2, fun cs hcs => ?_, by simpa [pvs] using h4, fun j k cs x hj hk => ?_⟩
    · have := h3 (cs.map .pv) (List.mem_map.2 ⟨cs, hcs, rfl⟩)
      simpa using this
    · obtain ⟨u, hu, hr⟩ := h5 j k (cs.map .pv) (.pv x) (by simp [pvs, hj]) (by simp [hk])
      exact ⟨u, hu, hr.2⟩
theorem PRow.row {n : Nat} {s : GS} {e : TypeId} {els : List (List PV)} (h : PRow P w R B s e els) (hn : g n = s) : ROw P w R B g n e (pvs els) := by
  rcases h with ⟨h1, h2⟩ | ⟨b, cur, h1, h2, h3, h4, h5⟩
  · exact .inl ⟨hn.trans h1, by rw [h2]; rfl⟩
  · refine .inr ⟨b, cur, hn.trans h1, h2, fun cs hcs => ?_, by simpa [pvs] using h4, fun j k cs x hj hk => ?_⟩
    · obtain ⟨c0, hc0, rfl⟩ := List.mem_map.1 hcs
      simpa using h3 c0 hc0
    · simp only [pvs, List.getElem?_map] at hj
      cases hc : els[j]? with
      | none => rw [hc] at hj; cases hj
      | some c0 =>
        rw [hc] at hj
        injection hj with hj
        subst hj
        rw [List.getElem?_map] at hk
        cases hc2 : c0[k]? with
        | none => rw [hc2] at hk; cases hk
        | some y =>
          rw [hc2] at hk
          injection hk with hk
          subst hk
          obtain ⟨u, hu, hr⟩ := h5 j k c0 y hc hc2
          exact ⟨u, hu, hr.oneCell, hr⟩
end
end Go.Fw
end
section
set_option linter.unusedVariables false
set_option linter.unusedSimpArgs false
set_option linter.unnecessarySimpa false
namespace Go.Fw
section
variable {P : Program} {C : Ctx} {σ : Slots} {mm : Mem} {α : Type} {enc : α → List PV}
theorem Ent.trow {n p : Nat} {e : TypeId} {lens : List Nat} {cells : List (List CV)} (hc : cells = tcells p lens) (h : lk mm n = some (.row e cells)) : Ent P C σ mm σ ((n, .trow e p lens) :: mm) := fun R B g a w hs => by
  subst hc
  exact ⟨R, B, g, hs.obj (o := .trow e p lens) h (show ROw P w R B g n e (tcells p lens) from hs.ob n (.row e (tcells p lens)) h)⟩
end
end Go.Fw
end
section
set_option linter.unusedVariables false
set_option linter.unusedSimpArgs false
set_option linter.unnecessarySimpa false
namespace Go.Fw
section
variable {P : Program} {o : Oper} {α : Type} {enc : α → List PV}
theorem PRow.blk {w : World} {R B : Nat → Prop} {s : GS} {e : TypeId} {els : List (List PV)} (h : PRow P w R B s e els) {b : Nat} (hb : s = .blk b) {cur : Array Value} {e' : TypeId} (hh : w.heap[b]? = some (.cells cur e' (0, 0))) :
    e' = e ∧ (∀ cs ∈ els, cs.length = szP P e) ∧ els.length * szP P e ≤ cur.size ∧ ∀ (j k : Nat) cs x, els[j]? = some cs → cs[k]? = some x → ∃ u, cur[j * szP P e + k]? = some u ∧ RPV w R B x u := by
  rcases h with ⟨h1, _⟩ | ⟨b', cur', h1, h2, h3, h4, h5⟩
  · rw [hb] at h1; cases h1
  · rw [hb] at h1
    injection h1 with h1
    subst h1
    rw [hh] at h2
    injection h2 with h2
    injection h2 with h2 h6 h7
    subst h2
    subst h6
    exact ⟨rfl, h3, h4, h5⟩
end
end Go.Fw
end
section
set_option linter.unusedVariables false
set_option linter.unusedSimpArgs false
set_option linter.unnecessarySimpa false
namespace Go.Fw
section
variable {P : Program} {C : Ctx} {σ : Slots} {mm : Mem} {α : Type} {enc : α → List PV}
theorem Ent.lens {n p : Nat} {e : TypeId} {lens lens' : List Nat} (he : lens = lens') (h : lk mm n = some (.trow e p lens)) : Ent P C σ mm σ ((n, .trow e p lens') :: mm) := fun R B g a w hs => by
  subst he
  exact ⟨R, B, g, hs.obj h (hs.ob n _ h)⟩
end
end Go.Fw
end
section
set_option linter.unusedVariables false
set_option linter.unusedSimpArgs false
set_option linter.unnecessarySimpa false
namespace Go.Fw
inductive FrC (n : Nat) (els : List (List PV)) : CV → CV → Prop
  | same {x y : CV} (h : junkC [n] x = y) : FrC n els x y
  | fr {l : Nat} (h : l = els.length) : FrC n els (.loc n 0 l) (.pv (.xs true els))
inductive FrL (n : Nat) (els : List (List PV)) : List CV → List CV → Prop
  | nil : FrL n els [] []
  | cons {x y : CV} {xs ys : List CV} (h : FrC n els x y) (t : FrL n els xs ys) : FrL n els (x :: xs) (y :: ys)
inductive FrA (n : Nat) (els : List (List PV)) : AV → AV → Prop
  | same {x y : AV} (h : junkA [n] x = y) : FrA n els x y
  | c {x y : CV} (h : FrC n els x y) : FrA n els (.s (.c x)) (.s (.c y))
  | agg {xs ys : List CV} (h : FrL n els xs ys) : FrA n els (.s (.agg xs)) (.s (.agg ys))
inductive FrO (n : Nat) (els : List (List PV)) : Ob → Ob → Prop
  | same {x y : Ob} (h : junkO [n] x = y) : FrO n els x y
  | row {e : TypeId} {xs ys : List CV} (h : FrL n els xs ys) : FrO n els (.row e [xs]) (.row e [ys])
def FrSl (n : Nat) (els : List (List PV)) (σ : Slots) : Slots → Prop
  | [] => True
  | (t, v) :: r => (∃ x, lk σ t = some x ∧ FrA n els x v) ∧ FrSl n els σ r
def FrM (n : Nat) (els : List (List PV)) (m : Mem) : Mem → Prop
  | [] => True
  | (k, o) :: r => (Nat.beq k n = false ∧ ∃ x, lk m k = some x ∧ FrO n els x o) ∧ FrM n els m r
section
variable {P : Program} {C : Ctx} {σ σ' : Slots} {m m' : Mem} {n : Nat} {els : List (List PV)}
theorem FrSl.get : ∀ {σ' : Slots}, FrSl n els σ σ' → ∀ t v, lk σ' t = some v → ∃ x, lk σ t = some x ∧ FrA n els x v
  | [], _, t, v, h => by cases h
  | (k, v') :: r, h, t, v, hl => by
    change (bif Nat.beq k t then some v' else lk r t) = some v at hl
    cases hb : Nat.beq k t with
    | true =>
      rw [hb, cond_true] at hl
      injection hl with hl
      subst hl
      have := Nat.eq_of_beq_eq_true hb
      subst this
      exact h.1
    | false =>
      rw [hb, cond_false] at hl
      exact FrSl.get h.2 t v hl
theorem FrM.get : ∀ {m' : Mem}, FrM n els m m' → ∀ k o, lk m' k = some o → k ≠ n ∧ ∃ x, lk m k = some x ∧ FrO n els x o
  | [], _, t, v, h => by cases h
  | (k, v') :: r, h, t, v, hl => by
    change (bif Nat.beq k t then some v' else lk r t) = some v at hl
    cases hb : Nat.beq k t with
    | true =>
      rw [hb, cond_true] at hl
      injection hl with hl
      subst hl
      have := Nat.eq_of_beq_eq_true hb
      subst this
      exact ⟨Nat.ne_of_beq_eq_false h.1.1, h.1.2⟩
    | false =>
      rw [hb, cond_false] at hl
      exact FrM.get h.2 t v hl
theorem FrL.get {xs ys : List CV} (h : FrL n els xs ys) : xs.length = ys.length ∧ ∀ (k : Nat) y, ys[k]? = some y → ∃ x, xs[k]? = some x ∧ FrC n els x y := by
  induction h with
  | nil => exact ⟨rfl, fun k y h => by simp at h⟩
  | cons h _ ih =>
    refine ⟨by simp [ih.1], fun k y hk => ?_⟩
    cases k with
    | zero => simp at hk; subst hk; exact ⟨_, rfl, h⟩
    | succ k => exact ih.2 k y (by simpa using hk)
section
variable {w : World} {R B R' B' : Nat → Prop} {g g' : Nat → GS}
theorem FrC.rc (had : Adv R B g w [] [n] R' B' g' w) (hw : WF R B g w) (hv : ∀ v, RC P w R B g (.loc n 0 els.length) v → RPV w R' B' (.xs true els) v) {x y : CV} {v : Value} (h : FrC n els x y) (hx : RC P w R B g x v) : RC P w R' B' g' y v := by
  cases h with
  | same h => subst h; exact had.rc hw hx
  | fr h => subst h; exact ⟨hx.1, hv v hx⟩
theorem FrL.rl (had : Adv R B g w [] [n] R' B' g' w) (hw : WF R B g w) (hv : ∀ v, RC P w R B g (.loc n 0 els.length) v → RPV w R' B' (.xs true els) v) {xs ys : List CV} (h : FrL n els xs ys) {us : Nat → Option Value} (hx : ∀ (k : Nat) x, xs[k]? = some x → ∃ u, us k = some u ∧ RC P w R B g x u) :
    ∀ (k : Nat) y, ys[k]? = some y → ∃ u, us k = some u ∧ RC P w R' B' g' y u := fun k y hk => by
  obtain ⟨x, h1, h2⟩ := h.get.2 k y hk
  obtain ⟨u, h3, h4⟩ := hx k x h1
  exact ⟨u, h3, h2.rc had hw hv h4⟩
theorem FrA.ra (had : Adv R B g w [] [n] R' B' g' w) (hw : WF R B g w) (hv : ∀ v, RC P w R B g (.loc n 0 els.length) v → RPV w R' B' (.xs true els) v) {x y : AV} {v : Value} (h : FrA n els x y) (hx : RA P w R B g x v) : RA P w R' B' g' y v := by
  cases h with
  | same h => subst h; exact had.ra hw hx
  | c h => exact FrC.rc had hw hv h hx
  | agg h =>
    obtain ⟨vs, h1, h2, h3⟩ := hx
    exact ⟨vs, h1, h2.trans h.get.1, FrL.rl had hw hv h h3⟩
theorem FrO.ro (had : Adv R B g w [] [n] R' B' g' w) (hw : WF R B g w) (hv : ∀ v, RC P w R B g (.loc n 0 els.length) v → RPV w R' B' (.xs true els) v) {k : Nat} (hk : k ≠ n) {x y : Ob} (h : FrO n els x y) (hx : RO P w R B g k x) : RO P w R' B' g' k y := by
  cases h with
  | same h => subst h; exact had.ro hw (by simpa using hk) (by simp) hx
  | @row e xs ys h =>
    have hg : g' k = g k := had.names k (by simpa using hk)
    rcases hx with ⟨h1, h2⟩ | ⟨b, cur, h1, h2, h3, h4, h5⟩
    · cases h2
    · refine .inr ⟨b, cur, hg.trans h1, h2, fun cs hcs => ?_, h4, fun j i cs y hj hi => ?_⟩
      · have : cs = ys := by simpa using hcs
        subst this
        rw [← h.get.1]
        exact h3 xs (by simp)
      · cases j with
        | succ j => simp at hj
        | zero =>
          have : ys = cs := by simpa using hj
          subst this
          exact FrL.rl had hw hv h (us := fun i => cur[0 * szP P e + i]?) (fun i x hi => h5 0 i xs x rfl hi) i y hi
end
variable {α : Type} {enc : α → List PV}
end
end Go.Fw
end
section
set_option linter.unusedVariables false
set_option linter.unusedSimpArgs false
set_option linter.unnecessarySimpa false
namespace Go.Fw
section
variable {P : Program} {w : World} {R B : Nat → Prop} {g : Nat → GS}
variable {o : Oper} {α : Type} {enc : α → List PV}
def fvB (P : Program) (t : TypeId) (i : Nat) : Option (TypeId × Nat) := match P.underlying t with
  | some (.struct fs) => (fs[i]?).map fun f => (f.type, f.offset)
  | _ => none
theorem LT.fieldV1 {x : Operand} {t T : TypeId} {i d : Nat} {cs : List CV} {c : CV} (ho : o.op = .field t x i) (h : fvB P t i = some (T, d)) (ha : agB P T = some false) (hc : cs[d]? = some c) : LT P o [(x, Ag cs)] [] (Cc c) [] [] [] := .calm fun R B g w a _ hi _ => by
  obtain ⟨vs, hx, hl, hg⟩ := in1 hi
  obtain ⟨u, hu, hr⟩ := hg d c hc
  unfold fvB at h
  split at h
  · rename_i fs hf
    cases hfi : fs[i]? with
    | none => rw [hfi] at h; cases h
    | some f =>
      rw [hfi] at h
      injection h with h
      injection h with h1 h2
      subst h1 h2
      exact ⟨u, by simp [execOp, ho, hx, Instr.field, run_underlying hf, hfi, asAgg, part, run_isAgg ha, hu], hr⟩
  · cases h
end
end Go.Fw
end
section
set_option linter.unusedVariables false
set_option linter.unusedSimpArgs false
set_option linter.unnecessarySimpa false
namespace Go.Fw
abbrev xF {α : Type} (enc : α → List PV) (l : List α) : CV := .pv (.xs false (l.map enc))
abbrev lo (n len : Nat) : CV := .loc n 0 len
abbrev pR {α : Type} (e : TypeId) (enc : α → List PV) (l : List α) : Ob := .prow e (l.map enc)
section
variable {P : Program} {C : Ctx} {σ : Slots} {m : Mem} {is : List It} {τ υ : Type} {M : Option τ} {K : τ → Post} {ops : Array Oper} {l : List Oper} {done : List Ct} {rest : List Oper} {o : Oper}
theorem On (h : AWR P C is σ m M K) : AOR P C ops [] is σ m M K := AOR.nil h
theorem Ob' {x : Option υ} {f : υ → Option τ} (h : ∀ u, x = some u → AOR P C ops rest is σ m (f u) K) : AOR P C ops rest is σ m (x.bind f) K := AOR.bind h
theorem Ws {x y : Code} (h : AWR P C (.code x :: .code y :: is) σ m M K) : AWR P C (.code (.seq x y) :: is) σ m M K := AWR.seq h
theorem Wr {id : Nat} {l : List Oper} (h : AOR P C l.toArray l is σ m M K) : AWR P C (.code (.region id l.toArray false) :: is) σ m M K := AWR.region h
theorem Ok {j : Nat} {want : Bool} {d : Tmp} {c : Bool} (hg : o.guard = some (j, want)) (h1 : (ops[j]?).bind (·.dst) = some d) (h2 : lk σ d = some (Bv c)) (h3 : (c == want) = false) (hd : dstOk C.N o.dst = true) (h : AOR P C ops rest is (setD σ o.dst (.tup [])) m M K) : AOR P C ops (o :: rest) is σ m M K :=
  AOR.skip (by unfold GuardIs; rw [hg]; exact ⟨d, h1, .inl ⟨c, h2, h3.symm⟩⟩) hd h
theorem Oj {j : Nat} {want : Bool} {d : Tmp} (hg : o.guard = some (j, want)) (h1 : (ops[j]?).bind (·.dst) = some d) (h2 : lk σ d = some (.tup [])) (hd : dstOk C.N o.dst = true) (h : AOR P C ops rest is (setD σ o.dst (.tup [])) m M K) : AOR P C ops (o :: rest) is σ m M K :=
  AOR.skip (by unfold GuardIs; rw [hg]; exact ⟨d, h1, .inr ⟨h2, rfl⟩⟩) hd h
theorem Op00   {v : AV} (hlt : LT P o [] [] v [] [] [])   (hg : GuardIs ops σ o true) (hd : dstOk C.N o.dst = true) (h : AOR P C ops rest is (setD σ o.dst v) m M K) : AOR P C ops (o :: rest) is σ m M K := AOR.pure hlt trivial trivial hg hd h
theorem Os00   {v : AV} {df : Mem} {W X : List Nat} (hlt : LT P o [] [] v df W X)   (hg : GuardIs ops σ o true) (hs : (dstOk C.N o.dst && subL W (X ++ keys df) && subL W (keys ([] : Mem)) && subL (keys df) (X ++ W) && disL X C.pn) = true) (h : AOR P C ops rest is (setD (junkSl X σ) o.dst v) (df ++ junkM X m) M K) : AOR P C ops (o :: rest) is σ m M K := AOR.step hlt trivial trivial hg hs h
theorem Ds00   {v : AV} {df : Mem} {W X : List Nat} (hlt : LT P o [] [] v df W X)   (hg : GuardIs l.toArray σ o true) (hs : (dstOk C.N o.dst && subL W (X ++ keys df) && subL W (keys ([] : Mem)) && subL (keys df) (X ++ W) && disL X C.pn) = true) (h : AOD P C l (⟨[], [], v, df, W, X, true⟩ :: done) rest is (setD (junkSl X σ) o.dst v) (df ++ junkM X m) M K) : AOD P C l done (o :: rest) is σ m M K := AOD.step hlt trivial trivial hg hs h
theorem Op10 {x0 : Operand} {v0 : AV}  {v : AV} (hlt : LT P o [(x0, v0)] [] v [] [] []) (e0 : EvO σ x0 v0)  (hg : GuardIs ops σ o true) (hd : dstOk C.N o.dst = true) (h : AOR P C ops rest is (setD σ o.dst v) m M K) : AOR P C ops (o :: rest) is σ m M K := AOR.pure hlt ⟨e0, trivial⟩ trivial hg hd h
theorem Os10 {x0 : Operand} {v0 : AV}  {v : AV} {df : Mem} {W X : List Nat} (hlt : LT P o [(x0, v0)] [] v df W X) (e0 : EvO σ x0 v0)  (hg : GuardIs ops σ o true) (hs : (dstOk C.N o.dst && subL W (X ++ keys df) && subL W (keys ([] : Mem)) && subL (keys df) (X ++ W) && disL X C.pn) = true) (h : AOR P C ops rest is (setD (junkSl X σ) o.dst v) (df ++ junkM X m) M K) : AOR P C ops (o :: rest) is σ m M K := AOR.step hlt ⟨e0, trivial⟩ trivial hg hs h
theorem Dp10 {x0 : Operand} {v0 : AV}  {v : AV} (hlt : LT P o [(x0, v0)] [] v [] [] []) (e0 : EvO σ x0 v0)  (hg : GuardIs l.toArray σ o true) (hd : dstOk C.N o.dst = true) (h : AOD P C l (⟨[(x0, v0)], [], v, [], [], [], true⟩ :: done) rest is (setD σ o.dst v) m M K) : AOD P C l done (o :: rest) is σ m M K := AOD.pure hlt ⟨e0, trivial⟩ trivial hg hd h
theorem Ds10 {x0 : Operand} {v0 : AV}  {v : AV} {df : Mem} {W X : List Nat} (hlt : LT P o [(x0, v0)] [] v df W X) (e0 : EvO σ x0 v0)  (hg : GuardIs l.toArray σ o true) (hs : (dstOk C.N o.dst && subL W (X ++ keys df) && subL W (keys ([] : Mem)) && subL (keys df) (X ++ W) && disL X C.pn) = true) (h : AOD P C l (⟨[(x0, v0)], [], v, df, W, X, true⟩ :: done) rest is (setD (junkSl X σ) o.dst v) (df ++ junkM X m) M K) : AOD P C l done (o :: rest) is σ m M K := AOD.step hlt ⟨e0, trivial⟩ trivial hg hs h
theorem Op11 {x0 : Operand} {v0 : AV} {n0 : Nat} {o0 : Ob} {v : AV} (hlt : LT P o [(x0, v0)] [(n0, o0)] v [] [] []) (e0 : EvO σ x0 v0) (l0 : lk m n0 = some o0) (hg : GuardIs ops σ o true) (hd : dstOk C.N o.dst = true) (h : AOR P C ops rest is (setD σ o.dst v) m M K) : AOR P C ops (o :: rest) is σ m M K := AOR.pure hlt ⟨e0, trivial⟩ ⟨l0, trivial⟩ hg hd h
theorem Dp11 {x0 : Operand} {v0 : AV} {n0 : Nat} {o0 : Ob} {v : AV} (hlt : LT P o [(x0, v0)] [(n0, o0)] v [] [] []) (e0 : EvO σ x0 v0) (l0 : lk m n0 = some o0) (hg : GuardIs l.toArray σ o true) (hd : dstOk C.N o.dst = true) (h : AOD P C l (⟨[(x0, v0)], [(n0, o0)], v, [], [], [], true⟩ :: done) rest is (setD σ o.dst v) m M K) : AOD P C l done (o :: rest) is σ m M K := AOD.pure hlt ⟨e0, trivial⟩ ⟨l0, trivial⟩ hg hd h
theorem Op20 {x0 : Operand} {v0 : AV} {x1 : Operand} {v1 : AV}  {v : AV} (hlt : LT P o [(x0, v0), (x1, v1)] [] v [] [] []) (e0 : EvO σ x0 v0) (e1 : EvO σ x1 v1)  (hg : GuardIs ops σ o true) (hd : dstOk C.N o.dst = true) (h : AOR P C ops rest is (setD σ o.dst v) m M K) : AOR P C ops (o :: rest) is σ m M K := AOR.pure hlt ⟨e0, e1, trivial⟩ trivial hg hd h
theorem Os20 {x0 : Operand} {v0 : AV} {x1 : Operand} {v1 : AV}  {v : AV} {df : Mem} {W X : List Nat} (hlt : LT P o [(x0, v0), (x1, v1)] [] v df W X) (e0 : EvO σ x0 v0) (e1 : EvO σ x1 v1)  (hg : GuardIs ops σ o true) (hs : (dstOk C.N o.dst && subL W (X ++ keys df) && subL W (keys ([] : Mem)) && subL (keys df) (X ++ W) && disL X C.pn) = true) (h : AOR P C ops rest is (setD (junkSl X σ) o.dst v) (df ++ junkM X m) M K) : AOR P C ops (o :: rest) is σ m M K := AOR.step hlt ⟨e0, e1, trivial⟩ trivial hg hs h
theorem Dp20 {x0 : Operand} {v0 : AV} {x1 : Operand} {v1 : AV}  {v : AV} (hlt : LT P o [(x0, v0), (x1, v1)] [] v [] [] []) (e0 : EvO σ x0 v0) (e1 : EvO σ x1 v1)  (hg : GuardIs l.toArray σ o true) (hd : dstOk C.N o.dst = true) (h : AOD P C l (⟨[(x0, v0), (x1, v1)], [], v, [], [], [], true⟩ :: done) rest is (setD σ o.dst v) m M K) : AOD P C l done (o :: rest) is σ m M K := AOD.pure hlt ⟨e0, e1, trivial⟩ trivial hg hd h
theorem Op21 {x0 : Operand} {v0 : AV} {x1 : Operand} {v1 : AV} {n0 : Nat} {o0 : Ob} {v : AV} (hlt : LT P o [(x0, v0), (x1, v1)] [(n0, o0)] v [] [] []) (e0 : EvO σ x0 v0) (e1 : EvO σ x1 v1) (l0 : lk m n0 = some o0) (hg : GuardIs ops σ o true) (hd : dstOk C.N o.dst = true) (h : AOR P C ops rest is (setD σ o.dst v) m M K) : AOR P C ops (o :: rest) is σ m M K := AOR.pure hlt ⟨e0, e1, trivial⟩ ⟨l0, trivial⟩ hg hd h
theorem Os21 {x0 : Operand} {v0 : AV} {x1 : Operand} {v1 : AV} {n0 : Nat} {o0 : Ob} {v : AV} {df : Mem} {W X : List Nat} (hlt : LT P o [(x0, v0), (x1, v1)] [(n0, o0)] v df W X) (e0 : EvO σ x0 v0) (e1 : EvO σ x1 v1) (l0 : lk m n0 = some o0) (hg : GuardIs ops σ o true) (hs : (dstOk C.N o.dst && subL W (X ++ keys df) && subL W (keys [(n0, o0)]) && subL (keys df) (X ++ W) && disL X C.pn) = true) (h : AOR P C ops rest is (setD (junkSl X σ) o.dst v) (df ++ junkM X m) M K) : AOR P C ops (o :: rest) is σ m M K := AOR.step hlt ⟨e0, e1, trivial⟩ ⟨l0, trivial⟩ hg hs h
theorem Dp21 {x0 : Operand} {v0 : AV} {x1 : Operand} {v1 : AV} {n0 : Nat} {o0 : Ob} {v : AV} (hlt : LT P o [(x0, v0), (x1, v1)] [(n0, o0)] v [] [] []) (e0 : EvO σ x0 v0) (e1 : EvO σ x1 v1) (l0 : lk m n0 = some o0) (hg : GuardIs l.toArray σ o true) (hd : dstOk C.N o.dst = true) (h : AOD P C l (⟨[(x0, v0), (x1, v1)], [(n0, o0)], v, [], [], [], true⟩ :: done) rest is (setD σ o.dst v) m M K) : AOD P C l done (o :: rest) is σ m M K := AOD.pure hlt ⟨e0, e1, trivial⟩ ⟨l0, trivial⟩ hg hd h
theorem Ds21 {x0 : Operand} {v0 : AV} {x1 : Operand} {v1 : AV} {n0 : Nat} {o0 : Ob} {v : AV} {df : Mem} {W X : List Nat} (hlt : LT P o [(x0, v0), (x1, v1)] [(n0, o0)] v df W X) (e0 : EvO σ x0 v0) (e1 : EvO σ x1 v1) (l0 : lk m n0 = some o0) (hg : GuardIs l.toArray σ o true) (hs : (dstOk C.N o.dst && subL W (X ++ keys df) && subL W (keys [(n0, o0)]) && subL (keys df) (X ++ W) && disL X C.pn) = true) (h : AOD P C l (⟨[(x0, v0), (x1, v1)], [(n0, o0)], v, df, W, X, true⟩ :: done) rest is (setD (junkSl X σ) o.dst v) (df ++ junkM X m) M K) : AOD P C l done (o :: rest) is σ m M K := AOD.step hlt ⟨e0, e1, trivial⟩ ⟨l0, trivial⟩ hg hs h
theorem Os22 {x0 : Operand} {v0 : AV} {x1 : Operand} {v1 : AV} {n0 : Nat} {o0 : Ob} {n1 : Nat} {o1 : Ob} {v : AV} {df : Mem} {W X : List Nat} (hlt : LT P o [(x0, v0), (x1, v1)] [(n0, o0), (n1, o1)] v df W X) (e0 : EvO σ x0 v0) (e1 : EvO σ x1 v1) (l0 : lk m n0 = some o0) (l1 : lk m n1 = some o1) (hg : GuardIs ops σ o true) (hs : (dstOk C.N o.dst && subL W (X ++ keys df) && subL W (keys [(n0, o0), (n1, o1)]) && subL (keys df) (X ++ W) && disL X C.pn) = true) (h : AOR P C ops rest is (setD (junkSl X σ) o.dst v) (df ++ junkM X m) M K) : AOR P C ops (o :: rest) is σ m M K := AOR.step hlt ⟨e0, e1, trivial⟩ ⟨l0, l1, trivial⟩ hg hs h
theorem Ds22 {x0 : Operand} {v0 : AV} {x1 : Operand} {v1 : AV} {n0 : Nat} {o0 : Ob} {n1 : Nat} {o1 : Ob} {v : AV} {df : Mem} {W X : List Nat} (hlt : LT P o [(x0, v0), (x1, v1)] [(n0, o0), (n1, o1)] v df W X) (e0 : EvO σ x0 v0) (e1 : EvO σ x1 v1) (l0 : lk m n0 = some o0) (l1 : lk m n1 = some o1) (hg : GuardIs l.toArray σ o true) (hs : (dstOk C.N o.dst && subL W (X ++ keys df) && subL W (keys [(n0, o0), (n1, o1)]) && subL (keys df) (X ++ W) && disL X C.pn) = true) (h : AOD P C l (⟨[(x0, v0), (x1, v1)], [(n0, o0), (n1, o1)], v, df, W, X, true⟩ :: done) rest is (setD (junkSl X σ) o.dst v) (df ++ junkM X m) M K) : AOD P C l done (o :: rest) is σ m M K := AOD.step hlt ⟨e0, e1, trivial⟩ ⟨l0, l1, trivial⟩ hg hs h
theorem Op30 {x0 : Operand} {v0 : AV} {x1 : Operand} {v1 : AV} {x2 : Operand} {v2 : AV}  {v : AV} (hlt : LT P o [(x0, v0), (x1, v1), (x2, v2)] [] v [] [] []) (e0 : EvO σ x0 v0) (e1 : EvO σ x1 v1) (e2 : EvO σ x2 v2)  (hg : GuardIs ops σ o true) (hd : dstOk C.N o.dst = true) (h : AOR P C ops rest is (setD σ o.dst v) m M K) : AOR P C ops (o :: rest) is σ m M K := AOR.pure hlt ⟨e0, e1, e2, trivial⟩ trivial hg hd h
theorem Dp30 {x0 : Operand} {v0 : AV} {x1 : Operand} {v1 : AV} {x2 : Operand} {v2 : AV}  {v : AV} (hlt : LT P o [(x0, v0), (x1, v1), (x2, v2)] [] v [] [] []) (e0 : EvO σ x0 v0) (e1 : EvO σ x1 v1) (e2 : EvO σ x2 v2)  (hg : GuardIs l.toArray σ o true) (hd : dstOk C.N o.dst = true) (h : AOD P C l (⟨[(x0, v0), (x1, v1), (x2, v2)], [], v, [], [], [], true⟩ :: done) rest is (setD σ o.dst v) m M K) : AOD P C l done (o :: rest) is σ m M K := AOD.pure hlt ⟨e0, e1, e2, trivial⟩ trivial hg hd h
theorem Os31 {x0 : Operand} {v0 : AV} {x1 : Operand} {v1 : AV} {x2 : Operand} {v2 : AV} {n0 : Nat} {o0 : Ob} {v : AV} {df : Mem} {W X : List Nat} (hlt : LT P o [(x0, v0), (x1, v1), (x2, v2)] [(n0, o0)] v df W X) (e0 : EvO σ x0 v0) (e1 : EvO σ x1 v1) (e2 : EvO σ x2 v2) (l0 : lk m n0 = some o0) (hg : GuardIs ops σ o true) (hs : (dstOk C.N o.dst && subL W (X ++ keys df) && subL W (keys [(n0, o0)]) && subL (keys df) (X ++ W) && disL X C.pn) = true) (h : AOR P C ops rest is (setD (junkSl X σ) o.dst v) (df ++ junkM X m) M K) : AOR P C ops (o :: rest) is σ m M K := AOR.step hlt ⟨e0, e1, e2, trivial⟩ ⟨l0, trivial⟩ hg hs h
theorem mv (v : AV) {x : Operand} (ho : o.op = .move x) (e : EvO σ x v) (hg : GuardIs ops σ o true) (hd : dstOk C.N o.dst = true) (h : AOR P C ops rest is (setD σ o.dst v) m M K) : AOR P C ops (o :: rest) is σ m M K := AOR.pure (LT.move ho) ⟨e, trivial⟩ trivial hg hd h
theorem asg (v : AV) {x : Operand} (ho : o.op = .assign x) (e : EvO σ x v) (hg : GuardIs ops σ o true) (hd : dstOk C.N o.dst = true) (h : AOR P C ops rest is (setD σ o.dst v) m M K) : AOR P C ops (o :: rest) is σ m M K := AOR.pure (LT.assign ho) ⟨e, trivial⟩ trivial hg hd h
theorem en (σ' : Slots) (m' : Mem) (h1 : SubS σ' σ) (h2 : SubM m' m) (k : AWR P C is σ' m' M K) : AWR P C is σ m M K := AWR.ent (Ent.of h1 h2) k
end
end Go.Fw
end
section
set_option linter.unusedVariables false
set_option linter.unusedSimpArgs false
set_option linter.unnecessarySimpa false
set_option maxRecDepth 100000
set_option maxHeartbeats 8000000
open Go Go.Fw
namespace Go.Proofs.Yteognanhfpbghaa
structure TBar where
  mk ::
  A : Int
  B : Int
structure TGraph where
  mk ::
  Points : Int
  Bars : (List TBar)
structure TPlace where
  mk ::
  X : Int
  Y : Int
structure TFramework where
  mk ::
  Graph : TGraph
  Places : (List TPlace)
structure TPinned where
  mk ::
  Graph : TGraph
  Ground : (List Int)
structure TPebbles where
  mk ::
  Free : (List Int)
  Tails : (List Int)
  Placed : (List Int)
def encTBar (a : TBar) : List PV := [.sc (.int .i64 a.A), .sc (.int .i64 a.B)]
theorem perm_encTBar (a : TBar) : PermPL (encTBar a) := ⟨.sc, .sc, trivial⟩
def encInt (a : Int) : List PV := [.sc (.int .i64 a)]
theorem perm_encInt (a : Int) : PermPL (encInt a) := ⟨.sc, trivial⟩
def encBool (a : Bool) : List PV := [.sc (.bool a)]
def m_laws_szBarS (a : (List TBar)) (leftV : Int) : Option Int :=
(bif (decide ((w64 (leftV - (a.length : Int))) < 0)) then
 some (-1)
 else
 some (w64 (leftV - (a.length : Int)))
)
def m_laws_szGraph (a : TGraph) (leftV : Int) : Option Int :=
(m_laws_szBarS a.Bars leftV).bind (fun r1 =>
(bif (decide (r1 < 0)) then
 some (-1)
 else
 some r1
)
)
def m_laws_toBar (a : TBar) : Option TBar :=
 some a
def m_laws_toBarS_L1 (a : (List TBar)) (s2 : (Int × (List TBar))) : Option ((Int × (List TBar)) ⊕ (List TBar)) :=
(bif (decide (s2.1 < (a.length : Int))) then
(idx a s2.1).bind (fun x13 =>
(m_laws_toBar x13).bind (fun r14 =>
(idx s2.2 s2.1).bind (fun x15 =>
 some (.inl ((w64 (s2.1 + 1)), (s2.2.set s2.1.toNat r14)))
)
)
)
 else
 some (.inr s2.2)
)
def m_laws_toBarS (a : (List TBar)) : Option (List TBar) :=
(lenOk (a.length : Int)).bind (fun u1 =>
((loopM (m_laws_toBarS_L1 a) BIG (0, (List.replicate (a.length : Int).toNat (TBar.mk (0 : Int) (0 : Int))))).bind (fun b11 =>
 some b11
))
)
def m_laws_toGraph (a : TGraph) : Option TGraph :=
(m_laws_toBarS a.Bars).bind (fun r1 =>
 some (TGraph.mk a.Points r1)
)
def m_spec_l1In (x : Int) (low : Int) (high : Int) : Option Bool :=
(((
(bif (decide (low ≤ x)) then
 some (decide (x ≤ high))
 else
 some false
)
) : Option Bool).bind (fun j2 =>
 some j2
))
def m_spec_l2After (a : TBar) (b : TBar) : Option Bool :=
(((
(bif (decide (a.A < b.A)) then
 some true
 else
(bif (a.A == b.A) then
 some (decide (a.B ≤ b.B))
 else
 some false
)
)
) : Option Bool).bind (fun j3 =>
 some j3
))
def m_spec_IsGraph_L1 (g : TGraph) (s7 : Int) : Option (Int ⊕ (Unit ⊕ Bool)) :=
(bif (decide (s7 < (g.Bars.length : Int))) then
(idx g.Bars s7).bind (fun x42 =>
(((
(bif (decide (x42.A < 0)) then
 some true
 else
(bif (decide (x42.B ≤ x42.A)) then
 some true
 else
(bif (decide (g.Points ≤ x42.B)) then
 some true
 else
(bif (decide (0 < s7)) then
(idx g.Bars (w64 (s7 - 1))).bind (fun x54 =>
(m_spec_l2After x54 x42).bind (fun r55 =>
 some (!r55)
)
)
 else
 some false
)
)
)
)
) : Option Bool).bind (fun j49 =>
(bif j49 then
 some (.inr (.inr false))
 else
 some (.inl (w64 (s7 + 1)))
)
))
)
 else
 some (.inr (.inl ()))
)
def m_spec_IsGraph (g : TGraph) : Option Bool :=
(((
(m_spec_l1In g.Points 1 8).bind (fun r4 =>
(bif (!r4) then
 some true
 else
 some (decide (24 < (g.Bars.length : Int)))
)
)
) : Option Bool).bind (fun j3 =>
(bif j3 then
 some false
 else
((loopM (m_spec_IsGraph_L1 g) BIG 0).bind (Sum.elim (fun b40 => (
 some true
)) (fun r => some r)))
)
))
def m_impl_within (x : Int) (loV : Int) (hi : Int) : Option Bool :=
(((
(bif (decide (loV ≤ x)) then
 some (decide (x ≤ hi))
 else
 some false
)
) : Option Bool).bind (fun j2 =>
 some j2
))
def m_impl_compareInts (a : Int) (b : Int) : Option Int :=
(bif (decide (a < b)) then
 some (-1)
 else
(bif (decide (b < a)) then
 some 1
 else
 some 0
)
)
def m_impl_compareBars (x : TBar) (y : TBar) : Option Int :=
(m_impl_compareInts x.A y.A).bind (fun r1 =>
(bif (r1 != 0) then
 some r1
 else
(m_impl_compareInts x.B y.B).bind (fun r3 =>
 some r3
)
)
)
def m_impl_IsGraph_L1 (g : TGraph) (s7 : Int) : Option (Int ⊕ (Unit ⊕ Bool)) :=
(bif (decide (s7 < (g.Bars.length : Int))) then
(idx g.Bars s7).bind (fun x42 =>
(((
(bif (decide (x42.A < 0)) then
 some true
 else
(bif (decide (x42.B ≤ x42.A)) then
 some true
 else
(bif (decide (g.Points ≤ x42.B)) then
 some true
 else
(bif (decide (0 < s7)) then
(idx g.Bars (w64 (s7 - 1))).bind (fun x54 =>
(m_impl_compareBars x54 x42).bind (fun r55 =>
 some (decide (0 < r55))
)
)
 else
 some false
)
)
)
)
) : Option Bool).bind (fun j49 =>
(bif j49 then
 some (.inr (.inr false))
 else
 some (.inl (w64 (s7 + 1)))
)
))
)
 else
 some (.inr (.inl ()))
)
def m_impl_IsGraph (g : TGraph) : Option Bool :=
(((
(m_impl_within g.Points 1 8).bind (fun r4 =>
(bif (!r4) then
 some true
 else
 some (decide (24 < (g.Bars.length : Int)))
)
)
) : Option Bool).bind (fun j3 =>
(bif j3 then
 some false
 else
((loopM (m_impl_IsGraph_L1 g) BIG 0).bind (Sum.elim (fun b40 => (
 some true
)) (fun r => some r)))
)
))
def m_laws_eqBar (a : TBar) (b : TBar) : Option Bool :=
(bif (a.A != b.A) then
 some false
 else
(bif (a.B != b.B) then
 some false
 else
 some true
)
)
def m_laws_eqBarS_L1 (a : (List TBar)) (b : (List TBar)) (s2 : Int) : Option (Int ⊕ (Unit ⊕ Bool)) :=
(bif (decide (s2 < (a.length : Int))) then
(idx a s2).bind (fun x15 =>
(idx b s2).bind (fun x16 =>
(m_laws_eqBar x15 x16).bind (fun r17 =>
(bif (!r17) then
 some (.inr (.inr false))
 else
 some (.inl (w64 (s2 + 1)))
)
)
)
)
 else
 some (.inr (.inl ()))
)
def m_laws_eqBarS (a : (List TBar)) (b : (List TBar)) : Option Bool :=
(bif ((a.length : Int) != (b.length : Int)) then
 some false
 else
((loopM (m_laws_eqBarS_L1 a b) BIG 0).bind (Sum.elim (fun b13 => (
 some true
)) (fun r => some r)))
)
def m_laws_eqGraph (a : TGraph) (b : TGraph) : Option Bool :=
(bif (a.Points != b.Points) then
 some false
 else
(m_laws_eqBarS a.Bars b.Bars).bind (fun r2 =>
(bif (!r2) then
 some false
 else
 some true
)
)
)
def m_laws_szIntS (a : (List Int)) (leftV : Int) : Option Int :=
(bif (decide ((w64 (leftV - (a.length : Int))) < 0)) then
 some (-1)
 else
 some (w64 (leftV - (a.length : Int)))
)
def m_laws_szPinned (a : TPinned) (leftV : Int) : Option Int :=
(m_laws_szGraph a.Graph leftV).bind (fun r1 =>
(bif (decide (r1 < 0)) then
 some (-1)
 else
(m_laws_szIntS a.Ground r1).bind (fun r3 =>
(bif (decide (r3 < 0)) then
 some (-1)
 else
 some r3
)
)
)
)
def m_laws_toIntS_L1 (a : (List Int)) (s2 : (Int × (List Int))) : Option ((Int × (List Int)) ⊕ (List Int)) :=
(bif (decide (s2.1 < (a.length : Int))) then
(idx a s2.1).bind (fun x11 =>
(idx s2.2 s2.1).bind (fun x12 =>
 some (.inl ((w64 (s2.1 + 1)), (s2.2.set s2.1.toNat x11)))
)
)
 else
 some (.inr s2.2)
)
def m_laws_toIntS (a : (List Int)) : Option (List Int) :=
(lenOk (a.length : Int)).bind (fun u1 =>
((loopM (m_laws_toIntS_L1 a) BIG (0, (List.replicate (a.length : Int).toNat (0 : Int)))).bind (fun b9 =>
 some b9
))
)
def m_laws_toPinned (a : TPinned) : Option TPinned :=
(m_laws_toGraph a.Graph).bind (fun r1 =>
(m_laws_toIntS a.Ground).bind (fun r2 =>
 some (TPinned.mk r1 r2)
)
)
def m_spec_l2Has_L1 (l : (List Int)) (x : Int) (s1 : Int) : Option (Int ⊕ (Unit ⊕ Bool)) :=
(bif (decide (s1 < (l.length : Int))) then
(idx l s1).bind (fun x10 =>
(bif (x10 == x) then
 some (.inr (.inr true))
 else
 some (.inl (w64 (s1 + 1)))
)
)
 else
 some (.inr (.inl ()))
)
def m_spec_l2Has (l : (List Int)) (x : Int) : Option Bool :=
((loopM (m_spec_l2Has_L1 l x) BIG 0).bind (Sum.elim (fun b8 => (
 some false
)) (fun r => some r)))
def m_spec_l17Simple_L1 (g : TGraph) (s1 : Int) : Option (Int ⊕ (Unit ⊕ Bool)) :=
(bif (decide (s1 < (g.Bars.length : Int))) then
(idx g.Bars (w64 (s1 - 1))).bind (fun x12 =>
(idx g.Bars s1).bind (fun x13 =>
(bif (eqI [x12.A, x12.B] [x13.A, x13.B]) then
 some (.inr (.inr false))
 else
 some (.inl (w64 (s1 + 1)))
)
)
)
 else
 some (.inr (.inl ()))
)
def m_spec_l17Simple (g : TGraph) : Option Bool :=
((loopM (m_spec_l17Simple_L1 g) BIG 1).bind (Sum.elim (fun b10 => (
(m_spec_IsGraph g).bind (fun r15 =>
 some r15
)
)) (fun r => some r)))
def m_spec_IsPinned_L1 (p : TPinned) (s1 : Int) : Option (Int ⊕ (Unit ⊕ Bool)) :=
(bif (decide (s1 < (p.Ground.length : Int))) then
(((
(idx p.Ground s1).bind (fun x46 =>
(bif (decide (x46 < 0)) then
 some true
 else
(idx p.Ground s1).bind (fun x48 =>
(bif (decide (p.Graph.Points ≤ x48)) then
 some true
 else
(bif (decide (0 < s1)) then
(idx p.Ground (w64 (s1 - 1))).bind (fun x51 =>
(idx p.Ground s1).bind (fun x52 =>
 some (decide (x52 ≤ x51))
)
)
 else
 some false
)
)
)
)
)
) : Option Bool).bind (fun j45 =>
(bif j45 then
 some (.inr (.inr false))
 else
 some (.inl (w64 (s1 + 1)))
)
))
 else
 some (.inr (.inl ()))
)
def m_spec_IsPinned_L2 (p : TPinned) (s54 : Int) : Option (Int ⊕ (Unit ⊕ Bool)) :=
(bif (decide (s54 < (p.Graph.Bars.length : Int))) then
(((
(idx p.Graph.Bars s54).bind (fun x89 =>
(m_spec_l2Has p.Ground x89.A).bind (fun r90 =>
(bif r90 then
(idx p.Graph.Bars s54).bind (fun x92 =>
(m_spec_l2Has p.Ground x92.B).bind (fun r93 =>
 some r93
)
)
 else
 some false
)
)
)
) : Option Bool).bind (fun j88 =>
(bif j88 then
 some (.inr (.inr false))
 else
 some (.inl (w64 (s54 + 1)))
)
))
 else
 some (.inr (.inl ()))
)
def m_spec_IsPinned (p : TPinned) : Option Bool :=
((loopM (m_spec_IsPinned_L1 p) BIG 0).bind (Sum.elim (fun b36 => (
((loopM (m_spec_IsPinned_L2 p) BIG 0).bind (Sum.elim (fun b81 => (
(((
(m_spec_l17Simple p.Graph).bind (fun r100 =>
(bif r100 then
(bif (decide (2 ≤ (p.Ground.length : Int))) then
(bif (decide ((p.Graph.Bars.length : Int) ≤ 15)) then
 some (decide ((w64 ((w64 ((p.Graph.Bars.length : Int) + (w64 (2 * (p.Ground.length : Int))))) - 3)) ≤ 24))
 else
 some false
)
 else
 some false
)
 else
 some false
)
)
) : Option Bool).bind (fun j99 =>
 some j99
))
)) (fun r => some r)))
)) (fun r => some r)))
def m_spec_l2Put_L1 (g : TGraph) (x : TBar) (s1 : (Bool × Int × (List TBar))) : Option ((Bool × Int × (List TBar)) ⊕ (Bool × (List TBar))) :=
(bif (decide (s1.2.1 < (g.Bars.length : Int))) then
(((
(bif (!s1.1) then
(idx g.Bars s1.2.1).bind (fun x36 =>
(m_spec_l2After x36 x).bind (fun r37 =>
 some (!r37)
)
)
 else
 some false
)
) : Option Bool).bind (fun j34 =>
(((
(bif j34 then
(lim (s1.2.2.length + [x].length)).bind (fun u42 =>
 some (true, (s1.2.2 ++ [x]))
)
 else
 some (s1.1, s1.2.2)
)
) : Option (Bool × (List TBar))).bind (fun j40 =>
(idx g.Bars s1.2.1).bind (fun x43 =>
(lim (j40.2.length + [x43].length)).bind (fun u44 =>
 some (.inl (j40.1, (w64 (s1.2.1 + 1)), (j40.2 ++ [x43])))
)
)
))
))
 else
 some (.inr (s1.1, s1.2.2))
)
def m_spec_l2Put (g : TGraph) (x : TBar) : Option TGraph :=
((loopM (m_spec_l2Put_L1 g x) BIG (false, 0, ([] : List TBar))).bind (fun b29 =>
(((
(bif (!b29.1) then
(lim (b29.2.length + [x].length)).bind (fun u49 =>
 some (b29.2 ++ [x])
)
 else
 some b29.2
)
) : Option (List TBar)).bind (fun j47 =>
 some (TGraph.mk g.Points j47)
))
))
def m_spec_l20Held_L1 (p : TPinned) (s1 : (Int × Int × (List TBar))) : Option ((Int × Int × (List TBar)) ⊕ ((List TBar) × Int)) :=
(bif (decide (s1.1 < (p.Ground.length : Int))) then
(idx p.Ground 0).bind (fun x30 =>
(idx p.Ground s1.1).bind (fun x31 =>
(m_spec_l2Put (TGraph.mk s1.2.1 s1.2.2) (TBar.mk x30 x31)).bind (fun r32 =>
(((
(bif (decide (1 < s1.1)) then
(idx p.Ground 1).bind (fun x39 =>
(idx p.Ground s1.1).bind (fun x40 =>
(m_spec_l2Put r32 (TBar.mk x39 x40)).bind (fun r41 =>
 some (r41.Points, r41.Bars)
)
)
)
 else
 some (r32.Points, r32.Bars)
)
) : Option (Int × (List TBar))).bind (fun j37 =>
 some (.inl ((w64 (s1.1 + 1)), j37.1, j37.2))
))
)
)
)
 else
 some (.inr (s1.2.2, s1.2.1))
)
def m_spec_l20Held (p : TPinned) : Option TGraph :=
((loopM (m_spec_l20Held_L1 p) BIG (1, p.Graph.Points, ([] : List TBar))).bind (fun b28 =>
 some (TGraph.mk b28.2 b28.1)
))
def m_spec_l20All_L1 (p : TPinned) (s2 : (Int × Int × (List TBar))) : Option ((Int × Int × (List TBar)) ⊕ ((List TBar) × Int)) :=
(bif (decide (s2.1 < (p.Graph.Bars.length : Int))) then
(idx p.Graph.Bars s2.1).bind (fun x11 =>
(m_spec_l2Put (TGraph.mk s2.2.1 s2.2.2) x11).bind (fun r12 =>
 some (.inl ((w64 (s2.1 + 1)), r12.Points, r12.Bars))
)
)
 else
 some (.inr (s2.2.2, s2.2.1))
)
def m_spec_l20All (p : TPinned) : Option TGraph :=
(m_spec_l20Held p).bind (fun r1 =>
((loopM (m_spec_l20All_L1 p) BIG (0, r1.Points, r1.Bars)).bind (fun b9 =>
 some (TGraph.mk b9.2 b9.1)
))
)
def m_spec_NewPebbles_L1 (g : TGraph) (k : Int) (s9 : (Int × (List Int))) : Option ((Int × (List Int)) ⊕ (List Int)) :=
(bif (decide (s9.1 < g.Points)) then
(lim (s9.2.length + ([k] : List Int).length)).bind (fun u16 =>
 some (.inl ((w64 (s9.1 + 1)), (s9.2 ++ ([k] : List Int))))
)
 else
 some (.inr s9.2)
)
def m_spec_NewPebbles (g : TGraph) (k : Int) : Option (TPebbles × Bool) :=
(((
(m_spec_IsGraph g).bind (fun r5 =>
(bif (!r5) then
 some true
 else
(m_spec_l1In k 1 3).bind (fun r7 =>
 some (!r7)
)
)
)
) : Option Bool).bind (fun j4 =>
(bif j4 then
 some ((TPebbles.mk ([] : List Int) ([] : List Int) ([] : List Int)), false)
 else
((loopM (m_spec_NewPebbles_L1 g k) BIG (0, ([] : List Int))).bind (fun b14 =>
 some ((TPebbles.mk b14 ([] : List Int) ([] : List Int)), true)
))
)
))
def m_spec_l4Copy (p : TPebbles) : Option TPebbles :=
(lim (([] : List Int).length + p.Free.length)).bind (fun u1 =>
(lim (([] : List Int).length + p.Tails.length)).bind (fun u2 =>
(lim (([] : List Int).length + p.Placed.length)).bind (fun u3 =>
 some (TPebbles.mk (([] : List Int) ++ p.Free) (([] : List Int) ++ p.Tails) (([] : List Int) ++ p.Placed))
)
)
)
def m_spec_l4Other (b : TBar) (v : Int) : Option Int :=
 some (w64 ((w64 (b.A + b.B)) - v))
def m_spec_l4Shift_L1 (g : TGraph) (p : TPebbles) (fromV : (List Int)) (a : Int) (u : Int) (r1 : TPebbles) (x2 : Int) (x4 : Int) (s6 : (Int × (List Int))) : Option ((Int × (List Int)) ⊕ ((List Int) × (List Int) × (List Int))) :=
(bif (s6.1 != a) then
(idx fromV s6.1).bind (fun x21 =>
(idx p.Placed x21).bind (fun x22 =>
(idx g.Bars x22).bind (fun x23 =>
(m_spec_l4Other x23 s6.1).bind (fun r24 =>
(idx s6.2 x21).bind (fun x25 =>
 some (.inl (r24, (s6.2.set x21.toNat s6.1)))
)
)
)
)
)
 else
 some (.inr (((r1.Free.set u.toNat (w64 (x2 - 1))).set a.toNat (w64 (x4 + 1))), s6.2, r1.Placed))
)
def m_spec_l4Shift (g : TGraph) (p : TPebbles) (fromV : (List Int)) (a : Int) (u : Int) : Option TPebbles :=
(m_spec_l4Copy p).bind (fun r1 =>
(idx r1.Free u).bind (fun x2 =>
(idx r1.Free u).bind (fun x3 =>
(idx (r1.Free.set u.toNat (w64 (x2 - 1))) a).bind (fun x4 =>
(idx (r1.Free.set u.toNat (w64 (x2 - 1))) a).bind (fun x5 =>
((loopM (m_spec_l4Shift_L1 g p fromV a u r1 x2 x4) BIG (u, r1.Tails)).bind (fun b19 =>
 some (TPebbles.mk b19.1 b19.2.1 b19.2.2)
))
)
)
)
)
)
def m_spec_l4Find_L1 (g : TGraph) (s2 : (Int × (List Int))) : Option ((Int × (List Int)) ⊕ (List Int)) :=
(bif (decide (s2.1 < g.Points)) then
(idx s2.2 s2.1).bind (fun x9 =>
 some (.inl ((w64 (s2.1 + 1)), (s2.2.set s2.1.toNat (-1))))
)
 else
 some (.inr s2.2)
)
def m_spec_l4Find_L5 (g : TGraph) (p : TPebbles) (a : Int) (b : Int) (s12 : (Int × (List Int) × (List Int) × (List Bool))) (x95 : Int) (s96 : (Int × (List Int) × (List Int) × (List Bool))) : Option ((Int × (List Int) × (List Int) × (List Bool)) ⊕ ((Int × (List Int) × (List Int) × (List Bool)) ⊕ (TPebbles × Bool))) :=
(bif (decide (s96.1 < (p.Placed.length : Int))) then
(idx p.Tails s96.1).bind (fun x135 =>
(bif (x135 != x95) then
 some (.inl ((w64 (s96.1 + 1)), s96.2.1, s96.2.2.1, s96.2.2.2))
 else
(idx p.Placed s96.1).bind (fun x137 =>
(idx g.Bars x137).bind (fun x138 =>
(m_spec_l4Other x138 x95).bind (fun r139 =>
(idx s96.2.2.2 r139).bind (fun x140 =>
(bif x140 then
 some (.inl ((w64 (s96.1 + 1)), s96.2.1, s96.2.2.1, s96.2.2.2))
 else
(idx s96.2.2.2 r139).bind (fun x142 =>
(idx s96.2.1 r139).bind (fun x143 =>
(((
(bif (r139 != b) then
(idx p.Free r139).bind (fun x148 =>
 some (decide (0 < x148))
)
 else
 some false
)
) : Option Bool).bind (fun j146 =>
(bif j146 then
(m_spec_l4Shift g p (s96.2.1.set r139.toNat s96.1) a r139).bind (fun r150 =>
 some (.inr (.inr (r150, true)))
)
 else
(lim (s96.2.2.1.length + ([r139] : List Int).length)).bind (fun u151 =>
 some (.inl ((w64 (s96.1 + 1)), (s96.2.1.set r139.toNat s96.1), (s96.2.2.1 ++ ([r139] : List Int)), (s96.2.2.2.set r139.toNat true)))
)
)
))
)
)
)
)
)
)
)
)
)
 else
 some (.inr (.inl (s12.1, s96.2.1, s96.2.2.1, s96.2.2.2)))
)
def m_spec_l4Find_L4 (g : TGraph) (p : TPebbles) (a : Int) (b : Int) (s12 : (Int × (List Int) × (List Int) × (List Bool))) : Option ((Int × (List Int) × (List Int) × (List Bool)) ⊕ (Unit ⊕ (TPebbles × Bool))) :=
(bif (decide (s12.1 < (s12.2.2.1.length : Int))) then
(idx s12.2.2.1 s12.1).bind (fun x95 =>
((loopM (m_spec_l4Find_L5 g p a b s12 x95) BIG (0, s12.2.1, s12.2.2.1, s12.2.2.2)).bind (Sum.elim (fun b133 => (
 some (.inl ((w64 (b133.1 + 1)), b133.2.1, b133.2.2.1, b133.2.2.2))
)) (fun r => some (.inr (.inr r)))))
)
 else
 some (.inr (.inl ()))
)
def m_spec_l4Find (g : TGraph) (p : TPebbles) (a : Int) (b : Int) : Option (TPebbles × Bool) :=
(lenOk g.Points).bind (fun u1 =>
((loopM (m_spec_l4Find_L1 g) BIG (0, (List.replicate g.Points.toNat (0 : Int)))).bind (fun b7 =>
(lenOk g.Points).bind (fun u10 =>
(idx (List.replicate g.Points.toNat false) a).bind (fun x11 =>
((loopM (m_spec_l4Find_L4 g p a b) BIG (0, b7, ([a] : List Int), ((List.replicate g.Points.toNat false).set a.toNat true))).bind (Sum.elim (fun b93 => (
 some (p, false)
)) (fun r => some r)))
)
)
))
)
def m_spec_l4Gather_L1 (g : TGraph) (a : Int) (b : Int) (want : Int) (s2 : ((List Int) × (List Int) × (List Int))) : Option (((List Int) × (List Int) × (List Int)) ⊕ (((List Int) × (List Int) × (List Int)) ⊕ (TPebbles × Bool))) :=
(idx s2.1 a).bind (fun x28 =>
(idx s2.1 b).bind (fun x29 =>
(bif (decide ((w64 (x28 + x29)) < want)) then
(m_spec_l4Find g (TPebbles.mk s2.1 s2.2.1 s2.2.2) a b).bind (fun r31 =>
(bif r31.2 then
(bif (!true) then
 none
 else
(bif (!true) then
 none
 else
 some (.inl (r31.1.Free, r31.1.Tails, r31.1.Placed))
)
)
 else
(bif (!false) then
(m_spec_l4Find g (TPebbles.mk s2.1 s2.2.1 s2.2.2) b a).bind (fun r36 =>
(bif r36.2 then
(bif (!true) then
 none
 else
 some (.inl (r36.1.Free, r36.1.Tails, r36.1.Placed))
)
 else
(bif (!false) then
 some (.inr (.inr ((TPebbles.mk s2.1 s2.2.1 s2.2.2), false)))
 else
 none
)
)
)
 else
 none
)
)
)
 else
 some (.inr (.inl (s2.1, s2.2.1, s2.2.2)))
)
)
)
def m_spec_l4Gather (g : TGraph) (p : TPebbles) (a : Int) (b : Int) (want : Int) : Option (TPebbles × Bool) :=
(m_spec_l4Copy p).bind (fun r1 =>
((loopM (m_spec_l4Gather_L1 g a b want) BIG (r1.Free, r1.Tails, r1.Placed)).bind (Sum.elim (fun b27 => (
 some ((TPebbles.mk b27.1 b27.2.1 b27.2.2), true)
)) (fun r => some r)))
)
def m_spec_l6Rank_L1 (g : TGraph) (s2 : (Int × Int × (List Int) × (List Int) × (List Int))) : Option ((Int × Int × (List Int) × (List Int) × (List Int)) ⊕ Int) :=
(bif (decide (s2.1 < (g.Bars.length : Int))) then
(idx g.Bars s2.1).bind (fun x29 =>
(idx g.Bars s2.1).bind (fun x30 =>
(m_spec_l4Gather g (TPebbles.mk s2.2.2.1 s2.2.2.2.1 s2.2.2.2.2) x29.A x30.B 4).bind (fun r31 =>
(bif (!r31.2) then
 some (.inl ((w64 (s2.1 + 1)), s2.2.1, s2.2.2.1, s2.2.2.2.1, s2.2.2.2.2))
 else
(idx g.Bars s2.1).bind (fun x33 =>
(idx g.Bars s2.1).bind (fun x34 =>
(idx r31.1.Free x34.A).bind (fun x35 =>
(idx r31.1.Free x33.A).bind (fun x36 =>
(idx g.Bars s2.1).bind (fun x37 =>
(lim (r31.1.Tails.length + ([x37.A] : List Int).length)).bind (fun u38 =>
(lim (r31.1.Placed.length + ([s2.1] : List Int).length)).bind (fun u39 =>
 some (.inl ((w64 (s2.1 + 1)), (w64 (s2.2.1 + 1)), (r31.1.Free.set x33.A.toNat (w64 (x35 - 1))), (r31.1.Tails ++ ([x37.A] : List Int)), (r31.1.Placed ++ ([s2.1] : List Int))))
)
)
)
)
)
)
)
)
)
)
)
 else
 some (.inr s2.2.1)
)
def m_spec_l6Rank (g : TGraph) : Option Int :=
(m_spec_NewPebbles (TGraph.mk g.Points ([] : List TBar)) 2).bind (fun r1 =>
((loopM (m_spec_l6Rank_L1 g) BIG (0, 0, r1.1.Free, r1.1.Tails, r1.1.Placed)).bind (fun b27 =>
 some b27
))
)
def m_spec_PinnedRank (p : TPinned) : Option Int :=
(m_spec_IsPinned p).bind (fun r1 =>
(bif (!r1) then
 some (-1)
 else
(m_spec_l20All p).bind (fun r3 =>
(m_spec_l6Rank r3).bind (fun r4 =>
(m_spec_l20Held p).bind (fun r5 =>
(m_spec_l6Rank r5).bind (fun r6 =>
 some (w64 (r4 - r6))
)
)
)
)
)
)
def m_impl_hasDoubles_L1 (g : TGraph) (s1 : Int) : Option (Int ⊕ (Unit ⊕ Bool)) :=
(bif (decide (s1 < (g.Bars.length : Int))) then
(idx g.Bars (w64 (s1 - 1))).bind (fun x12 =>
(idx g.Bars s1).bind (fun x13 =>
(bif (eqI [x12.A, x12.B] [x13.A, x13.B]) then
 some (.inr (.inr true))
 else
 some (.inl (w64 (s1 + 1)))
)
)
)
 else
 some (.inr (.inl ()))
)
def m_impl_hasDoubles (g : TGraph) : Option Bool :=
((loopM (m_impl_hasDoubles_L1 g) BIG 1).bind (Sum.elim (fun b10 => (
 some false
)) (fun r => some r)))
def m_impl_Graph_has (g : TGraph) (v : Int) : Option Bool :=
(m_impl_within v 0 (w64 (g.Points - 1))).bind (fun r1 =>
 some r1
)
def m_slices_Index_L1 (s : (List Int)) (v : Int) (s1 : Int) : Option (Int ⊕ (Unit ⊕ Int)) :=
(bif (decide (s1 < (s.length : Int))) then
(idx s s1).bind (fun x10 =>
(bif (v == x10) then
 some (.inr (.inr s1))
 else
 some (.inl (w64 (s1 + 1)))
)
)
 else
 some (.inr (.inl ()))
)
def m_slices_Index (s : (List Int)) (v : Int) : Option Int :=
((loopM (m_slices_Index_L1 s v) BIG 0).bind (Sum.elim (fun b8 => (
 some (-1)
)) (fun r => some r)))
def m_slices_Contains (s : (List Int)) (v : Int) : Option Bool :=
(m_slices_Index s v).bind (fun r1 =>
 some (decide (0 ≤ r1))
)
def m_impl_IsPinned_L1 (p : TPinned) (s15 : Int) : Option (Int ⊕ (Unit ⊕ Bool)) :=
(bif (decide (s15 < (p.Ground.length : Int))) then
(idx p.Ground s15).bind (fun x42 =>
(((
(m_impl_Graph_has p.Graph x42).bind (fun r48 =>
(bif (!r48) then
 some true
 else
(bif (decide (0 < s15)) then
(idx p.Ground (w64 (s15 - 1))).bind (fun x51 =>
 some (decide (x42 ≤ x51))
)
 else
 some false
)
)
)
) : Option Bool).bind (fun j47 =>
(bif j47 then
 some (.inr (.inr false))
 else
 some (.inl (w64 (s15 + 1)))
)
))
)
 else
 some (.inr (.inl ()))
)
def m_impl_IsPinned_L2 (p : TPinned) (s53 : Int) : Option (Int ⊕ (Unit ⊕ Bool)) :=
(bif (decide (s53 < (p.Graph.Bars.length : Int))) then
(idx p.Graph.Bars s53).bind (fun x76 =>
(((
(m_slices_Contains p.Ground x76.A).bind (fun r81 =>
(bif r81 then
(m_slices_Contains p.Ground x76.B).bind (fun r83 =>
 some r83
)
 else
 some false
)
)
) : Option Bool).bind (fun j80 =>
(bif j80 then
 some (.inr (.inr false))
 else
 some (.inl (w64 (s53 + 1)))
)
))
)
 else
 some (.inr (.inl ()))
)
def m_impl_IsPinned (p : TPinned) : Option Bool :=
(((
(m_impl_IsGraph p.Graph).bind (fun r8 =>
(bif (!r8) then
 some true
 else
(m_impl_hasDoubles p.Graph).bind (fun r10 =>
(bif r10 then
 some true
 else
(bif (decide ((p.Ground.length : Int) < 2)) then
 some true
 else
(bif (decide (15 < (p.Graph.Bars.length : Int))) then
 some true
 else
 some (decide (24 < (w64 ((w64 ((p.Graph.Bars.length : Int) + (w64 (2 * (p.Ground.length : Int))))) - 3))))
)
)
)
)
)
)
) : Option Bool).bind (fun j7 =>
(bif j7 then
 some false
 else
((loopM (m_impl_IsPinned_L1 p) BIG 0).bind (Sum.elim (fun b40 => (
((loopM (m_impl_IsPinned_L2 p) BIG 0).bind (Sum.elim (fun b74 => (
 some true
)) (fun r => some r)))
)) (fun r => some r)))
)
))
def m_impl_bar (a : Int) (b : Int) : Option TBar :=
 some (TBar.mk (if b < a then b else a) (if a < b then b else a))
def m_impl_Pinned_held_L4 (p : TPinned) (s1 : (Int × (List TBar))) (x30 : Int) (s32 : (Int × (List TBar))) : Option ((Int × (List TBar)) ⊕ (Int × (List TBar))) :=
(bif (decide (s32.1 < (((p.Ground.take p.Ground.length).drop ((w64 (s1.1 + 1)).toNat)).length : Int))) then
(idx ((p.Ground.take p.Ground.length).drop ((w64 (s1.1 + 1)).toNat)) s32.1).bind (fun x43 =>
(m_impl_bar x30 x43).bind (fun r44 =>
(lim (s32.2.length + [r44].length)).bind (fun u45 =>
 some (.inl ((w64 (s32.1 + 1)), (s32.2 ++ [r44])))
)
)
)
 else
 some (.inr (s1.1, s32.2))
)
def m_impl_Pinned_held_L3 (p : TPinned) (s1 : (Int × (List TBar))) : Option ((Int × (List TBar)) ⊕ (List TBar)) :=
(bif (decide (s1.1 < (p.Ground.length : Int))) then
(idx p.Ground s1.1).bind (fun x30 =>
(slc p.Ground (w64 (s1.1 + 1)) (p.Ground.length : Int)).bind (fun v31 =>
((loopM (m_impl_Pinned_held_L4 p s1 x30) BIG (0, s1.2)).bind (fun b41 =>
 some (.inl ((w64 (b41.1 + 1)), b41.2))
))
)
)
 else
 some (.inr s1.2)
)
def m_impl_Pinned_held (p : TPinned) : Option (List TBar) :=
((loopM (m_impl_Pinned_held_L3 p) BIG (0, ([] : List TBar))).bind (fun b28 =>
 some b28
))
def m_impl_copyInts (l : (List Int)) : Option (List Int) :=
(lim (([] : List Int).length + l.length)).bind (fun u1 =>
 some (([] : List Int) ++ l)
)
def m_impl_copyPebbles (p : TPebbles) : Option TPebbles :=
(m_impl_copyInts p.Free).bind (fun r1 =>
(m_impl_copyInts p.Tails).bind (fun r2 =>
(m_impl_copyInts p.Placed).bind (fun r3 =>
 some (TPebbles.mk r1 r2 r3)
)
)
)
def m_impl_Bar_other (x : TBar) (v : Int) : Option Int :=
(bif (x.A == v) then
 some x.B
 else
 some x.A
)
def m_impl_moveTo_L11 (p : TPebbles) (a : Int) (s122 : (Int × (List (Int × Int)) × (List Int))) (r187 : Int) (x196 : Int) (x198 : Int) (s200 : (Int × (List Int))) : Option ((Int × (List Int)) ⊕ ((List Int) × (List Int))) :=
(bif (s200.1 != a) then
(idx s200.2 (mget (mput s122.2.1 r187 s122.1) s200.1)).bind (fun x209 =>
(idx s200.2 (mget (mput s122.2.1 r187 s122.1) s200.1)).bind (fun x210 =>
 some (.inl (x209, (s200.2.set (mget (mput s122.2.1 r187 s122.1) s200.1).toNat s200.1)))
)
)
 else
 some (.inr (((p.Free.set r187.toNat (w64 (x196 - 1))).set a.toNat (w64 (x198 + 1))), s200.2))
)
def m_impl_moveTo_L10 (bars : (List TBar)) (p : TPebbles) (a : Int) (b : Int) (s1 : (Int × (List (Int × Int)) × (List Int))) (s122 : (Int × (List (Int × Int)) × (List Int))) : Option ((Int × (List (Int × Int)) × (List Int)) ⊕ ((Int × (List (Int × Int)) × (List Int)) ⊕ (Bool × TPebbles))) :=
(bif (decide (s122.1 < (p.Placed.length : Int))) then
(idx p.Placed s122.1).bind (fun x181 =>
(idx p.Tails s122.1).bind (fun x182 =>
(idx s122.2.2 s1.1).bind (fun x183 =>
(bif (x182 != x183) then
 some (.inl ((w64 (s122.1 + 1)), s122.2.1, s122.2.2))
 else
(idx bars x181).bind (fun x185 =>
(idx s122.2.2 s1.1).bind (fun x186 =>
(m_impl_Bar_other x185 x186).bind (fun r187 =>
(bif (mhas s122.2.1 r187) then
 some (.inl ((w64 (s122.1 + 1)), s122.2.1, s122.2.2))
 else
(((
(bif (r187 == b) then
 some true
 else
(idx p.Free r187).bind (fun x193 =>
 some (x193 == 0)
)
)
) : Option Bool).bind (fun j191 =>
(bif j191 then
(lim (s122.2.2.length + ([r187] : List Int).length)).bind (fun u195 =>
 some (.inl ((w64 (s122.1 + 1)), (mput s122.2.1 r187 s122.1), (s122.2.2 ++ ([r187] : List Int))))
)
 else
(idx p.Free r187).bind (fun x196 =>
(idx p.Free r187).bind (fun x197 =>
(idx (p.Free.set r187.toNat (w64 (x196 - 1))) a).bind (fun x198 =>
(idx (p.Free.set r187.toNat (w64 (x196 - 1))) a).bind (fun x199 =>
((loopM (m_impl_moveTo_L11 p a s122 r187 x196 x198) BIG (r187, p.Tails)).bind (fun b207 =>
 some (.inr (.inr (true, (TPebbles.mk b207.1 b207.2 p.Placed))))
))
)
)
)
)
)
))
)
)
)
)
)
)
)
)
 else
 some (.inr (.inl (s1.1, s122.2.1, s122.2.2)))
)
def m_impl_moveTo_L7 (bars : (List TBar)) (p : TPebbles) (a : Int) (b : Int) (s1 : (Int × (List (Int × Int)) × (List Int))) : Option ((Int × (List (Int × Int)) × (List Int)) ⊕ (Unit ⊕ (Bool × TPebbles))) :=
(bif (decide (s1.1 < (s1.2.2.length : Int))) then
((loopM (m_impl_moveTo_L10 bars p a b s1) BIG (0, s1.2.1, s1.2.2)).bind (Sum.elim (fun b179 => (
 some (.inl ((w64 (b179.1 + 1)), b179.2.1, b179.2.2))
)) (fun r => some (.inr (.inr r)))))
 else
 some (.inr (.inl ()))
)
def m_impl_moveTo (bars : (List TBar)) (p : TPebbles) (a : Int) (b : Int) : Option (Bool × TPebbles) :=
((loopM (m_impl_moveTo_L7 bars p a b) BIG (0, (mput ([] : List (Int × Int)) a (-1)), ([a] : List Int))).bind (Sum.elim (fun b120 => (
 some (false, p)
)) (fun r => some r)))
def m_impl_gather_L1 (bars : (List TBar)) (a : Int) (b : Int) (want : Int) (s1 : ((List Int) × (List Int) × (List Int))) : Option (((List Int) × (List Int) × (List Int)) ⊕ (((List Int) × (List Int) × (List Int)) ⊕ (Bool × TPebbles))) :=
(idx s1.1 a).bind (fun x25 =>
(idx s1.1 b).bind (fun x26 =>
(bif (decide ((w64 (x25 + x26)) < want)) then
(((
(m_impl_moveTo bars (TPebbles.mk s1.1 s1.2.1 s1.2.2) a b).bind (fun r32 =>
(bif (!r32.1) then
(m_impl_moveTo bars r32.2 b a).bind (fun r34 =>
 some ((!r34.1), r34.2.Free, r34.2.Tails, r34.2.Placed)
)
 else
 some (false, r32.2.Free, r32.2.Tails, r32.2.Placed)
)
)
) : Option (Bool × (List Int) × (List Int) × (List Int))).bind (fun j31 =>
(bif j31.1 then
 some (.inr (.inr (false, (TPebbles.mk j31.2.1 j31.2.2.1 j31.2.2.2))))
 else
 some (.inl (j31.2.1, j31.2.2.1, j31.2.2.2))
)
))
 else
 some (.inr (.inl (s1.1, s1.2.1, s1.2.2)))
)
)
)
def m_impl_gather (bars : (List TBar)) (p : TPebbles) (a : Int) (b : Int) (want : Int) : Option (Bool × TPebbles) :=
((loopM (m_impl_gather_L1 bars a b want) BIG (p.Free, p.Tails, p.Placed)).bind (Sum.elim (fun b24 => (
 some (true, (TPebbles.mk b24.1 b24.2.1 b24.2.2))
)) (fun r => some r)))
def m_impl_place (bars : (List TBar)) (l : Int) (p : TPebbles) (e : Int) : Option (Bool × TPebbles) :=
(idx bars e).bind (fun x1 =>
(m_impl_gather bars p x1.A x1.B (w64 (l + 1))).bind (fun r2 =>
(bif (!r2.1) then
 some (false, r2.2)
 else
(idx r2.2.Free x1.A).bind (fun x4 =>
(((
(bif (x4 == 0) then
 some x1.B
 else
 some x1.A
)
) : Option Int).bind (fun j6 =>
(idx r2.2.Free j6).bind (fun x8 =>
(idx r2.2.Free j6).bind (fun x9 =>
(lim (r2.2.Tails.length + ([j6] : List Int).length)).bind (fun u10 =>
(lim (r2.2.Placed.length + ([e] : List Int).length)).bind (fun u11 =>
 some (true, (TPebbles.mk (r2.2.Free.set j6.toNat (w64 (x8 - 1))) (r2.2.Tails ++ ([j6] : List Int)) (r2.2.Placed ++ ([e] : List Int))))
)
)
)
)
))
)
)
)
)
def m_impl_play_L1 (points : Int) (k : Int) (s1 : (Int × (List Int))) : Option ((Int × (List Int)) ⊕ (List Int)) :=
(bif (decide (s1.1 < points)) then
(lim (s1.2.length + ([k] : List Int).length)).bind (fun u8 =>
 some (.inl ((w64 (s1.1 + 1)), (s1.2 ++ ([k] : List Int))))
)
 else
 some (.inr s1.2)
)
def m_impl_play_L2 (bars : (List TBar)) (l : Int) (s9 : (Int × (List Int) × (List Int) × (List Int))) : Option ((Int × (List Int) × (List Int) × (List Int)) ⊕ ((List Int) × (List Int) × (List Int))) :=
(bif (decide (s9.1 < (bars.length : Int))) then
(m_impl_copyPebbles (TPebbles.mk s9.2.1 s9.2.2.1 s9.2.2.2)).bind (fun r24 =>
(m_impl_place bars l r24 s9.1).bind (fun r25 =>
(((
(bif r25.1 then
 some (r25.2.Free, r25.2.Tails, r25.2.Placed)
 else
 some (s9.2.1, s9.2.2.1, s9.2.2.2)
)
) : Option ((List Int) × (List Int) × (List Int))).bind (fun j27 =>
 some (.inl ((w64 (s9.1 + 1)), j27.1, j27.2.1, j27.2.2))
))
)
)
 else
 some (.inr (s9.2.1, s9.2.2.1, s9.2.2.2))
)
def m_impl_play (points : Int) (bars : (List TBar)) (k : Int) (l : Int) : Option TPebbles :=
((loopM (m_impl_play_L1 points k) BIG (0, ([] : List Int))).bind (fun b6 =>
((loopM (m_impl_play_L2 bars l) BIG (0, b6, ([] : List Int), ([] : List Int))).bind (fun b22 =>
 some (TPebbles.mk b22.1 b22.2.1 b22.2.2)
))
))
def m_impl_planeRank (points : Int) (bars : (List TBar)) : Option Int :=
(m_impl_play points bars 2 3).bind (fun r1 =>
 some (r1.Placed.length : Int)
)
def m_impl_PinnedRank (p : TPinned) : Option Int :=
(m_impl_IsPinned p).bind (fun r1 =>
(bif (!r1) then
 some (-1)
 else
(m_impl_Pinned_held p).bind (fun r3 =>
(lim (r3.length + p.Graph.Bars.length)).bind (fun u4 =>
(m_impl_planeRank p.Graph.Points (r3 ++ p.Graph.Bars)).bind (fun r5 =>
(m_impl_Pinned_held p).bind (fun r6 =>
(m_impl_planeRank p.Graph.Points r6).bind (fun r7 =>
 some (w64 (r5 - r7))
)
)
)
)
)
)
)
def m_laws_eqIntS_L1 (a : (List Int)) (b : (List Int)) (s2 : Int) : Option (Int ⊕ (Unit ⊕ Bool)) :=
(bif (decide (s2 < (a.length : Int))) then
(idx a s2).bind (fun x13 =>
(idx b s2).bind (fun x14 =>
(bif (x13 != x14) then
 some (.inr (.inr false))
 else
 some (.inl (w64 (s2 + 1)))
)
)
)
 else
 some (.inr (.inl ()))
)
def m_laws_eqIntS (a : (List Int)) (b : (List Int)) : Option Bool :=
(bif ((a.length : Int) != (b.length : Int)) then
 some false
 else
((loopM (m_laws_eqIntS_L1 a b) BIG 0).bind (Sum.elim (fun b11 => (
 some true
)) (fun r => some r)))
)
def m_laws_eqPinned (a : TPinned) (b : TPinned) : Option Bool :=
(m_laws_eqGraph a.Graph b.Graph).bind (fun r1 =>
(bif (!r1) then
 some false
 else
(m_laws_eqIntS a.Ground b.Ground).bind (fun r3 =>
(bif (!r3) then
 some false
 else
 some true
)
)
)
)
def m_spec_InnerPoints_L1 (p : TPinned) (s1 : (Int × (List Int))) : Option ((Int × (List Int)) ⊕ (List Int)) :=
(((
(bif (decide (s1.1 < p.Graph.Points)) then
(m_spec_IsPinned p).bind (fun r31 =>
 some r31
)
 else
 some false
)
) : Option Bool).bind (fun j29 =>
(bif j29 then
(m_spec_l2Has p.Ground s1.1).bind (fun r33 =>
(((
(bif (!r33) then
(lim (s1.2.length + ([s1.1] : List Int).length)).bind (fun u38 =>
 some (s1.2 ++ ([s1.1] : List Int))
)
 else
 some s1.2
)
) : Option (List Int)).bind (fun j36 =>
 some (.inl ((w64 (s1.1 + 1)), j36))
))
)
 else
 some (.inr s1.2)
)
))
def m_spec_InnerPoints (p : TPinned) : Option (List Int) :=
((loopM (m_spec_InnerPoints_L1 p) BIG (0, ([] : List Int))).bind (fun b26 =>
 some b26
))
def m_spec_PinnedFreedom (p : TPinned) : Option Int :=
(m_spec_IsPinned p).bind (fun r1 =>
(bif (!r1) then
 some (-1)
 else
(m_spec_InnerPoints p).bind (fun r3 =>
(m_spec_PinnedRank p).bind (fun r4 =>
 some (w64 ((w64 (2 * (r3.length : Int))) - r4))
)
)
)
)
def m_impl_InnerPoints_L1 (p : TPinned) (s3 : (Int × (List Int))) : Option ((Int × (List Int)) ⊕ (List Int)) :=
(bif (decide (s3.1 < p.Graph.Points)) then
(m_slices_Contains p.Ground s3.1).bind (fun r20 =>
(((
(bif (!r20) then
(lim (s3.2.length + ([s3.1] : List Int).length)).bind (fun u25 =>
 some (s3.2 ++ ([s3.1] : List Int))
)
 else
 some s3.2
)
) : Option (List Int)).bind (fun j23 =>
 some (.inl ((w64 (s3.1 + 1)), j23))
))
)
 else
 some (.inr s3.2)
)
def m_impl_InnerPoints (p : TPinned) : Option (List Int) :=
(m_impl_IsPinned p).bind (fun r1 =>
(bif (!r1) then
 some ([] : List Int)
 else
((loopM (m_impl_InnerPoints_L1 p) BIG (0, ([] : List Int))).bind (fun b18 =>
 some b18
))
)
)
def m_impl_PinnedFreedom (p : TPinned) : Option Int :=
(m_impl_IsPinned p).bind (fun r1 =>
(bif (!r1) then
 some (-1)
 else
(m_impl_InnerPoints p).bind (fun r3 =>
(m_impl_PinnedRank p).bind (fun r4 =>
 some (w64 ((w64 (2 * (r3.length : Int))) - r4))
)
)
)
)
def m_spec_IsPinnedRigid (p : TPinned) : Option Bool :=
(m_spec_PinnedFreedom p).bind (fun r1 =>
 some (r1 == 0)
)
def m_impl_IsPinnedRigid (p : TPinned) : Option Bool :=
(m_impl_PinnedFreedom p).bind (fun r1 =>
 some (r1 == 0)
)
def m_laws_FnExactIsPinnedRigid (aP : TPinned) : Option Bool :=
(m_laws_szPinned aP 1048576).bind (fun r1 =>
(bif (decide (r1 < 0)) then
 some true
 else
(m_laws_toPinned aP).bind (fun r3 =>
(m_spec_IsPinnedRigid r3).bind (fun r4 =>
(m_laws_toPinned aP).bind (fun r5 =>
(m_impl_IsPinnedRigid r5).bind (fun r6 =>
(bif (r6 != r4) then
 some false
 else
(m_laws_toPinned aP).bind (fun r8 =>
(m_laws_eqPinned r5 r8).bind (fun r9 =>
(bif (!r9) then
 some false
 else
 some true
)
)
)
)
)
)
)
)
)
)
def m_spec_IsRange (k : Int) (l : Int) : Option Bool :=
(((
(m_spec_l1In k 1 3).bind (fun r5 =>
(bif r5 then
(bif (decide (0 ≤ l)) then
 some (decide (l < (w64 (2 * k))))
 else
 some false
)
 else
 some false
)
)
) : Option Bool).bind (fun j4 =>
 some j4
))
def m_spec_l4Tail_L1 (p : TPebbles) (v : Int) (s1 : (Int × Int)) : Option ((Int × Int) ⊕ Int) :=
(bif (decide (s1.2 < (p.Tails.length : Int))) then
(idx p.Tails s1.2).bind (fun x14 =>
(((
(bif (x14 == v) then
 some (w64 (s1.1 + 1))
 else
 some s1.1
)
) : Option Int).bind (fun j16 =>
 some (.inl (j16, (w64 (s1.2 + 1))))
))
)
 else
 some (.inr s1.1)
)
def m_spec_l4Tail (p : TPebbles) (v : Int) : Option Int :=
((loopM (m_spec_l4Tail_L1 p v) BIG (0, 0)).bind (fun b12 =>
 some b12
))
def m_spec_IsPebbles_L1 (g : TGraph) (p : TPebbles) (s13 : Int) : Option (Int ⊕ (Unit ⊕ Bool)) :=
(bif (decide (s13 < (p.Placed.length : Int))) then
(idx p.Placed s13).bind (fun x84 =>
(((
(bif (decide (x84 < 0)) then
 some true
 else
(bif (decide ((g.Bars.length : Int) ≤ x84)) then
 some true
 else
(bif (decide (0 < s13)) then
(idx p.Placed (w64 (s13 - 1))).bind (fun x104 =>
(bif (decide (x84 ≤ x104)) then
 some true
 else
(idx p.Tails s13).bind (fun x106 =>
(idx g.Bars x84).bind (fun x107 =>
(bif (x106 != x107.A) then
(idx p.Tails s13).bind (fun x109 =>
(idx g.Bars x84).bind (fun x110 =>
 some (x109 != x110.B)
)
)
 else
 some false
)
)
)
)
)
 else
(idx p.Tails s13).bind (fun x111 =>
(idx g.Bars x84).bind (fun x112 =>
(bif (x111 != x112.A) then
(idx p.Tails s13).bind (fun x114 =>
(idx g.Bars x84).bind (fun x115 =>
 some (x114 != x115.B)
)
)
 else
 some false
)
)
)
)
)
)
) : Option Bool).bind (fun j100 =>
(bif j100 then
 some (.inr (.inr false))
 else
 some (.inl (w64 (s13 + 1)))
)
))
)
 else
 some (.inr (.inl ()))
)
def m_spec_IsPebbles_L2 (g : TGraph) (k : Int) (p : TPebbles) (s117 : Int) : Option (Int ⊕ (Unit ⊕ Bool)) :=
(bif (decide (s117 < g.Points)) then
(((
(idx p.Free s117).bind (fun x147 =>
(bif (decide (x147 < 0)) then
 some true
 else
(idx p.Free s117).bind (fun x149 =>
(m_spec_l4Tail p s117).bind (fun r150 =>
 some ((w64 (x149 + r150)) != k)
)
)
)
)
) : Option Bool).bind (fun j146 =>
(bif j146 then
 some (.inr (.inr false))
 else
 some (.inl (w64 (s117 + 1)))
)
))
 else
 some (.inr (.inl ()))
)
def m_spec_IsPebbles (g : TGraph) (k : Int) (p : TPebbles) : Option Bool :=
(((
(m_spec_IsGraph g).bind (fun r7 =>
(bif (!r7) then
 some true
 else
(m_spec_l1In k 1 3).bind (fun r9 =>
(bif (!r9) then
 some true
 else
(bif ((p.Free.length : Int) != g.Points) then
 some true
 else
 some ((p.Tails.length : Int) != (p.Placed.length : Int))
)
)
)
)
)
) : Option Bool).bind (fun j6 =>
(bif j6 then
 some false
 else
((loopM (m_spec_IsPebbles_L1 g p) BIG 0).bind (Sum.elim (fun b82 => (
((loopM (m_spec_IsPebbles_L2 g k p) BIG 0).bind (Sum.elim (fun b140 => (
 some true
)) (fun r => some r)))
)) (fun r => some r)))
)
))
def m_spec_PlaceBar (g : TGraph) (k : Int) (l : Int) (p : TPebbles) (bar : Int) : Option (TPebbles × Bool) :=
(((
(m_spec_IsPebbles g k p).bind (fun r10 =>
(bif (!r10) then
 some true
 else
(m_spec_IsRange k l).bind (fun r12 =>
(bif (!r12) then
 some true
 else
(bif (decide (bar < 0)) then
 some true
 else
(bif (decide ((g.Bars.length : Int) ≤ bar)) then
 some true
 else
(bif (decide (0 < (p.Placed.length : Int))) then
(idx p.Placed (w64 ((p.Placed.length : Int) - 1))).bind (fun x17 =>
 some (decide (bar ≤ x17))
)
 else
 some false
)
)
)
)
)
)
)
) : Option Bool).bind (fun j9 =>
(bif j9 then
(m_spec_l4Copy p).bind (fun r19 =>
 some (r19, false)
)
 else
(idx g.Bars bar).bind (fun x20 =>
(m_spec_l4Gather g p x20.A x20.B (w64 (l + 1))).bind (fun r21 =>
(bif (!r21.2) then
(m_spec_l4Copy p).bind (fun r23 =>
 some (r23, false)
)
 else
(idx r21.1.Free x20.A).bind (fun x24 =>
(((
(bif (x24 == 0) then
 some x20.B
 else
 some x20.A
)
) : Option Int).bind (fun j26 =>
(idx r21.1.Free j26).bind (fun x28 =>
(idx r21.1.Free j26).bind (fun x29 =>
(lim (r21.1.Tails.length + ([j26] : List Int).length)).bind (fun u30 =>
(lim (r21.1.Placed.length + ([bar] : List Int).length)).bind (fun u31 =>
 some ((TPebbles.mk (r21.1.Free.set j26.toNat (w64 (x28 - 1))) (r21.1.Tails ++ ([j26] : List Int)) (r21.1.Placed ++ ([bar] : List Int))), true)
)
)
)
)
))
)
)
)
)
)
))
end Go.Proofs.Yteognanhfpbghaa
end
section
set_option linter.unusedVariables false
set_option linter.unusedSimpArgs false
set_option linter.unnecessarySimpa false
open Go Go.Fw
namespace Go.Proofs.Yteognanhfpbghaa
abbrev SM (n : Nat) : Prop := n ≤ 2147483648
theorem toIntS_eq (a : List Int) (h : SM a.length) : m_laws_toIntS a = some a := by
  unfold m_laws_toIntS
  rw [lenOk_ok (by omega) (by omega), Option.bind_some, Int.toNat_natCast, copy_loop a _ (by omega) (fun k l x y hx hy => ?_) (fun l => ?_)]
  · rfl
  · have hk : k < a.length := (List.getElem?_eq_some_iff.1 hx).1
    simp only [m_laws_toIntS_L1, idx_of hx, idx_of hy, Option.bind_some, Int.toNat_natCast]
    rw [decide_eq_true (by omega)]
    rfl
  · simp [m_laws_toIntS_L1]
theorem eqIntS_refl (a : List Int) (h : SM a.length) : m_laws_eqIntS a a = some true := by
  unfold m_laws_eqIntS
  rw [count_loop a.length (by omega) (fun k hk => ?_) (by simp [m_laws_eqIntS_L1] <;> rfl)]
  · simp
  · simp only [m_laws_eqIntS_L1, idx_at hk, Option.bind_some]
    rw [decide_eq_true (by omega)]
    simp
theorem szIntS_some (a : List Int) (n : Int) : ∃ z, m_laws_szIntS a n = some z := by
  unfold m_laws_szIntS
  cases decide (w64 (n - (a.length : Int)) < 0) <;> exact ⟨_, rfl⟩
theorem toBarS_eq (a : List TBar) (h : SM a.length) : m_laws_toBarS a = some a := by
  unfold m_laws_toBarS
  rw [lenOk_ok (by omega) (by omega), Option.bind_some, Int.toNat_natCast, copy_loop a _ (by omega) (fun k l x y hx hy => ?_) (fun l => ?_)]
  · rfl
  · have hk : k < a.length := (List.getElem?_eq_some_iff.1 hx).1
    simp only [m_laws_toBarS_L1, idx_of hx, idx_of hy, m_laws_toBar, Option.bind_some, Int.toNat_natCast]
    rw [decide_eq_true (by omega)]
    rfl
  · simp [m_laws_toBarS_L1]
theorem eqBarS_refl (a : List TBar) (h : SM a.length) : m_laws_eqBarS a a = some true := by
  unfold m_laws_eqBarS
  rw [count_loop a.length (by omega) (fun k hk => ?_) (by simp [m_laws_eqBarS_L1] <;> rfl)]
  · simp
  · simp only [m_laws_eqBarS_L1, idx_at hk, m_laws_eqBar, Option.bind_some]
    rw [decide_eq_true (by omega)]
    simp
theorem szBarS_some (a : List TBar) (n : Int) : ∃ z, m_laws_szBarS a n = some z := by
  unfold m_laws_szBarS
  cases decide (w64 (n - (a.length : Int)) < 0) <;> exact ⟨_, rfl⟩
theorem toGraph_eq (a : TGraph) (h0 : SM a.Bars.length) : m_laws_toGraph a = some a := by
  unfold m_laws_toGraph
  simp only [toBarS_eq a.Bars h0, Option.bind_some]
theorem eqGraph_refl (a : TGraph) (h0 : SM a.Bars.length) : m_laws_eqGraph a a = some true := by
  unfold m_laws_eqGraph
  simp [eqBarS_refl a.Bars h0]
theorem szGraph_some (a : TGraph) (n : Int) : ∃ z, m_laws_szGraph a n = some z := by
  unfold m_laws_szGraph
  obtain ⟨z0, e0⟩ := szBarS_some a.Bars n
  rw [e0, Option.bind_some]
  cases decide (z0 < 0)
  rotate_left
  · exact ⟨_, rfl⟩
  simp only [cond_false]
  exact ⟨_, rfl⟩
theorem toPinned_eq (a : TPinned) (h0 : SM a.Graph.Bars.length) (h1 : SM a.Ground.length) : m_laws_toPinned a = some a := by
  unfold m_laws_toPinned
  simp only [toGraph_eq a.Graph h0, toIntS_eq a.Ground h1, Option.bind_some]
theorem eqPinned_refl (a : TPinned) (h0 : SM a.Graph.Bars.length) (h1 : SM a.Ground.length) : m_laws_eqPinned a a = some true := by
  unfold m_laws_eqPinned
  simp [eqGraph_refl a.Graph h0, eqIntS_refl a.Ground h1]
theorem szPinned_some (a : TPinned) (n : Int) : ∃ z, m_laws_szPinned a n = some z := by
  unfold m_laws_szPinned
  obtain ⟨z0, e0⟩ := szGraph_some a.Graph n
  rw [e0, Option.bind_some]
  cases decide (z0 < 0)
  rotate_left
  · exact ⟨_, rfl⟩
  simp only [cond_false]
  obtain ⟨z1, e1⟩ := szIntS_some a.Ground z0
  rw [e1, Option.bind_some]
  cases decide (z1 < 0)
  rotate_left
  · exact ⟨_, rfl⟩
  simp only [cond_false]
  exact ⟨_, rfl⟩
end Go.Proofs.Yteognanhfpbghaa
end
section
set_option linter.unusedVariables false
set_option linter.unusedSimpArgs false
set_option linter.unnecessarySimpa false
open Go Go.Fw
namespace Go.Proofs.Yteognanhfpbghaa
theorem l1In_eq (x lo hi : Int) : m_spec_l1In x lo hi = some (decide (lo ≤ x) && decide (x ≤ hi)) := by
  unfold m_spec_l1In
  cases decide (lo ≤ x) <;> simp
theorem within_eq (x lo hi : Int) : m_impl_within x lo hi = some (decide (lo ≤ x) && decide (x ≤ hi)) := by
  unfold m_impl_within
  cases decide (lo ≤ x) <;> simp
theorem compareInts_eq (a b : Int) : m_impl_compareInts a b = some (if a < b then -1 else if b < a then 1 else 0) := by
  unfold m_impl_compareInts
  by_cases h1 : a < b
  · simp [h1]
  · by_cases h2 : b < a <;> simp [h1, h2]
def barGt (x y : TBar) : Bool := decide (y.A < x.A) || (x.A == y.A && decide (y.B < x.B))
theorem compareBars_some (x y : TBar) : ∃ c, m_impl_compareBars x y = some c ∧ decide (0 < c) = barGt x y := by
  unfold m_impl_compareBars barGt
  rw [compareInts_eq, compareInts_eq]
  by_cases h1 : x.A < y.A
  · have h3 : (x.A == y.A) = false := by simp; omega
    exact ⟨-1, by simp [h1], by simp [h3]; omega⟩
  · by_cases h2 : y.A < x.A
    · exact ⟨1, by simp [h1, h2], by simp [h2]⟩
    · have : x.A = y.A := by omega
      by_cases h3 : x.B < y.B
      · exact ⟨-1, by simp [this, h3], by simp [this]; omega⟩
      · by_cases h4 : y.B < x.B
        · exact ⟨1, by simp [this, h3, h4], by simp [this, h4]⟩
        · exact ⟨0, by simp [this, h3, h4], by simp [this]; omega⟩
theorem l2After_eq (x y : TBar) : m_spec_l2After x y = some (!barGt x y) := by
  unfold m_spec_l2After barGt
  by_cases h1 : x.A < y.A
  · have h3 : (x.A == y.A) = false := by simp; omega
    simp [h1, h3]; omega
  · by_cases h2 : y.A < x.A
    · have h3 : (x.A == y.A) = false := by simp; omega
      simp [h1, h2, h3]
    · have : x.A = y.A := by omega
      by_cases h4 : y.B < x.B
      · have h5 : ¬ x.B ≤ y.B := by omega
        simp [this, h4, h5]
      · have h5 : x.B ≤ y.B := by omega
        simp [this, h4, h5]
def badBar (g : TGraph) (k : Nat) : Bool := match g.Bars[k]? with
  | none => false
  | some x => decide (x.A < 0) || decide (x.B ≤ x.A) || decide (g.Points ≤ x.B) || (decide (0 < k) && match g.Bars[k - 1]? with
    | none => false
    | some y => barGt y x)
def vG (g : TGraph) : Bool := decide (1 ≤ g.Points) && decide (g.Points ≤ 8) && !decide (24 < (g.Bars.length : Int)) && !(List.range' 0 g.Bars.length).any (badBar g)
theorem isGraphI_eq (g : TGraph) (h : SM g.Bars.length) : m_impl_IsGraph g = some (vG g) := by
  have e : loopM (m_impl_IsGraph_L1 g) BIG 0 = some (bif (List.range' 0 g.Bars.length).any (badBar g) then .inr false else .inl ()) := by
    refine any_loop0 (badBar g) false g.Bars.length (by omega) (fun k hk => ?_) (by simp [m_impl_IsGraph_L1])
    unfold m_impl_IsGraph_L1 badBar
    rw [decide_eq_true (by omega), cond_true, idx_at hk, Option.bind_some, List.getElem?_eq_getElem hk]
    simp only
    cases decide (g.Bars[k].A < 0)
    · cases decide (g.Bars[k].B ≤ g.Bars[k].A)
      · cases decide (g.Points ≤ g.Bars[k].B)
        · by_cases h0 : 0 < k
          · have e1 : w64 ((k : Int) - 1) = ((k - 1 : Nat) : Int) := by rw [w64_small (by omega) (by omega)]; omega
            obtain ⟨c, hc, hd⟩ := compareBars_some (g.Bars[k - 1]'(by omega)) g.Bars[k]
            rw [decide_eq_true (show (0 : Int) < (k : Int) by omega), decide_eq_true h0, e1, idx_at (show k - 1 < g.Bars.length by omega), List.getElem?_eq_getElem (show k - 1 < g.Bars.length by omega)]
            simp only [cond_false, cond_true, Option.bind_some, hc, hd, Bool.false_or, Bool.true_and]
          · rw [decide_eq_false (show ¬ (0 : Int) < (k : Int) by omega), decide_eq_false h0]
            rfl
        · rfl
      · rfl
    · rfl
  unfold m_impl_IsGraph vG
  rw [within_eq, e]
  simp only [Option.bind_some]
  cases decide (1 ≤ g.Points) && decide (g.Points ≤ 8)
  · rfl
  · cases decide (24 < (g.Bars.length : Int))
    · cases (List.range' 0 g.Bars.length).any (badBar g) <;> rfl
    · rfl
theorem isGraph_L1 (g : TGraph) : m_spec_IsGraph_L1 g = m_impl_IsGraph_L1 g := by
  funext s
  unfold m_spec_IsGraph_L1 m_impl_IsGraph_L1
  have e : ∀ x y, ((m_spec_l2After x y).bind fun r => some (!r)) = (m_impl_compareBars x y).bind fun r => some (decide (0 < r)) := fun x y => by
    obtain ⟨c, hc, hd⟩ := compareBars_some x y
    rw [l2After_eq, hc]
    simp [hd]
  simp only [e]
theorem isGraphS_eq (g : TGraph) (h : SM g.Bars.length) : m_spec_IsGraph g = some (vG g) := by
  rw [← isGraphI_eq g h]
  unfold m_spec_IsGraph m_impl_IsGraph
  rw [l1In_eq, within_eq, isGraph_L1]
structure VG (g : TGraph) : Prop where
  p1 : 1 ≤ g.Points
  p8 : g.Points ≤ 8
  len : g.Bars.length ≤ 24
  a0 : ∀ {k : Nat} {x : TBar}, g.Bars[k]? = some x → 0 ≤ x.A
  ab : ∀ {k : Nat} {x : TBar}, g.Bars[k]? = some x → x.A < x.B
  bp : ∀ {k : Nat} {x : TBar}, g.Bars[k]? = some x → x.B < g.Points
  srt : ∀ {k : Nat} {x y : TBar}, g.Bars[k]? = some x → g.Bars[k + 1]? = some y → barGt x y = false
theorem vG_VG {g : TGraph} (h : vG g = true) : VG g := by
  unfold vG at h
  simp only [Bool.and_eq_true, Bool.not_eq_true', decide_eq_true_eq, decide_eq_false_iff_not] at h
  obtain ⟨⟨⟨h1, h2⟩, h3⟩, h4⟩ := h
  rw [any_range_false] at h4
  have hb : ∀ {k : Nat} {x : TBar}, g.Bars[k]? = some x → 0 ≤ x.A ∧ x.A < x.B ∧ x.B < g.Points ∧ ∀ {y : TBar}, 0 < k → g.Bars[k - 1]? = some y → barGt y x = false := fun {k x} hx => by
    have hk : k < g.Bars.length := (List.getElem?_eq_some_iff.1 hx).1
    have := h4 k (by omega) (by omega)
    unfold badBar at this
    rw [hx] at this
    simp only [Bool.or_eq_false_iff, decide_eq_false_iff_not, Bool.and_eq_false_iff] at this
    obtain ⟨⟨⟨a, b⟩, c⟩, d⟩ := this
    refine ⟨by omega, by omega, by omega, fun {y} hk hy => ?_⟩
    rw [hy] at d
    rcases d with d | d
    · exact absurd hk d
    · exact d
  exact ⟨h1, h2, by omega, fun hx => (hb hx).1, fun hx => (hb hx).2.1, fun hx => (hb hx).2.2.1, fun {k x y} hx hy => (hb hy).2.2.2 (by omega) (by simpa using hx)⟩
theorem VG.sm {g : TGraph} (h : VG g) : SM g.Bars.length := by have := h.len; omega
def hasI (l : List Int) (x : Int) : Bool := l.any (· == x)
def atB {α : Type} (l : List α) (p : α → Bool) (k : Nat) : Bool := match l[k]? with
  | some x => p x
  | none => false
theorem atB_at {α : Type} {l : List α} {k : Nat} (h : k < l.length) (p : α → Bool) : atB l p k = p l[k] := by simp [atB, h]
theorem range_any {α : Type} (l : List α) (p : α → Bool) : (List.range' 0 l.length).any (atB l p) = l.any p := by
  induction l with
  | nil => rfl
  | cons x r ih =>
    rw [List.length_cons, List.range'_succ, List.any_cons, List.any_cons]
    congr 1
    rw [← ih, List.range'_eq_map_range, List.range'_eq_map_range, List.any_map, List.any_map]
    congr 1
    funext k
    simp [Function.comp, Nat.add_comm, atB]
theorem l2Has_eq (l : List Int) (h : SM l.length) (x : Int) : m_spec_l2Has l x = some (hasI l x) := by
  have e := any_loop0 (b := m_spec_l2Has_L1 l x) (atB l (· == x)) true l.length (by omega) (fun k hk => by
    unfold m_spec_l2Has_L1
    rw [decide_eq_true (by omega), cond_true, idx_at hk, Option.bind_some, atB_at hk]) (by simp [m_spec_l2Has_L1])
  unfold m_spec_l2Has hasI
  rw [e, range_any]
  cases l.any (· == x) <;> rfl
theorem index_eq (l : List Int) (h : SM l.length) (v : Int) : ∃ i, m_slices_Index l v = some i ∧ decide (0 ≤ i) = hasI l v ∧ (i = -1 ∨ ∃ k : Nat, i = k ∧ l[k]? = some v ∧ ∀ j, j < k → l[j]? ≠ some v) := by
  obtain ⟨r, hr, hq⟩ := loop_inv (b := m_slices_Index_L1 l v) (s := 0) (fun k s => s = (k : Int) ∧ ∀ j, j < k → l[j]? ≠ some v)
    (fun r => match r with | .inl _ => ∀ j, j < l.length → l[j]? ≠ some v | .inr i => ∃ k : Nat, i = k ∧ l[k]? = some v ∧ ∀ j, j < k → l[j]? ≠ some v) l.length (by omega) ⟨rfl, fun j hj => by omega⟩ (fun k s hk hs => by
    obtain ⟨rfl, hs⟩ := hs
    unfold m_slices_Index_L1
    rw [decide_eq_true (by omega), cond_true, idx_at hk, Option.bind_some]
    cases hv : v == l[k] with
    | true => exact .inr ⟨_, rfl, k, rfl, by rw [List.getElem?_eq_getElem hk, eq_of_beq hv], hs⟩
    | false =>
      refine .inl ⟨_, rfl, w64_succ (by omega), fun j hj => ?_⟩
      by_cases hjk : j = k
      · subst hjk
        rw [List.getElem?_eq_getElem hk]
        intro h2
        injection h2 with h2
        rw [h2] at hv
        simp at hv
      · exact hs j (by omega)) (fun s hs => by
    obtain ⟨rfl, hs⟩ := hs
    exact ⟨.inl (), by simp [m_slices_Index_L1], hs⟩)
  unfold m_slices_Index
  rw [hr]
  rcases r with ⟨⟨⟩⟩ | i
  · refine ⟨-1, rfl, ?_, .inl rfl⟩
    unfold hasI
    have : l.any (· == v) = false := by
      rw [← Bool.not_eq_true, List.any_eq_true]
      rintro ⟨x, hx, h2⟩
      obtain ⟨j, hj, rfl⟩ := List.mem_iff_getElem.1 hx
      exact hq j hj (by rw [List.getElem?_eq_getElem hj, eq_of_beq h2])
    rw [this]
    rfl
  · obtain ⟨k, rfl, h1, h2⟩ := hq
    refine ⟨k, rfl, ?_, .inr ⟨k, rfl, h1, h2⟩⟩
    rw [decide_eq_true (by omega)]
    unfold hasI
    symm
    rw [List.any_eq_true]
    exact ⟨v, List.mem_of_getElem? h1, by simp⟩
theorem contains_eq (l : List Int) (h : SM l.length) (x : Int) : m_slices_Contains l x = some (hasI l x) := by
  obtain ⟨i, h1, h2, _⟩ := index_eq l h x
  unfold m_slices_Contains
  rw [h1, Option.bind_some, h2]
end Go.Proofs.Yteognanhfpbghaa
end
section
set_option linter.unusedVariables false
set_option linter.unusedSimpArgs false
set_option linter.unnecessarySimpa false
open Go Go.Fw
namespace Go.Proofs.Yteognanhfpbghaa
theorem idx_in {α : Type} {l : List α} {i : Int} (d : α) (h0 : 0 ≤ i) (h1 : i < (l.length : Int)) : idx l i = some ((l[i.toNat]?).getD d) := by
  unfold idx
  rw [if_pos h0, List.getElem?_eq_getElem (by omega)]
  rfl
def plAt (f : TFramework) (v : Int) : TPlace := (f.Places[v.toNat]?).getD ⟨0, 0⟩
def onGrid (p : TPlace) : Bool := (decide (0 ≤ p.X) && decide (p.X ≤ 4)) && (decide (0 ≤ p.Y) && decide (p.Y ≤ 4))
def badLen (f : TFramework) (k : Nat) : Bool := match f.Graph.Bars[k]? with
  | none => false
  | some x => eqI [(plAt f x.A).X, (plAt f x.A).Y] [(plAt f x.B).X, (plAt f x.B).Y] || (decide (0 < k) && match f.Graph.Bars[k - 1]? with
    | none => false
    | some y => eqI [y.A, y.B] [x.A, x.B])
def vF (f : TFramework) : Bool := vG f.Graph && !decide (6 < f.Graph.Points) && !((f.Places.length : Int) != f.Graph.Points) && !decide (15 < (f.Graph.Bars.length : Int)) && !(List.range' 0 f.Places.length).any (atB f.Places fun p => !onGrid p) && !(List.range' 0 f.Graph.Bars.length).any (badLen f)
structure VF (f : TFramework) : Prop where
  g : VG f.Graph
  p6 : f.Graph.Points ≤ 6
  len : f.Graph.Bars.length ≤ 15
  pls : (f.Places.length : Int) = f.Graph.Points
  grid : ∀ {k : Nat} {p : TPlace}, f.Places[k]? = some p → 0 ≤ p.X ∧ p.X ≤ 4 ∧ 0 ≤ p.Y ∧ p.Y ≤ 4
  dif : ∀ {k : Nat} {x : TBar}, f.Graph.Bars[k]? = some x → eqI [(plAt f x.A).X, (plAt f x.A).Y] [(plAt f x.B).X, (plAt f x.B).Y] = false
  nod : ∀ {k : Nat} {x y : TBar}, f.Graph.Bars[k]? = some x → f.Graph.Bars[k + 1]? = some y → eqI [x.A, x.B] [y.A, y.B] = false
def sqd (p q : TPlace) : Int := (p.X - q.X) * (p.X - q.X) + (p.Y - q.Y) * (p.Y - q.Y)
end Go.Proofs.Yteognanhfpbghaa
end
section
set_option linter.unusedVariables false
set_option linter.unusedSimpArgs false
set_option linter.unnecessarySimpa false
open Go Go.Fw
namespace Go.Proofs.Yteognanhfpbghaa
def nameStep (set : List Int) (k : Nat) (a : List Int × Nat) : List Int × Nat := bif hasI set k then (a.1 ++ [-1], a.2) else (a.1 ++ [(a.2 : Int)], a.2 + 1)
def names (set : List Int) (n : Nat) : List Int × Nat := iter (nameStep set) n ([], 0)
def nm (l : List Int) (v : Int) : Int := (l[v.toNat]?).getD 0
def dbl (g : TGraph) (k : Nat) : Bool := match g.Bars[k - 1]?, g.Bars[k]? with
  | some x, some y => eqI [x.A, x.B] [y.A, y.B]
  | _, _ => false
def dbls (g : TGraph) : Bool := (List.range' 1 (g.Bars.length - 1)).any (dbl g)
theorem dblI_eq (g : TGraph) (h : SM g.Bars.length) : m_impl_hasDoubles g = some (dbls g) := by
  unfold m_impl_hasDoubles dbls
  by_cases h0 : 1 ≤ g.Bars.length
  · have e := any_loop (b := m_impl_hasDoubles_L1 g) (dbl g) true 1 g.Bars.length (by omega) h0 (fun k hk hl => by
      have e1 : w64 ((k : Int) - 1) = ((k - 1 : Nat) : Int) := by rw [w64_small (by omega) (by omega)]; omega
      unfold m_impl_hasDoubles_L1 dbl
      rw [decide_eq_true (by omega), cond_true, e1, idx_at (show k - 1 < g.Bars.length by omega), idx_at hl, List.getElem?_eq_getElem (show k - 1 < g.Bars.length by omega), List.getElem?_eq_getElem hl]
      rfl) (by simp [m_impl_hasDoubles_L1])
    rw [show (1 : Int) = ((1 : Nat) : Int) from rfl, e]
    cases (List.range' 1 (g.Bars.length - 1)).any (dbl g) <;> rfl
  · have h1 : g.Bars.length = 0 := by omega
    have e : loopM (m_impl_hasDoubles_L1 g) BIG 1 = some (.inl ()) := loopM_run (fun _ => 1) 0 (by omega) rfl (fun k hk => by omega) (by unfold m_impl_hasDoubles_L1; rw [h1]; rfl)
    rw [e, h1]
    rfl
theorem l17Simple_eq (g : TGraph) (h : SM g.Bars.length) : m_spec_l17Simple g = some (!dbls g && vG g) := by
  unfold m_spec_l17Simple dbls
  rw [isGraphS_eq g h]
  by_cases h0 : 1 ≤ g.Bars.length
  · have e := any_loop (b := m_spec_l17Simple_L1 g) (dbl g) false 1 g.Bars.length (by omega) h0 (fun k hk hl => by
      have e1 : w64 ((k : Int) - 1) = ((k - 1 : Nat) : Int) := by rw [w64_small (by omega) (by omega)]; omega
      unfold m_spec_l17Simple_L1 dbl
      rw [decide_eq_true (by omega), cond_true, e1, idx_at (show k - 1 < g.Bars.length by omega), idx_at hl, List.getElem?_eq_getElem (show k - 1 < g.Bars.length by omega), List.getElem?_eq_getElem hl]
      rfl) (by simp [m_spec_l17Simple_L1])
    rw [show (1 : Int) = ((1 : Nat) : Int) from rfl, e]
    cases (List.range' 1 (g.Bars.length - 1)).any (dbl g) <;> rfl
  · have h1 : g.Bars.length = 0 := by omega
    have e : loopM (m_spec_l17Simple_L1 g) BIG 1 = some (.inl ()) := loopM_run (fun _ => 1) 0 (by omega) rfl (fun k hk => by omega) (by unfold m_spec_l17Simple_L1; rw [h1]; rfl)
    rw [e, h1]
    rfl
theorem has_eq {g : TGraph} (h : VG g) (v : Int) : m_impl_Graph_has g v = some (decide (0 ≤ v) && decide (v < g.Points)) := by
  have h1 := h.p1
  have h8 := h.p8
  unfold m_impl_Graph_has
  rw [within_eq, w64_small (by omega) (by omega), Option.bind_some]
  congr 2
  rw [decide_eq_decide]
  omega
def badGr (p : TPinned) (k : Nat) : Bool := match p.Ground[k]? with
  | none => false
  | some v => decide (v < 0) || decide (p.Graph.Points ≤ v) || (decide (0 < k) && match p.Ground[k - 1]? with
    | none => false
    | some u => decide (v ≤ u))
def badPb (p : TPinned) : TBar → Bool := fun x => hasI p.Ground x.A && hasI p.Ground x.B
theorem pinS_L1 (p : TPinned) (h : SM p.Ground.length) : loopM (m_spec_IsPinned_L1 p) BIG 0 = some (bif (List.range' 0 p.Ground.length).any (badGr p) then .inr false else .inl ()) := by
  refine any_loop0 _ false p.Ground.length (by omega) (fun k hk => ?_) (by simp [m_spec_IsPinned_L1])
  unfold m_spec_IsPinned_L1 badGr
  rw [decide_eq_true (by omega), cond_true, idx_at hk, List.getElem?_eq_getElem hk]
  simp only [Option.bind_some]
  cases decide (p.Ground[k] < 0)
  · cases decide (p.Graph.Points ≤ p.Ground[k])
    · by_cases h0 : 0 < k
      · have e1 : w64 ((k : Int) - 1) = ((k - 1 : Nat) : Int) := by rw [w64_small (by omega) (by omega)]; omega
        rw [decide_eq_true (show (0 : Int) < (k : Int) by omega), decide_eq_true h0, e1, idx_at (show k - 1 < p.Ground.length by omega), List.getElem?_eq_getElem (show k - 1 < p.Ground.length by omega)]
        simp only [cond_false, cond_true, Option.bind_some, Bool.false_or, Bool.true_and]
      · rw [decide_eq_false (show ¬ (0 : Int) < (k : Int) by omega), decide_eq_false h0]
        rfl
    · rfl
  · rfl
theorem pinI_L1 (p : TPinned) (hV : VG p.Graph) (h : SM p.Ground.length) : loopM (m_impl_IsPinned_L1 p) BIG 0 = some (bif (List.range' 0 p.Ground.length).any (badGr p) then .inr false else .inl ()) := by
  refine any_loop0 _ false p.Ground.length (by omega) (fun k hk => ?_) (by simp [m_impl_IsPinned_L1])
  have eb : ∀ v : Int, (!(decide (0 ≤ v) && decide (v < p.Graph.Points))) = (decide (v < 0) || decide (p.Graph.Points ≤ v)) := fun v => by
    rw [Bool.not_and, ← decide_not, ← decide_not]
    congr 1 <;> rw [decide_eq_decide] <;> omega
  unfold m_impl_IsPinned_L1 badGr
  rw [decide_eq_true (by omega), cond_true, idx_at hk, List.getElem?_eq_getElem hk]
  simp only [Option.bind_some, has_eq hV, eb]
  cases decide (p.Ground[k] < 0) || decide (p.Graph.Points ≤ p.Ground[k])
  · by_cases h0 : 0 < k
    · have e1 : w64 ((k : Int) - 1) = ((k - 1 : Nat) : Int) := by rw [w64_small (by omega) (by omega)]; omega
      rw [decide_eq_true (show (0 : Int) < (k : Int) by omega), decide_eq_true h0, e1, idx_at (show k - 1 < p.Ground.length by omega), List.getElem?_eq_getElem (show k - 1 < p.Ground.length by omega)]
      simp only [cond_false, cond_true, Option.bind_some, Bool.false_or, Bool.true_and]
    · rw [decide_eq_false (show ¬ (0 : Int) < (k : Int) by omega), decide_eq_false h0]
      rfl
  · rfl
theorem pinS_L2 (p : TPinned) (h : SM p.Ground.length) (hb : SM p.Graph.Bars.length) : loopM (m_spec_IsPinned_L2 p) BIG 0 = some (bif (List.range' 0 p.Graph.Bars.length).any (atB p.Graph.Bars (badPb p)) then .inr false else .inl ()) := by
  refine any_loop0 _ false p.Graph.Bars.length (by omega) (fun k hk => ?_) (by simp [m_spec_IsPinned_L2])
  unfold m_spec_IsPinned_L2
  rw [decide_eq_true (by omega), cond_true, idx_at hk, atB_at hk]
  unfold badPb
  simp only [Option.bind_some, l2Has_eq _ h]
  cases hasI p.Ground p.Graph.Bars[k].A <;> rfl
theorem pinI_L2 (p : TPinned) (h : SM p.Ground.length) (hb : SM p.Graph.Bars.length) : loopM (m_impl_IsPinned_L2 p) BIG 0 = some (bif (List.range' 0 p.Graph.Bars.length).any (atB p.Graph.Bars (badPb p)) then .inr false else .inl ()) := by
  refine any_loop0 _ false p.Graph.Bars.length (by omega) (fun k hk => ?_) (by simp [m_impl_IsPinned_L2])
  unfold m_impl_IsPinned_L2
  rw [decide_eq_true (by omega), cond_true, idx_at hk, atB_at hk]
  unfold badPb
  simp only [Option.bind_some, contains_eq _ h]
  cases hasI p.Ground p.Graph.Bars[k].A <;> rfl
def vP (p : TPinned) : Bool := vG p.Graph && !dbls p.Graph && !decide ((p.Ground.length : Int) < 2) && !decide (15 < (p.Graph.Bars.length : Int)) && !decide (24 < (p.Graph.Bars.length : Int) + 2 * (p.Ground.length : Int) - 3) && !(List.range' 0 p.Ground.length).any (badGr p) && !(List.range' 0 p.Graph.Bars.length).any (atB p.Graph.Bars (badPb p))
theorem w64_pin {a b : Nat} (ha : SM a) (hb : SM b) : w64 (w64 ((a : Int) + w64 (2 * (b : Int))) - 3) = (a : Int) + 2 * (b : Int) - 3 := by
  rw [w64_small (n := 2 * (b : Int)) (by omega) (by omega), w64_small (n := (a : Int) + 2 * (b : Int)) (by omega) (by omega), w64_small (by omega) (by omega)]
theorem isPI_eq (p : TPinned) (hb : SM p.Graph.Bars.length) (h : SM p.Ground.length) : m_impl_IsPinned p = some (vP p) := by
  unfold m_impl_IsPinned vP
  simp only [isGraphI_eq _ hb, dblI_eq _ hb, Option.bind_some, w64_pin hb h, pinI_L2 p h hb]
  cases hg : vG p.Graph
  · rfl
  · rw [pinI_L1 p (vG_VG hg) h]
    cases dbls p.Graph
    · cases decide ((p.Ground.length : Int) < 2)
      · cases decide (15 < (p.Graph.Bars.length : Int))
        · cases decide (24 < (p.Graph.Bars.length : Int) + 2 * (p.Ground.length : Int) - 3)
          · cases (List.range' 0 p.Ground.length).any (badGr p)
            · cases (List.range' 0 p.Graph.Bars.length).any (atB p.Graph.Bars (badPb p)) <;> rfl
            · rfl
          · rfl
        · rfl
      · rfl
    · rfl
theorem isPS_eq (p : TPinned) (hb : SM p.Graph.Bars.length) (h : SM p.Ground.length) : m_spec_IsPinned p = some (vP p) := by
  unfold m_spec_IsPinned vP
  have e1 : decide (2 ≤ (p.Ground.length : Int)) = !decide ((p.Ground.length : Int) < 2) := by rw [← decide_not, decide_eq_decide]; omega
  have e2 : decide ((p.Graph.Bars.length : Int) ≤ 15) = !decide (15 < (p.Graph.Bars.length : Int)) := by rw [← decide_not, decide_eq_decide]; omega
  have e3 : decide ((p.Graph.Bars.length : Int) + 2 * (p.Ground.length : Int) - 3 ≤ 24) = !decide (24 < (p.Graph.Bars.length : Int) + 2 * (p.Ground.length : Int) - 3) := by rw [← decide_not, decide_eq_decide]; omega
  simp only [pinS_L1 p h, pinS_L2 p h hb, l17Simple_eq _ hb, Option.bind_some, w64_pin hb h, e1, e2, e3]
  cases (List.range' 0 p.Ground.length).any (badGr p)
  · cases (List.range' 0 p.Graph.Bars.length).any (atB p.Graph.Bars (badPb p))
    · cases vG p.Graph <;> cases dbls p.Graph <;> cases decide ((p.Ground.length : Int) < 2) <;> cases decide (15 < (p.Graph.Bars.length : Int)) <;> simp
    · simp
  · simp
theorem vP_vG {p : TPinned} (h : vP p = true) : vG p.Graph = true := by
  unfold vP at h
  simp only [Bool.and_eq_true] at h
  exact h.1.1.1.1.1.1
def inner (p : TPinned) : List Int := pieces (fun k => bif hasI p.Ground k then [] else [(k : Int)]) p.Graph.Points.toNat
def innerOf (p : TPinned) : List Int := bif vP p then inner p else []
theorem innerI_eq (p : TPinned) (hb : SM p.Graph.Bars.length) (h : SM p.Ground.length) : m_impl_InnerPoints p = some (innerOf p) := by
  unfold m_impl_InnerPoints innerOf
  rw [isPI_eq p hb h]
  cases hv : vP p
  · rfl
  · have hV := vG_VG (vP_vG hv)
    have h1 := hV.p1
    have h8 := hV.p8
    have e := app_loop (b := m_impl_InnerPoints_L1 p) (s := (0, [])) (fun k out => ((k : Int), out)) (fun k => bif hasI p.Ground k then [] else [(k : Int)]) id 1 p.Graph.Points.toNat [] (by omega) rfl (fun k _ => by cases hasI p.Ground k <;> simp) (fun k out hk ho => by
      unfold m_impl_InnerPoints_L1
      simp only [List.length_nil, Nat.zero_add, Nat.one_mul] at ho
      simp only [contains_eq _ h, Option.bind_some, w64_succ (show k ≤ 1099511627776 by omega)]
      rw [decide_eq_true (by omega), cond_true, lim_ok (by simp; omega)]
      cases hasI p.Ground k <;> simp) (fun out => by
      unfold m_impl_InnerPoints_L1
      simp only
      rw [decide_eq_false (by omega)]
      rfl)
    rw [e]
    rfl
theorem innerS_eq (p : TPinned) (hb : SM p.Graph.Bars.length) (h : SM p.Ground.length) : m_spec_InnerPoints p = some (innerOf p) := by
  unfold m_spec_InnerPoints innerOf
  cases hv : vP p
  · have e : loopM (m_spec_InnerPoints_L1 p) BIG (0, []) = some [] := by
      refine loopM_run (fun _ => (0, [])) 0 (by omega) rfl (fun k hk => by omega) ?_
      unfold m_spec_InnerPoints_L1
      rw [isPS_eq p hb h, hv]
      cases decide ((0 : Int) < p.Graph.Points) <;> rfl
    rw [e]
    rfl
  · have hV := vG_VG (vP_vG hv)
    have h1 := hV.p1
    have h8 := hV.p8
    have e := app_loop (b := m_spec_InnerPoints_L1 p) (s := (0, [])) (fun k out => ((k : Int), out)) (fun k => bif hasI p.Ground k then [] else [(k : Int)]) id 1 p.Graph.Points.toNat [] (by omega) rfl (fun k _ => by cases hasI p.Ground k <;> simp) (fun k out hk ho => by
      unfold m_spec_InnerPoints_L1
      simp only [List.length_nil, Nat.zero_add, Nat.one_mul] at ho
      simp only [l2Has_eq _ h, isPS_eq p hb h, hv, Option.bind_some, w64_succ (show k ≤ 1099511627776 by omega)]
      rw [decide_eq_true (by omega), lim_ok (by simp; omega)]
      cases hasI p.Ground k <;> simp) (fun out => by
      unfold m_spec_InnerPoints_L1
      simp only
      rw [decide_eq_false (by omega)]
      rfl)
    rw [e]
    rfl
end Go.Proofs.Yteognanhfpbghaa
end
section
set_option linter.unusedVariables false
set_option linter.unusedSimpArgs false
set_option linter.unnecessarySimpa false
open Go Go.Fw
namespace Go.Proofs.Yteognanhfpbghaa
theorem copyInts_eq (l : List Int) (h : SM l.length) : m_impl_copyInts l = some l := by
  unfold m_impl_copyInts
  rw [lim_ok (by simp; omega)]
  rfl
structure VV (f : TFramework) (v : List Int) : Prop where
  fr : VF f
  len : (v.length : Int) = 2 * f.Graph.Points
  sm : ∀ {k : Nat} {x : Int}, v[k]? = some x → -10000000000 ≤ x ∧ x ≤ 10000000000
def gv (v : List Int) (i : Int) : Int := (v[i.toNat]?).getD 0
theorem VV.lt {f : TFramework} {v : List Int} (h : VV f v) {i : Int} (h0 : 0 ≤ i) (h1 : i < 2 * f.Graph.Points) : -10000000000 ≤ gv v i ∧ gv v i ≤ 10000000000 := by
  have hl := h.len
  have hn : i.toNat < v.length := by omega
  refine h.sm (k := i.toNat) ?_
  unfold gv
  rw [List.getElem?_eq_getElem hn]
  rfl
def otherE (x : TBar) (v : Int) : Int := bif x.A == v then x.B else x.A
end Go.Proofs.Yteognanhfpbghaa
end
section
set_option linter.unusedVariables false
set_option linter.unusedSimpArgs false
set_option linter.unnecessarySimpa false
open Go Go.Fw
namespace Go.Proofs.Yteognanhfpbghaa
theorem loop_inv2 {σ σ' τ τ' : Type} {b : σ → Option (σ ⊕ τ)} {b' : σ' → Option (σ' ⊕ τ')} {s : σ} {s' : σ'} (I : Nat → σ → σ' → Prop) (Q : τ → τ' → Prop) (n : Nat) (hn : n ≤ 1099511627776) (h0 : I 0 s s')
    (h : ∀ k s s', k < n → I k s s' → (∃ t t', b s = some (.inl t) ∧ b' s' = some (.inl t') ∧ I (k + 1) t t') ∨ ∃ r r', b s = some (.inr r) ∧ b' s' = some (.inr r') ∧ Q r r')
    (hr : ∀ s s', I n s s' → ∃ r r', b s = some (.inr r) ∧ b' s' = some (.inr r') ∧ Q r r') : ∃ r r', loopM b BIG s = some r ∧ loopM b' BIG s' = some r' ∧ Q r r' := by
  have go : ∀ (j k f : Nat) (s : σ) (s' : σ'), k + j = n → j < f → I k s s' → ∃ r r', loopM b f s = some r ∧ loopM b' f s' = some r' ∧ Q r r' := by
    intro j
    induction j with
    | zero =>
      intro k f s s' hk hf hi
      obtain ⟨f, rfl⟩ : ∃ g, f = g + 1 := ⟨f - 1, by omega⟩
      have : k = n := by omega
      subst this
      obtain ⟨r, r', h1, h2, h3⟩ := hr s s' hi
      exact ⟨r, r', by unfold loopM; rw [h1], by unfold loopM; rw [h2], h3⟩
    | succ j ih =>
      intro k f s s' hk hf hi
      obtain ⟨f, rfl⟩ : ∃ g, f = g + 1 := ⟨f - 1, by omega⟩
      rcases h k s s' (by omega) hi with ⟨t, t', h1, h2, h3⟩ | ⟨r, r', h1, h2, h3⟩
      · obtain ⟨r, r', h4, h5, h6⟩ := ih (k + 1) f t t' (by omega) (by omega) h3
        exact ⟨r, r', by unfold loopM; rw [h1]; exact h4, by unfold loopM; rw [h2]; exact h5, h6⟩
      · exact ⟨r, r', by unfold loopM; rw [h1], by unfold loopM; rw [h2], h3⟩
  exact go n 0 BIG s s' (by omega) (BIG_gt hn) h0
structure GB (P : Int) (bars : List TBar) : Prop where
  p1 : 1 ≤ P
  p8 : P ≤ 8
  len : bars.length ≤ 1000
  a0 : ∀ {k : Nat} {x : TBar}, bars[k]? = some x → 0 ≤ x.A
  ab : ∀ {k : Nat} {x : TBar}, bars[k]? = some x → x.A ≠ x.B
  b0 : ∀ {k : Nat} {x : TBar}, bars[k]? = some x → 0 ≤ x.B
  ap : ∀ {k : Nat} {x : TBar}, bars[k]? = some x → x.A < P
  bp : ∀ {k : Nat} {x : TBar}, bars[k]? = some x → x.B < P
theorem VG.gb {g : TGraph} (h : VG g) : GB g.Points g.Bars :=
  ⟨h.p1, h.p8, by have := h.len; omega, h.a0, fun hx => by have := h.ab hx; omega, fun hx => by have := h.a0 hx; have := h.ab hx; omega, fun hx => by have := h.ab hx; have := h.bp hx; omega, h.bp⟩
def pbar (bars : List TBar) (p : TPebbles) (i : Nat) : TBar := ((p.Placed[i]?).bind fun e => bars[e.toNat]?).getD ⟨0, 0⟩
structure PB (P : Int) (bars : List TBar) (k : Int) (m : Nat) (p : TPebbles) : Prop where
  k1 : 1 ≤ k
  k3 : k ≤ 3
  fl : (p.Free.length : Int) = P
  tl : p.Tails.length = p.Placed.length
  pl : p.Placed.length ≤ m
  pr : ∀ {i : Nat} {e : Int}, p.Placed[i]? = some e → 0 ≤ e ∧ e < (bars.length : Int) ∧ e < (m : Int)
  inc : ∀ {i : Nat} {e e' : Int}, p.Placed[i]? = some e → p.Placed[i + 1]? = some e' → e < e'
  ends : ∀ {i : Nat} {t : Int}, p.Tails[i]? = some t → t = (pbar bars p i).A ∨ t = (pbar bars p i).B
  fr : ∀ {v : Nat} {f : Int}, p.Free[v]? = some f → 0 ≤ f ∧ f + (p.Tails.count (v : Int) : Int) = k
section
variable {P : Int} {bars : List TBar} {k : Int} {m : Nat} {p : TPebbles}
theorem PB.bar (hg : GB P bars) (h : PB P bars k m p) {i : Nat} (hi : i < p.Placed.length) : ∃ e, p.Placed[i]? = some e ∧ idx bars e = some (pbar bars p i) ∧ bars[e.toNat]? = some (pbar bars p i) := by
  have h1 := List.getElem?_eq_getElem hi
  obtain ⟨e0, e1, _⟩ := h.pr h1
  refine ⟨_, h1, ?_⟩
  have h2 : bars[p.Placed[i].toNat]? = some (pbar bars p i) := by
    unfold pbar
    rw [h1]
    simp only [Option.bind_some]
    rw [List.getElem?_eq_getElem (by omega)]
    rfl
  refine ⟨?_, h2⟩
  unfold idx
  rw [if_pos e0, h2]
theorem PB.pbar_ok (hg : GB P bars) (h : PB P bars k m p) {i : Nat} (hi : i < p.Placed.length) : 0 ≤ (pbar bars p i).A ∧ 0 ≤ (pbar bars p i).B ∧ (pbar bars p i).A ≠ (pbar bars p i).B ∧ (pbar bars p i).A < P ∧ (pbar bars p i).B < P := by
  obtain ⟨e, _, _, h2⟩ := h.bar hg hi
  exact ⟨hg.a0 h2, hg.b0 h2, hg.ab h2, hg.ap h2, hg.bp h2⟩
theorem other_S (x : TBar) (v : Int) (hp : P ≤ 8) (h : 0 ≤ x.A ∧ 0 ≤ x.B ∧ x.A ≠ x.B ∧ x.A < P ∧ x.B < P) (hv : v = x.A ∨ v = x.B) : m_spec_l4Other x v = some (otherE x v) := by
  unfold m_spec_l4Other otherE
  rw [w64_small (n := x.A + x.B) (by omega) (by omega)]
  rcases hv with rfl | rfl
  · rw [w64_small (by omega) (by omega), beq_self_eq_true, cond_true]
    congr 1
    omega
  · have : (x.A == x.B) = false := by simp; exact h.2.2.1
    rw [w64_small (by omega) (by omega), this, cond_false]
    congr 1
    omega
theorem other_I (x : TBar) (v : Int) : m_impl_Bar_other x v = some (otherE x v) := by
  unfold m_impl_Bar_other otherE
  cases x.A == v <;> rfl
theorem other_ok {x : TBar} {v : Int} (h : 0 ≤ x.A ∧ 0 ≤ x.B ∧ x.A ≠ x.B ∧ x.A < P ∧ x.B < P) (hv : v = x.A ∨ v = x.B) : 0 ≤ otherE x v ∧ otherE x v < P ∧ otherE x v ≠ v ∧ (otherE x v = x.A ∨ otherE x v = x.B) ∧ otherE x (otherE x v) = v := by
  unfold otherE
  rcases hv with rfl | rfl
  · have e : (x.A == x.B) = false := by simp; exact h.2.2.1
    simp only [beq_self_eq_true, cond_true, e, cond_false]
    exact ⟨by omega, by omega, by omega, .inr trivial, trivial⟩
  · have e : (x.A == x.B) = false := by simp; exact h.2.2.1
    simp only [e, cond_false, beq_self_eq_true, cond_true]
    exact ⟨by omega, by omega, by omega, .inl trivial, trivial⟩
theorem mget_put (m : List (Int × Int)) (k v j : Int) : mget (mput m k v) j = if j = k then v else mget m j := by
  induction m with
  | nil =>
    simp only [mput, mget]
    by_cases h : j = k
    · simp [h]
    · have : (j == k) = false := by simp [h]
      simp [h, this]
  | cons e r ih =>
    unfold mput
    cases hk : k == e.1 with
    | true =>
      rw [beq_iff_eq] at hk
      simp only [cond_true, mget]
      by_cases h : j = k
      · simp [h]
      · have h1 : (j == k) = false := by simp [h]
        have h2 : (j == e.1) = false := by simp [← hk, h]
        simp [h, h1, h2]
    | false =>
      simp only [cond_false, mget, ih]
      by_cases h : j = e.1
      · have h1 : ¬ j = k := fun h2 => by
          rw [← h2, h] at hk
          simp at hk
        simp [h, h1]
        intro h3
        exact absurd (h.trans h3) h1
      · have h1 : (j == e.1) = false := by simp [h]
        simp [h1]
theorem mhas_put (m : List (Int × Int)) (k v j : Int) : mhas (mput m k v) j = (decide (j = k) || mhas m j) := by
  induction m with
  | nil =>
    simp only [mput, mhas]
    by_cases h : j = k
    · simp [h]
    · have : (j == k) = false := by simp [h]
      simp [h, this]
  | cons e r ih =>
    unfold mput
    cases hk : k == e.1 with
    | true =>
      rw [beq_iff_eq] at hk
      simp only [cond_true, mhas]
      by_cases h : j = k
      · simp [h]
      · have h1 : (j == k) = false := by simp [h]
        have h2 : (j == e.1) = false := by simp [← hk, h]
        simp [h, h1, h2]
    | false =>
      simp only [cond_false, mhas, ih]
      cases hj : j == e.1 <;> simp
structure BF (P : Int) (bars : List TBar) (p : TPebbles) (a : Int) (q : List Int) (M : List (Int × Int)) (F : List Int) (S : List Bool) : Prop where
  first : q[0]? = some a
  nd : ∀ {i j : Nat} {v : Int}, q[i]? = some v → q[j]? = some v → i = j
  rng : ∀ {i : Nat} {v : Int}, q[i]? = some v → 0 ≤ v ∧ v < P
  sl : (S.length : Int) = P
  fl : (F.length : Int) = P
  cnt : q.length = S.count true
  seen : ∀ {v : Nat} {s : Bool}, S[v]? = some s → (s = true ↔ (v : Int) ∈ q)
  has : ∀ v : Int, mhas M v = true ↔ v ∈ q
  from_ : ∀ {v : Nat} {f : Int}, F[v]? = some f → (v : Int) ∈ q → f = mget M v
  way : ∀ {j : Nat} {v : Int}, 0 < j → q[j]? = some v → ∃ (i j' : Nat) (t : Int), mget M v = i ∧ i < p.Placed.length ∧ j' < j ∧ q[j']? = some t ∧ p.Tails[i]? = some t ∧ otherE (pbar bars p i) t = v
theorem BF.len {a : Int} {q : List Int} {M : List (Int × Int)} {F : List Int} {S : List Bool} (h : BF P bars p a q M F S) : (q.length : Int) ≤ P := by
  have := List.count_le_length (a := true) (l := S)
  have := h.cnt
  have := h.sl
  omega
theorem BF.more (hg : GB P bars) (hp : PB P bars k m p) {a : Int} {q : List Int} {M : List (Int × Int)} {F : List Int} {S : List Bool} (h : BF P bars p a q M F S) {i j : Nat} {t u : Int} (hi : i < p.Placed.length) (hj : q[j]? = some t) (ht : p.Tails[i]? = some t) (hu : otherE (pbar bars p i) t = u) (hn : u ∉ q) :
    BF P bars p a (q ++ [u]) (mput M u i) (F.set u.toNat i) (S.set u.toNat true) := by
  have hends := hp.ends ht
  obtain ⟨u0, u1, _, _, _⟩ := other_ok (hp.pbar_ok hg hi) hends
  rw [hu] at u0 u1
  have hjl := (List.getElem?_eq_some_iff.1 hj).1
  have hget : ∀ {r : Nat} {v : Int}, (q ++ [u])[r]? = some v → (r < q.length ∧ q[r]? = some v) ∨ (r = q.length ∧ v = u) := fun {r v} hr => by
    rw [List.getElem?_append] at hr
    split at hr
    · exact .inl ⟨by assumption, hr⟩
    · right
      have hrl : r - q.length = 0 := by
        rcases Nat.eq_zero_or_pos (r - q.length) with h0 | h0
        · exact h0
        · rw [List.getElem?_eq_none (by simp; omega)] at hr
          cases hr
      rw [hrl] at hr
      simp at hr
      exact ⟨by omega, hr.symm⟩
  have hmem : ∀ {r : Nat} {v : Int}, q[r]? = some v → v ∈ q := fun hr => List.mem_of_getElem? hr
  have hsl := h.sl
  have hsu : S[u.toNat]? = some (S[u.toNat]'(by omega)) := List.getElem?_eq_getElem (by omega)
  have hsf : S[u.toNat]'(by omega) = false := by
    cases hb : S[u.toNat]'(by omega) with
    | false => rfl
    | true =>
      rw [hb] at hsu
      have := (h.seen hsu).1 rfl
      rw [Int.toNat_of_nonneg u0] at this
      exact absurd this hn
  refine ⟨?_, ?_, ?_, by simpa using h.sl, by simpa using h.fl, ?_, ?_, ?_, ?_, ?_⟩
  · rw [List.getElem?_append_left (by omega)]
    exact h.first
  · intro r s v hr hs
    rcases hget hr with ⟨h1, h2⟩ | ⟨h1, h2⟩ <;> rcases hget hs with ⟨h3, h4⟩ | ⟨h3, h4⟩
    · exact h.nd h2 h4
    · subst h4; exact absurd (hmem h2) hn
    · subst h2; exact absurd (hmem h4) hn
    · omega
  · intro r v hr
    rcases hget hr with ⟨_, h2⟩ | ⟨_, rfl⟩
    · exact h.rng h2
    · exact ⟨u0, u1⟩
  · have := h.cnt
    rw [List.count_set (by omega), hsf, List.length_append]
    simp
    omega
  · intro v s hv
    rw [List.getElem?_set] at hv
    rw [List.mem_append, List.mem_singleton]
    by_cases huv : u.toNat = v
    · rw [if_pos huv] at hv
      split at hv
      · injection hv with hv
        subst hv
        simp only [true_iff]
        right
        omega
      · cases hv
    · rw [if_neg huv] at hv
      rw [h.seen hv]
      constructor
      · exact .inl
      · rintro (h1 | h1)
        · exact h1
        · omega
  · intro v
    rw [mhas_put, Bool.or_eq_true, decide_eq_true_eq, h.has, List.mem_append, List.mem_singleton]
    exact Or.comm
  · intro v f hv hq
    rw [List.getElem?_set] at hv
    rw [mget_put]
    by_cases huv : u.toNat = v
    · rw [if_pos huv] at hv
      rw [if_pos (by omega)]
      split at hv
      · injection hv with hv
        exact hv.symm
      · cases hv
    · rw [if_neg huv] at hv
      rw [if_neg (by omega)]
      refine h.from_ hv ?_
      rw [List.mem_append, List.mem_singleton] at hq
      rcases hq with h1 | h1
      · exact h1
      · omega
  · intro r v h0 hr
    rcases hget hr with ⟨h1, h2⟩ | ⟨h1, rfl⟩
    · obtain ⟨i', j', t', w1, w2, w3, w4, w5, w6⟩ := h.way h0 h2
      have hvu : v ≠ u := fun e => hn (e ▸ hmem h2)
      exact ⟨i', j', t', by rw [mget_put, if_neg hvu]; exact w1, w2, w3, by rw [List.getElem?_append_left (List.getElem?_eq_some_iff.1 w4).1]; exact w4, w5, w6⟩
    · exact ⟨i, j, t, by rw [mget_put, if_pos rfl], hi, by omega, by rw [List.getElem?_append_left hjl]; exact hj, ht, hu⟩
theorem BF.start (hg : GB P bars) {a : Int} (a0 : 0 ≤ a) (a1 : a < P) {F : List Int} (hf : (F.length : Int) = P) (hF : ∀ {v : Nat} {f : Int}, F[v]? = some f → f = -1) : BF P bars p a [a] (mput [] a (-1)) F ((List.replicate P.toNat false).set a.toNat true) := by
  have hp1 := hg.p1
  have hget : ∀ {r : Nat} {v : Int}, ([a] : List Int)[r]? = some v → r = 0 ∧ v = a := fun {r v} hr => by
    cases r with
    | zero => simp at hr; exact ⟨rfl, hr.symm⟩
    | succ r => simp at hr
  refine ⟨rfl, fun h1 h2 => by rw [(hget h1).1, (hget h2).1], fun hr => by obtain ⟨_, rfl⟩ := hget hr; exact ⟨a0, a1⟩, by simp; omega, hf, ?_, ?_, ?_, ?_, ?_⟩
  · rw [List.count_set (by simp; omega), List.getElem_replicate]
    simp [List.count_replicate]
  · intro v s hv
    rw [List.mem_singleton]
    rw [List.getElem?_set] at hv
    by_cases hav : a.toNat = v
    · rw [if_pos hav] at hv
      split at hv
      · injection hv with hv
        subst hv
        simp only [true_iff]
        omega
      · cases hv
    · rw [if_neg hav, List.getElem?_replicate] at hv
      split at hv
      · injection hv with hv
        subst hv
        simp
        omega
      · cases hv
  · intro v
    rw [mhas_put, List.mem_singleton]
    simp [mhas]
  · intro v f hv hq
    rw [List.mem_singleton] at hq
    rw [mget_put, if_pos hq]
    exact hF hv
  · intro j v h0 hr
    have := (hget hr).1
    omega
theorem set_get {α : Type} {l : List α} {i j : Nat} {x y : α} (h : (l.set i x)[j]? = some y) : (i = j ∧ y = x) ∨ (i ≠ j ∧ l[j]? = some y) := by
  rw [List.getElem?_set] at h
  by_cases hij : i = j
  · rw [if_pos hij] at h
    split at h
    · injection h with h
      exact .inl ⟨hij, h.symm⟩
    · cases h
  · rw [if_neg hij] at h
    exact .inr ⟨hij, h⟩
structure TW (p : TPebbles) (bars : List TBar) (q : List Int) (M : List (Int × Int)) (u : Int) (j : Nat) (at_ : Int) (T : List Int) : Prop where
  atj : q[j]? = some at_
  tl : T.length = p.Tails.length
  keep : ∀ {r : Nat} {v : Int}, r ≤ j → 0 < r → q[r]? = some v → T[(mget M v).toNat]? = p.Tails[(mget M v).toNat]?
  ends : ∀ {i : Nat} {t : Int}, T[i]? = some t → t = (pbar bars p i).A ∨ t = (pbar bars p i).B
  cnt : ∀ v : Int, (T.count v : Int) = p.Tails.count v + (if v = u then 1 else 0) - (if v = at_ then 1 else 0)
theorem TW.step (hg : GB P bars) (hp : PB P bars k m p) {a : Int} {q : List Int} {M : List (Int × Int)} {F : List Int} {S : List Bool} (h : BF P bars p a q M F S) {u at_ : Int} {j : Nat} {T : List Int} (hT : TW p bars q M u j at_ T) (hne : at_ ≠ a) :
    ∃ (i j' : Nat) (t : Int), mget M at_ = i ∧ i < p.Placed.length ∧ j' < j ∧ T[i]? = some t ∧ otherE (pbar bars p i) at_ = t ∧ TW p bars q M u j' t (T.set i at_) := by
  have hj0 : 0 < j := by
    rcases Nat.eq_zero_or_pos j with h0 | h0
    · subst h0
      have := h.first.symm.trans hT.atj
      injection this with this
      exact absurd this.symm hne
    · exact h0
  obtain ⟨i, j', t, w1, w2, w3, w4, w5, w6⟩ := h.way hj0 hT.atj
  have hk := hT.keep (Nat.le_refl _) hj0 hT.atj
  rw [w1, Int.toNat_natCast, w5] at hk
  obtain ⟨_, _, o3, o4, o5⟩ := other_ok (hp.pbar_ok hg w2) (hp.ends w5)
  rw [w6] at o3 o4 o5
  have hil := (List.getElem?_eq_some_iff.1 hk).1
  have hig : T[i] = t := by
    rw [List.getElem?_eq_getElem hil] at hk
    injection hk
  refine ⟨i, j', t, w1, w2, w3, hk, o5, w4, by simpa using hT.tl, ?_, ?_, ?_⟩
  · intro r v hr h0 hq
    have hri : (mget M v).toNat ≠ i := fun e => by
      obtain ⟨i2, _, t2, x1, x2, _, _, x5, x6⟩ := h.way h0 hq
      rw [x1, Int.toNat_natCast] at e
      subst e
      rw [w5] at x5
      injection x5 with x5
      subst x5
      have : v = at_ := x6.symm.trans w6
      subst this
      have := h.nd hq hT.atj
      omega
    rw [List.getElem?_set, if_neg (Ne.symm hri)]
    exact hT.keep (by omega) h0 hq
  · intro i2 t2 h2
    rcases set_get h2 with ⟨rfl, rfl⟩ | ⟨_, h3⟩
    · exact o4
    · exact hT.ends h3
  · intro v
    rw [List.count_set hil, hig]
    have hc := hT.cnt v
    have hpos : t = v → 0 < T.count v := fun e => by
      subst e
      exact List.count_pos_iff.2 (List.mem_of_getElem? hk)
    by_cases h1 : v = t
    · subst h1
      have := hpos rfl
      have h3 : ¬ v = at_ := fun e => o3 e.symm
      have h4 : (at_ == v) = false := by simp; exact fun e => h3 e.symm
      simp only [beq_self_eq_true, if_true, h4, Bool.false_eq_true, if_false, if_neg h3] at hc ⊢
      omega
    · have h2 : (t == v) = false := by simp; exact fun e => h1 e.symm
      by_cases h3 : v = at_
      · subst h3
        simp only [h2, Bool.false_eq_true, if_false, beq_self_eq_true, if_true, if_neg h1] at hc ⊢
        omega
      · have h4 : (at_ == v) = false := by simp; exact fun e => h3 e.symm
        simp only [h2, h4, Bool.false_eq_true, if_false, if_neg h1, if_neg h3] at hc ⊢
        omega
theorem turn_both (hg : GB P bars) (hp : PB P bars k m p) {g : TGraph} (hgp : g.Points = P) (hgb : g.Bars = bars) {a : Int} {q : List Int} {M : List (Int × Int)} {F : List Int} {S : List Bool} (h : BF P bars p a q M F S) {u : Int} {j : Nat} (hu : q[j]? = some u) (r1 : TPebbles) (x2 x4 : Int) (s1 : Int × List (Int × Int) × List Int) (hM : mput s1.2.1 u s1.1 = M) :
    ∃ T, loopM (m_spec_l4Shift_L1 g p F a u r1 x2 x4) BIG (u, p.Tails) = some (((r1.Free.set u.toNat (w64 (x2 - 1))).set a.toNat (w64 (x4 + 1))), T, r1.Placed) ∧
      loopM (m_impl_moveTo_L11 p a s1 u x2 x4) BIG (u, p.Tails) = some (((p.Free.set u.toNat (w64 (x2 - 1))).set a.toNat (w64 (x4 + 1))), T) ∧ TW p bars q M u 0 a T := by
  have hql := h.len
  have h8 := hg.p8
  have hjl := (List.getElem?_eq_some_iff.1 hu).1
  obtain ⟨r, r', e1, e2, T, rfl, rfl, hT⟩ := loop_inv2 (b := m_spec_l4Shift_L1 g p F a u r1 x2 x4) (b' := m_impl_moveTo_L11 p a s1 u x2 x4) (s := (u, p.Tails)) (s' := (u, p.Tails))
    (fun n s s' => ∃ (j' : Nat) (at_ : Int) (T : List Int), s = (at_, T) ∧ s' = (at_, T) ∧ j' + n ≤ j ∧ TW p bars q M u j' at_ T)
    (fun r r' => ∃ T, r = (((r1.Free.set u.toNat (w64 (x2 - 1))).set a.toNat (w64 (x4 + 1))), T, r1.Placed) ∧ r' = (((p.Free.set u.toNat (w64 (x2 - 1))).set a.toNat (w64 (x4 + 1))), T) ∧ TW p bars q M u 0 a T) (j + 1) (by omega)
    ⟨j, u, p.Tails, rfl, rfl, by omega, hu, rfl, fun _ _ _ => rfl, hp.ends, fun v => by omega⟩ (fun n s s' hn hs => by
      obtain ⟨j', at_, T, rfl, rfl, hj', hT⟩ := hs
      by_cases hat : at_ = a
      · subst hat
        have hj0 : j' = 0 := h.nd hT.atj h.first
        subst hj0
        refine .inr ⟨_, _, ?_, ?_, T, rfl, rfl, hT⟩
        · unfold m_spec_l4Shift_L1
          simp
        · unfold m_impl_moveTo_L11
          simp
      · obtain ⟨i, j2, t, w1, w2, w3, w4, w5, w6⟩ := hT.step hg hp h hat
        have hb : (at_ != a) = true := by simp; exact hat
        obtain ⟨e, hpe, hbe, hbe2⟩ := hp.bar hg w2
        have hpi : idx p.Placed (i : Int) = some e := idx_of hpe
        have hrng := h.rng hT.atj
        have hFl := h.fl
        have hFat : idx F at_ = some (i : Int) := by
          have hl : F[at_.toNat]? = some (F[at_.toNat]'(by omega)) := List.getElem?_eq_getElem (by omega)
          have := h.from_ hl (by rw [Int.toNat_of_nonneg hrng.1]; exact List.mem_of_getElem? hT.atj)
          rw [Int.toNat_of_nonneg hrng.1, w1] at this
          unfold idx
          rw [if_pos hrng.1, hl, this]
        have hTi : idx T (i : Int) = some t := idx_of w4
        refine .inl ⟨(t, T.set i at_), (t, T.set i at_), ?_, ?_, j2, t, T.set i at_, rfl, rfl, by omega, w6⟩
        · have ho : m_spec_l4Other (pbar bars p i) at_ = some t := by
            rw [other_S (P := P) _ _ h8 (hp.pbar_ok hg w2) ?_, w5]
            obtain ⟨_, _, _, o4, _⟩ := other_ok (hp.pbar_ok hg w2) (hT.ends w4)
            have hte := hT.ends w4
            unfold otherE at w5
            by_cases hA : (pbar bars p i).A = at_
            · exact .inl hA.symm
            · have : ((pbar bars p i).A == at_) = false := by simp [hA]
              rw [this, cond_false] at w5
              -- the other end of at_ is A: at_ is B
              obtain ⟨i3, _, t3, z1, z2, _, _, z5, z6⟩ := h.way (j := j') (by
                rcases Nat.eq_zero_or_pos j' with h0 | h0
                · subst h0
                  have := h.first.symm.trans hT.atj
                  injection this with this
                  exact absurd this.symm hat
                · exact h0) hT.atj
              rw [w1] at z1
              have : i3 = i := by omega
              subst this
              obtain ⟨_, _, _, o4', _⟩ := other_ok (hp.pbar_ok hg z2) (hp.ends z5)
              rw [z6] at o4'
              exact o4'
          unfold m_spec_l4Shift_L1
          simp only [hb, cond_true, hFat, hpi, hgb, hbe, ho, hTi, Option.bind_some, Int.toNat_natCast]
        · unfold m_impl_moveTo_L11
          simp only [hb, cond_true, hM, w1, hTi, Option.bind_some, Int.toNat_natCast]) (fun s s' hs => by
      obtain ⟨j', at_, T, rfl, rfl, hj', hT⟩ := hs
      omega)
  exact ⟨T, e1, e2, hT⟩
theorem PB.moved (hg : GB P bars) (hp : PB P bars k m p) {q : List Int} {M : List (Int × Int)} {u a : Int} {T : List Int} {fu fa : Int} (hT : TW p bars q M u 0 a T) (u0 : 0 ≤ u) (a0 : 0 ≤ a) (hua : u ≠ a) (hfu : p.Free[u.toNat]? = some fu) (hfa : p.Free[a.toNat]? = some fa) (hpos : 0 < fu) :
    PB P bars k m ⟨(p.Free.set u.toNat (fu - 1)).set a.toNat (fa + 1), T, p.Placed⟩ := by
  refine ⟨hp.k1, hp.k3, by simpa using hp.fl, hT.tl.trans hp.tl, hp.pl, hp.pr, hp.inc, hT.ends, ?_⟩
  intro v f hv
  change 0 ≤ f ∧ f + (T.count (v : Int) : Int) = k
  have hc := hT.cnt (v : Int)
  rcases set_get hv with ⟨h1, rfl⟩ | ⟨h1, h2⟩
  · have hva : (v : Int) = a := by omega
    have hf := hp.fr hfa
    rw [Int.toNat_of_nonneg a0] at hf
    rw [hva, if_neg (Ne.symm hua), if_pos rfl] at hc
    rw [hva]
    omega
  · rcases set_get h2 with ⟨h3, rfl⟩ | ⟨h3, h4⟩
    · have hvu : (v : Int) = u := by omega
      have hf := hp.fr hfu
      rw [Int.toNat_of_nonneg u0] at hf
      rw [hvu, if_pos rfl, if_neg hua] at hc
      rw [hvu]
      omega
    · have hf := hp.fr h4
      rw [if_neg (show ¬ (v : Int) = u by omega), if_neg (show ¬ (v : Int) = a by omega)] at hc
      omega
end
end Go.Proofs.Yteognanhfpbghaa
end
