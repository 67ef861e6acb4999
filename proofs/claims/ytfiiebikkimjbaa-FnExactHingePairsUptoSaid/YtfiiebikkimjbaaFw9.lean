/- The framework, part 9: typed rows, helpers of the models, loops that are left in known ways, posts of functions. -/
import Derived.Test.YtfiiebikkimjbaaFw8
import Derived.KernelRfl
set_option linter.unusedVariables false
set_option linter.unusedSimpArgs false
set_option linter.unnecessarySimpa false
namespace Go.Fw

/-! ### helpers of the models -/
def idx {α : Type} (l : List α) (i : Int) : Option α := if 0 ≤ i then l[i.toNat]? else none
def lim (n : Nat) : Option Unit := if n ≤ LIM then some () else none
def lenOk (n : Int) : Option Unit := if 0 ≤ n ∧ n ≤ 2147483648 then some () else none
def nz (n : Int) : Option Unit := if n ≠ 0 then some () else none
def same (a b : Nat) : Option Unit := if a = b then some () else none
def nn (n : Int) : Option Unit := if 0 ≤ n then some () else none
def BIG : Nat := 18446744073709551616

theorem idx_nn {α : Type} {l : List α} {i : Int} {x : α} (h : idx l i = some x) : 0 ≤ i := by
  unfold idx at h; split at h
  · assumption
  · cases h
theorem idx_get {α : Type} {l : List α} {i : Int} {x : α} (h : idx l i = some x) : l[i.toNat]? = some x := by
  unfold idx at h; split at h
  · assumption
  · cases h
theorem idx_lt {α : Type} {l : List α} {i : Int} {x : α} (h : idx l i = some x) : i < l.length := by
  have h0 := idx_nn h
  have h1 := (List.getElem?_eq_some_iff.1 (idx_get h)).1
  omega
theorem lim_le {n : Nat} {u : Unit} (h : lim n = some u) : n ≤ LIM := by
  unfold lim at h; split at h
  · assumption
  · cases h
theorem lenOk_le {n : Int} {u : Unit} (h : lenOk n = some u) : 0 ≤ n ∧ n ≤ LIM := by
  unfold lenOk at h; split at h
  · assumption
  · cases h
theorem nz_ne {n : Int} {u : Unit} (h : nz n = some u) : n ≠ 0 := by
  unfold nz at h; split at h
  · assumption
  · cases h
theorem same_eq {a b : Nat} {u : Unit} (h : same a b = some u) : a = b := by
  unfold same at h; split at h
  · assumption
  · cases h
theorem nn_le {n : Int} {u : Unit} (h : nn n = some u) : 0 ≤ n := by
  unfold nn at h; split at h
  · assumption
  · cases h

section
variable {P : Program} {C : Ctx} {σ σ' : Slots} {m m' : Mem} {is : List It} {τ υ : Type} {M : Option τ} {K : τ → Post}

/-! ### entailment by lists -/
def SubS (σ' σ : Slots) : Prop := match σ' with
  | [] => True
  | (t, v) :: r => lk σ t = some v ∧ SubS r σ
def SubM (m' m : Mem) : Prop := match m' with
  | [] => True
  | (n, o) :: r => lk m n = some o ∧ SubM r m
theorem SubS.spec : ∀ {σ' : Slots}, SubS σ' σ → ∀ t v, lk σ' t = some v → lk σ t = some v
  | [], _, _, _, h => by cases h
  | (k, x) :: r, hs, t, v, h => by
    change (bif Nat.beq k t then some x else lk r t) = some v at h
    cases hb : Nat.beq k t with
    | true =>
      rw [hb, cond_true] at h
      injection h with h
      have := Nat.eq_of_beq_eq_true hb
      subst this
      subst h
      exact hs.1
    | false =>
      rw [hb, cond_false] at h
      exact SubS.spec hs.2 t v h
theorem SubM.spec : ∀ {m' : Mem}, SubM m' m → ∀ t v, lk m' t = some v → lk m t = some v
  | [], _, _, _, h => by cases h
  | (k, x) :: r, hs, t, v, h => by
    change (bif Nat.beq k t then some x else lk r t) = some v at h
    cases hb : Nat.beq k t with
    | true =>
      rw [hb, cond_true] at h
      injection h with h
      have := Nat.eq_of_beq_eq_true hb
      subst this
      subst h
      exact hs.1
    | false =>
      rw [hb, cond_false] at h
      exact SubM.spec hs.2 t v h
theorem Ent.of (h1 : SubS σ' σ) (h2 : SubM m' m) : Ent P C σ m σ' m' := fun R B g _ _ hs => ⟨R, B, g, hs.weak (SubS.spec h1) (SubM.spec h2)⟩
theorem Ent.refl : Ent P C σ m σ m := fun R B g _ _ hs => ⟨R, B, g, hs⟩
theorem Ent.trans {σ2 : Slots} {m2 : Mem} (h : Ent P C σ m σ' m') (k : Ent P C σ' m' σ2 m2) : Ent P C σ m σ2 m2 := fun R B g a w hs => by
  obtain ⟨R', B', g', hs'⟩ := h R B g a w hs
  exact k R' B' g' a w hs'

theorem AOR.ent {ops : Array Oper} {rest : List Oper} (h : Ent P C σ m σ' m') (k : AOR P C ops rest is σ' m' M K) : AOR P C ops rest is σ m M K := fun t ht R B g a w hs => by
  obtain ⟨R', B', g', hs'⟩ := h R B g a w hs
  exact k t ht R' B' g' a w hs'

/-! ### loops and joins -/
/-- how a round ends: again, or at the block id, or by return -/
def KL {σs β ρ : Type} (P : Program) (C : Ctx) (id : Nat) (S : σs → Slots × Mem) (Sb : β → Slots × Mem) (Kr : ρ → Post) : σs ⊕ (β ⊕ ρ) → Post := fun o e σ m => match o with
  | .inl s => e = .normal ∧ Ent P C σ m (S s).1 (S s).2
  | .inr (.inl b) => e = .exit id ∧ Ent P C σ m (Sb b).1 (Sb b).2
  | .inr (.inr r) => e = .ret ∧ Kr r .ret σ m

theorem AWR.loopR {σs β ρ : Type} {body : Code} {id : Nat} (bm : σs → Option (σs ⊕ (β ⊕ ρ))) (S : σs → Slots × Mem) (Sb : β → Slots × Mem) (Kr : ρ → Post) {f : β → Option τ} {gr : ρ → Option τ} {n : Nat} {s : σs}
    (hb : ∀ s, AWR P C [.code body] (S s).1 (S s).2 (bm s) (KL P C id S Sb Kr)) (h0 : Ent P C σ m (S s).1 (S s).2) (hid : hasBlk id is = true)
    (hl : ∀ b, loopM bm n s = some (.inl b) → AWR P C (dropTo id is) (Sb b).1 (Sb b).2 (f b) K) (hr : ∀ r t σ m, gr r = some t → Kr r .ret σ m → K t .ret σ m) :
    AWR P C (.code (.loop body) :: is) σ m ((loopM bm n s).bind (Sum.elim f gr)) K :=
  AWR.loop (Lv := fun o e σ m => match o with | .inl b => e = .exit id ∧ Ent P C σ m (Sb b).1 (Sb b).2 | .inr r => e = .ret ∧ Kr r .ret σ m) bm S
    (fun s t ht R B g a w hs => wp_mono (hb s t ht R B g a w hs) fun e a w he => by
      obtain ⟨σ', m', R', B', g', hs', hp⟩ := he
      refine ⟨σ', m', R', B', g', hs', ?_⟩
      rcases t with s' | b | r
      · exact hp
      · obtain ⟨rfl, hp⟩ := hp
        exact ⟨by simp, rfl, hp⟩
      · obtain ⟨rfl, hp⟩ := hp
        exact ⟨by simp, rfl, hp⟩) h0 (fun u e σ' m' hu hlv t ht => by
      rcases u with b | r
      · obtain ⟨rfl, hp⟩ := hlv
        exact AWE.exit_to hid (AWE.ent hp (hl b hu t ht))
      · obtain ⟨rfl, hp⟩ := hlv
        exact AWE.ret_end (hr r t σ' m' ht hp))

def KL1 {σs β : Type} (P : Program) (C : Ctx) (id : Nat) (S : σs → Slots × Mem) (Sb : β → Slots × Mem) : σs ⊕ β → Post := fun o e σ m => match o with
  | .inl s => e = .normal ∧ Ent P C σ m (S s).1 (S s).2
  | .inr b => e = .exit id ∧ Ent P C σ m (Sb b).1 (Sb b).2
theorem AWR.loop1 {σs β : Type} {body : Code} {id : Nat} (bm : σs → Option (σs ⊕ β)) (S : σs → Slots × Mem) (Sb : β → Slots × Mem) {f : β → Option τ} {n : Nat} {s : σs}
    (hb : ∀ s, AWR P C [.code body] (S s).1 (S s).2 (bm s) (KL1 P C id S Sb)) (h0 : Ent P C σ m (S s).1 (S s).2) (hid : hasBlk id is = true)
    (hl : ∀ b, loopM bm n s = some b → AWR P C (dropTo id is) (Sb b).1 (Sb b).2 (f b) K) : AWR P C (.code (.loop body) :: is) σ m ((loopM bm n s).bind f) K :=
  AWR.loop (Lv := fun b e σ m => e = .exit id ∧ Ent P C σ m (Sb b).1 (Sb b).2) bm S
    (fun s t ht R B g a w hs => wp_mono (hb s t ht R B g a w hs) fun e a w he => by
      obtain ⟨σ', m', R', B', g', hs', hp⟩ := he
      refine ⟨σ', m', R', B', g', hs', ?_⟩
      rcases t with s' | b
      · exact hp
      · obtain ⟨rfl, hp⟩ := hp
        exact ⟨by simp, rfl, hp⟩) h0 (fun u e σ' m' hu hlv t ht => by
      obtain ⟨rfl, hp⟩ := hlv
      exact AWE.exit_to hid (AWE.ent hp (hl u hu t ht)))

/-- the end of a piece: normal, in the state S u -/
def KJ (P : Program) (C : Ctx) (S : υ → Slots × Mem) : υ → Post := fun u e σ m => e = .normal ∧ Ent P C σ m (S u).1 (S u).2
theorem AWR.joinK {c : Code} {M1 : Option υ} {f : υ → Option τ} (S : υ → Slots × Mem) (h1 : AWR P C [.code c] σ m M1 (KJ P C S)) (h2 : ∀ t, M1 = some t → AWR P C is (S t).1 (S t).2 (f t) K) : AWR P C (.code c :: is) σ m (M1.bind f) K :=
  AWR.join S h1 h2
/-- the same, of a piece that may also return -/
def KJR {ρ : Type} (P : Program) (C : Ctx) (S : υ → Slots × Mem) (Kr : ρ → Post) : υ ⊕ ρ → Post := fun o e σ m => match o with
  | .inl u => e = .normal ∧ Ent P C σ m (S u).1 (S u).2
  | .inr r => e = .ret ∧ Kr r .ret σ m
theorem AWR.joinR {ρ : Type} {c : Code} {M1 : Option (υ ⊕ ρ)} {f : υ → Option τ} {gr : ρ → Option τ} (S : υ → Slots × Mem) (Kr : ρ → Post) (h1 : AWR P C [.code c] σ m M1 (KJR P C S Kr)) (h2 : ∀ t, M1 = some (.inl t) → AWR P C is (S t).1 (S t).2 (f t) K)
    (hr : ∀ r t σ m, gr r = some t → Kr r .ret σ m → K t .ret σ m) : AWR P C (.code c :: is) σ m (M1.bind (Sum.elim f gr)) K := fun t ht R B g a w hs => by
  obtain ⟨u, hu, hf⟩ := Option.bind_eq_some_iff.1 ht
  refine wp_mono (h1 u hu R B g a w hs) fun e a w he => ?_
  obtain ⟨σ', m', R', B', g', hs', hp⟩ := he
  rcases u with u | r
  · obtain ⟨rfl, hent⟩ := hp
    obtain ⟨R2, B2, g2, hs2⟩ := hent _ _ _ _ _ hs'
    exact h2 u hu t hf _ _ _ _ _ hs2
  · obtain ⟨rfl, hp⟩ := hp
    exact (AWE.ret_end (is := is) (hr r t σ' m' hf hp)) _ _ _ _ _ hs'

/-! ### ends -/
theorem AWE.exit_end {id : Nat} {Q : Post} : ∀ {is : List It}, hasBlk id is = false → Q (.exit id) σ m → AWE P C is (.exit id) σ m Q
  | [], _, h => AWE.nil h
  | .code c :: is, hb, h => AWE.exit_code (AWE.exit_end (is := is) hb h)
  | .blk i :: is, hb, h => by
    unfold hasBlk at hb
    rw [Bool.or_eq_false_iff] at hb
    exact AWE.exit_miss (Ne.symm (Nat.ne_of_beq_eq_false hb.1)) (AWE.exit_end (is := is) hb.2 h)
theorem AWR.exit_end {id : Nat} {t : τ} (hb : hasBlk id is = false) (h : K t (.exit id) σ m) : AWR P C (.code (.exit id) :: is) σ m (some t) K := AWR.exit_out (AWE.exit_end hb h)

/-- how a function ends -/
def FPost {ρ : Type} (P : Program) (res : List ResultVar) (us : Mem) (X : List Nat) (rs : ρ → List SV) (dfs : ρ → Mem) : ρ → Post := fun t e σ m =>
  (e = .normal ∨ e = .ret) ∧ RvL P σ m res (rs t) ∧ LkL m (dfs t) ∧ subL (keys us) (keys (dfs t)) = true ∧ subL X (keys (dfs t)) = true ∧ PermA (resA (rs t)) ∧ (∀ p ∈ dfs t, PermO p.2) ∧ okA (keys us ++ X) (resA (rs t)) = true ∧
    (dfs t).all (fun p => (keys us ++ X).elem p.1 && okO (keys us ++ X) p.2) = true

def PermPL : List PV → Prop
  | [] => True
  | p :: r => PermP p ∧ PermPL r
theorem PermPL.spec : ∀ {l : List PV}, PermPL l → ∀ p ∈ l, PermP p
  | [], _, p, hp => by cases hp
  | q :: r, h, p, hp => by
    cases hp with
    | head => exact h.1
    | tail _ hp => exact PermPL.spec h.2 p hp
def PermCL : List CV → Prop
  | [] => True
  | p :: r => PermC p ∧ PermCL r
theorem PermCL.spec : ∀ {l : List CV}, PermCL l → ∀ p ∈ l, PermC p
  | [], _, p, hp => by cases hp
  | q :: r, h, p, hp => by
    cases hp with
    | head => exact h.1
    | tail _ hp => exact PermCL.spec h.2 p hp
def PermSV : SV → Prop
  | .c x => PermC x
  | .agg cs => PermCL cs
theorem PermSV.spec {x : SV} (h : PermSV x) : PermS x := by
  cases x with
  | c x => exact h
  | agg cs => exact PermCL.spec h
def PermSL : List SV → Prop
  | [] => True
  | x :: r => PermSV x ∧ PermSL r
theorem PermSL.spec : ∀ {l : List SV}, PermSL l → ∀ p ∈ l, PermS p
  | [], _, p, hp => by cases hp
  | q :: r, h, p, hp => by
    cases hp with
    | head => exact h.1.spec
    | tail _ hp => exact PermSL.spec h.2 p hp
theorem PermSL.res {l : List SV} (h : PermSL l) : PermA (resA l) := by
  match l, h with
  | [], _ => intro x hx; cases hx
  | [x], h => exact h.1.spec
  | x :: y :: r, h => exact PermSL.spec h
def PermL : Mem → Prop
  | [] => True
  | (_, o) :: r => PermO o ∧ PermL r
theorem PermL.spec : ∀ {df : Mem}, PermL df → ∀ p ∈ df, PermO p.2
  | [], _, p, hp => by cases hp
  | (n, o) :: r, h, p, hp => by
    cases hp with
    | head => exact h.1
    | tail _ hp => exact PermL.spec h.2 p hp
theorem PermO.prow' {α : Type} {enc : α → List PV} {e : TypeId} {xs : List α} (h : ∀ a, PermPL (enc a)) : PermO (.prow e (xs.map enc)) := fun cs hcs p hp => by
  obtain ⟨a, _, rfl⟩ := List.mem_map.1 hcs
  exact (h a).spec p hp
theorem permC_xs {α : Type} {enc : α → List PV} {xs : List α} (h : ∀ a, PermPL (enc a)) : PermC (.pv (.xs true (xs.map enc))) := PermP.xs fun cs hcs p hp => by
  obtain ⟨a, _, rfl⟩ := List.mem_map.1 hcs
  exact (h a).spec p hp
theorem infS {t : TypeId} (h : (P.info? t).isSome = true) : P.info? t = some ((P.info? t).get h) := (Option.some_get h).symm

theorem FPost.mk {ρ : Type} {res : List ResultVar} {us : Mem} {X : List Nat} {rs : ρ → List SV} {dfs : ρ → Mem} {t : ρ} {e : Exit} (he : e = .normal ∨ e = .ret) (h1 : RvL P σ m res (rs t)) (h2 : LkL m (dfs t))
    (hside : (subL (keys us) (keys (dfs t)) && subL X (keys (dfs t)) && okA (keys us ++ X) (resA (rs t)) && (dfs t).all (fun p => (keys us ++ X).elem p.1 && okO (keys us ++ X) p.2)) = true) (h3 : PermSL (rs t)) (h4 : PermL (dfs t)) :
    FPost P res us X rs dfs t e σ m := by
  simp only [Bool.and_eq_true] at hside
  obtain ⟨⟨⟨a1, a2⟩, a3⟩, a4⟩ := hside
  exact ⟨he, h1, h2, a1, a2, h3.res, h4.spec, a3, a4⟩
theorem FPost.ret {ρ : Type} {res : List ResultVar} {us : Mem} {X : List Nat} {rs : ρ → List SV} {dfs : ρ → Mem} {t : ρ} {e : Exit} {σ : Slots} {m : Mem} (h : FPost P res us X rs dfs t .ret σ m) : FPost P res us X rs dfs t .ret σ m := h

theorem Fn.of {f : FuncId} {fn : Func} {c : Code} {args : List SV} {us : Mem} {pn X : List Nat} {N : Nat} {ρ : Type} {M : Option ρ} {rs : ρ → List SV} {dfs : ρ → Mem} (hf : P.funcs[f]? = some fn) (hb : fn.body = some c) (hN : fn.ntmps = N)
    (hargs : args.length ≤ N) (hside : (subL (keys us) (pn ++ X) && disL X pn && subL pn (keys us)) = true)
    (h : ∀ w0 U0 R0 g0, AWR P ⟨w0, U0, R0, g0, N, pn⟩ [.code c] (argSl 0 args) us M (FPost P fn.results.toList us X rs dfs)) : ∀ t, M = some t → Fn P f args us (resA (rs t)) (dfs t) (keys us) X :=
  Fn.of_body (df := []) hf hb hN hargs hside fun w0 U0 R0 g0 _ => h w0 U0 R0 g0
/-- the same, with what the objects told at the beginning are -/
theorem Fn.ofU {f : FuncId} {fn : Func} {c : Code} {args : List SV} {us : Mem} {pn X : List Nat} {N : Nat} {ρ : Type} {M : Option ρ} {rs : ρ → List SV} {dfs : ρ → Mem} (hf : P.funcs[f]? = some fn) (hb : fn.body = some c) (hN : fn.ntmps = N)
    (hargs : args.length ≤ N) (hside : (subL (keys us) (pn ++ X) && disL X pn && subL pn (keys us)) = true)
    (h : ∀ w0 U0 R0 g0, (∀ b, U0 b → ∃ n ∈ keys us, (g0 n).has b) → AWR P ⟨w0, U0, R0, g0, N, pn⟩ [.code c] (argSl 0 args) us M (FPost P fn.results.toList us X rs dfs)) : ∀ t, M = some t → Fn P f args us (resA (rs t)) (dfs t) (keys us) X :=
  Fn.of_body (df := []) hf hb hN hargs hside h
end

/-! ### other names -/
/-- names by a list; a name that it doesn't have is dead -/
def rn (ρ : List (Nat × Nat)) (n : Nat) : Nat := (lk ρ n).getD 0
def rnC (ρ : List (Nat × Nat)) : CV → CV
  | .loc n o l => .loc (rn ρ n) o l
  | .pl n o => .pl (rn ρ n) o
  | .fn f caps => .fn f (caps.map (rn ρ))
  | .mref n => .mref (rn ρ n)
  | .tl p k o l => .tl (rn ρ p) k o l
  | .tpl p k o => .tpl (rn ρ p) k o
  | x => x
def rnS (ρ : List (Nat × Nat)) : SV → SV
  | .c x => .c (rnC ρ x)
  | .agg cs => .agg (cs.map (rnC ρ))
def rnA (ρ : List (Nat × Nat)) : AV → AV
  | .s x => .s (rnS ρ x)
  | .tup xs => .tup (xs.map (rnS ρ))
def rnO (ρ : List (Nat × Nat)) : Ob → Ob
  | .row e els => .row e (els.map (·.map (rnC ρ)))
  | .prow e els => .prow e els
  | .mp es => .mp es
  | .pool e rows => .pool e rows
  | .trow e p lens => .trow e (rn ρ p) lens
  | .unk => .unk
def rnM (ρ : List (Nat × Nat)) (m : Mem) : Mem := m.map fun p => (rn ρ p.1, rnO ρ p.2)

section
variable {P : Program} {w : World} {R B : Nat → Prop} {g g' : Nat → GS} {ρ : List (Nat × Nat)}
theorem RC.rn {x : CV} {v : Value} (hz : okC (keys ρ) x = true) (hg : ∀ n ∈ keys ρ, g' (rn ρ n) = g n) (h : RC P w R B g x v) : RC P w R B g' (rnC ρ x) v := by
  refine ⟨h.1, ?_⟩
  have h2 := h.2
  cases x with
  | pv p => exact h2
  | px q cells => exact h2
  | loc n off len =>
    have hn := hg n (List.mem_of_elem_eq_true hz)
    rcases h2 with ⟨h3, h4⟩ | h3 | ⟨b, cap, cur, e, h3, h4⟩
    · exact .inl ⟨hn.trans h3, h4⟩
    · exact .inr (.inl h3)
    · exact .inr (.inr ⟨b, cap, cur, e, hn.trans h3, h4⟩)
  | pl n off =>
    obtain ⟨b, h3, h4⟩ := h2
    exact ⟨b, (hg n (List.mem_of_elem_eq_true hz)).trans h3, h4⟩
  | fn f caps =>
    obtain ⟨vs, h3, h4, h5⟩ := h2
    refine ⟨vs, h3, by simpa using h4, fun k n hk => ?_⟩
    rw [List.getElem?_map] at hk
    cases hc : caps[k]? with
    | none => rw [hc] at hk; cases hk
    | some n0 =>
      rw [hc] at hk
      injection hk with hk
      subst hk
      obtain ⟨b, h6, h7⟩ := h5 k n0 hc
      exact ⟨b, (hg n0 (List.mem_of_elem_eq_true (List.all_eq_true.1 hz n0 (List.mem_of_getElem? hc)))).trans h6, h7⟩
  | mref n =>
    obtain ⟨b, h3, h4⟩ := h2
    exact ⟨b, (hg n (List.mem_of_elem_eq_true hz)).trans h3, h4⟩
  | tl p k off len =>
    have hn := hg p (List.mem_of_elem_eq_true hz)
    rcases h2 with ⟨h3, h4⟩ | h3 | ⟨b, cap, cur, e, h3, h4⟩
    · exact .inl ⟨by rw [hn]; exact h3, h4⟩
    · exact .inr (.inl h3)
    · exact .inr (.inr ⟨b, cap, cur, e, by rw [hn]; exact h3, h4⟩)
  | tpl p k off =>
    obtain ⟨b, h3, h4⟩ := h2
    exact ⟨b, by rw [hg p (List.mem_of_elem_eq_true hz)]; exact h3, h4⟩
  | junk => trivial
theorem cells_rn {xs : List CV} {vs : List Value} (hz : xs.all (okC (keys ρ)) = true) (hg : ∀ n ∈ keys ρ, g' (Fw.rn ρ n) = g n) (h : ∀ (k : Nat) x, xs[k]? = some x → ∃ u, vs[k]? = some u ∧ RC P w R B g x u) :
    ∀ (k : Nat) x, (xs.map (rnC ρ))[k]? = some x → ∃ u, vs[k]? = some u ∧ RC P w R B g' x u := fun k x hk => by
  rw [List.getElem?_map] at hk
  cases hc : xs[k]? with
  | none => rw [hc] at hk; cases hk
  | some y =>
    rw [hc] at hk
    injection hk with hk
    subst hk
    obtain ⟨u, h4, h5⟩ := h k y hc
    exact ⟨u, h4, h5.rn (List.all_eq_true.1 hz y (List.mem_of_getElem? hc)) hg⟩
theorem RS.rn {x : SV} {v : Value} (hz : okS (keys ρ) x = true) (hg : ∀ n ∈ keys ρ, g' (Fw.rn ρ n) = g n) (h : RS P w R B g x v) : RS P w R B g' (rnS ρ x) v := by
  cases x with
  | c x => exact RC.rn hz hg h
  | agg cs =>
    obtain ⟨vs, h1, h2, h3⟩ := h
    exact ⟨vs, h1, by simpa using h2, cells_rn hz hg h3⟩
theorem RA.rn {x : AV} {v : Value} (hz : okA (keys ρ) x = true) (hg : ∀ n ∈ keys ρ, g' (Fw.rn ρ n) = g n) (h : RA P w R B g x v) : RA P w R B g' (rnA ρ x) v := by
  cases x with
  | s x => exact RS.rn hz hg h
  | tup xs =>
    obtain ⟨vs, h1, h2, h3⟩ := h
    refine ⟨vs, h1, by simpa using h2, fun k x hk => ?_⟩
    rw [List.getElem?_map] at hk
    cases hc : xs[k]? with
    | none => rw [hc] at hk; cases hk
    | some y =>
      rw [hc] at hk
      injection hk with hk
      subst hk
      obtain ⟨u, h4, h5⟩ := h3 k y hc
      exact ⟨u, h4, h5.rn (List.all_eq_true.1 hz y (List.mem_of_getElem? hc)) hg⟩
theorem pvs_rn (ρ : List (Nat × Nat)) (els : List (List PV)) : (pvs els).map (·.map (rnC ρ)) = pvs els := by simp [pvs, rnC, Function.comp_def]
theorem tcells_rn (ρ : List (Nat × Nat)) (p : Nat) (lens : List Nat) : (tcells p lens).map (·.map (rnC ρ)) = tcells (Fw.rn ρ p) lens := by
  refine List.ext_getElem? fun j => ?_
  simp only [tcells, List.getElem?_map, List.getElem?_mapIdx, Option.map_map]
  cases lens[j]? <;> simp [rnC]
theorem tcells_ok {zs : List Nat} {e : TypeId} {p : Nat} {lens : List Nat} (hz : okO zs (.trow e p lens) = true) : (tcells p lens).all (·.all (okC zs)) = true :=
  List.all_eq_true.2 fun cs hcs => by
    obtain ⟨j, l, rfl⟩ := mem_tcells hcs
    simpa [okC, okO] using hz
theorem ROw.rn {n : Nat} {e : TypeId} {els : List (List CV)} (hn : n ∈ keys ρ) (hz : els.all (·.all (okC (keys ρ))) = true) (hg : ∀ n ∈ keys ρ, g' (Fw.rn ρ n) = g n) (h : ROw P w R B g n e els) : ROw P w R B g' (Fw.rn ρ n) e (els.map (·.map (rnC ρ))) := by
  rcases h with ⟨h1, h2⟩ | ⟨b, cur, h1, h2, h3, h4, h5⟩
  · exact .inl ⟨(hg n hn).trans h1, by simp [h2]⟩
  · refine .inr ⟨b, cur, (hg n hn).trans h1, h2, fun cs hcs => ?_, by simpa using h4, fun j k cs x hj hk => ?_⟩
    · obtain ⟨c0, hc0, rfl⟩ := List.mem_map.1 hcs
      simpa using h3 c0 hc0
    · rw [List.getElem?_map] at hj
      cases hc : els[j]? with
      | none => rw [hc] at hj; cases hj
      | some cs0 =>
        rw [hc] at hj
        injection hj with hj
        subst hj
        rw [List.getElem?_map] at hk
        cases hc2 : cs0[k]? with
        | none => rw [hc2] at hk; cases hk
        | some y =>
          rw [hc2] at hk
          injection hk with hk
          subst hk
          obtain ⟨u, h6, h7⟩ := h5 j k cs0 y hc hc2
          exact ⟨u, h6, h7.rn (List.all_eq_true.1 (List.all_eq_true.1 hz cs0 (List.mem_of_getElem? hc)) y (List.mem_of_getElem? hc2)) hg⟩
theorem RO.rn {n : Nat} {o : Ob} (hn : n ∈ keys ρ) (hz : okO (keys ρ) o = true) (hg : ∀ n ∈ keys ρ, g' (Fw.rn ρ n) = g n) (h : RO P w R B g n o) : RO P w R B g' (Fw.rn ρ n) (rnO ρ o) := by
  cases o with
  | row e els => exact ROw.rn hn hz hg h
  | prow e els =>
    have := ROw.rn hn (by simp [pvs, List.all_eq_true, okC]) hg (els := pvs els) h
    rwa [pvs_rn] at this
  | mp es =>
    obtain ⟨b, ents, clock, h1, h2⟩ := h
    exact ⟨b, ents, clock, (hg n hn).trans h1, h2⟩
  | pool e rows =>
    obtain ⟨⟨bs, h1, h2⟩, h3⟩ := h
    exact ⟨⟨bs, (hg n hn).trans h1, h2⟩, by rw [hg n hn]; exact h3⟩
  | trow e p lens =>
    have := ROw.rn hn (tcells_ok hz) hg (els := tcells p lens) h
    rwa [tcells_rn] at this
  | unk => trivial

theorem rn_mem {n : Nat} (h : n ∈ keys ρ) : ∃ k, lk ρ n = some k ∧ (n, k) ∈ ρ := by
  induction ρ with
  | nil => simp [keys] at h
  | cons p r ih =>
    obtain ⟨a, b⟩ := p
    show ∃ k, (bif Nat.beq a n then some b else lk r n) = some k ∧ _
    cases hb : Nat.beq a n with
    | true => have := Nat.eq_of_beq_eq_true hb; subst this; exact ⟨b, rfl, List.mem_cons_self⟩
    | false =>
      have hne := Nat.ne_of_beq_eq_false hb
      have : n ∈ keys r := by
        simp [keys] at h
        rcases h with h | h
        · exact absurd h.symm hne
        · exact List.mem_map.2 (by simpa using h)
      obtain ⟨k, h1, h2⟩ := ih this
      exact ⟨k, h1, List.mem_cons_of_mem _ h2⟩

/-- no name twice -/
def nodup : List Nat → Bool
  | [] => true
  | n :: r => !r.elem n && nodup r
theorem nodup_inj : ∀ {ρ : List (Nat × Nat)}, nodup (ρ.map (·.2)) = true → ∀ p q, p ∈ ρ → q ∈ ρ → p.2 = q.2 → p = q
  | [], _, _, _, h, _, _ => by cases h
  | x :: r, hn, p, q, hp, hq, he => by
    unfold nodup at hn
    simp only [List.map_cons, Bool.and_eq_true, Bool.not_eq_true'] at hn
    have hx := notin_of_elem hn.1
    cases hp with
    | head =>
      cases hq with
      | head => rfl
      | tail _ hq => exact absurd (List.mem_map.2 ⟨q, hq, he.symm⟩) hx
    | tail _ hp =>
      cases hq with
      | head => exact absurd (List.mem_map.2 ⟨p, hp, he⟩) hx
      | tail _ hq => exact nodup_inj hn.2 p q hp hq he
theorem rn_inj (hn : nodup (ρ.map (·.2)) = true) {n k : Nat} (h1 : n ∈ keys ρ) (h2 : k ∈ keys ρ) (h : rn ρ n = rn ρ k) : n = k := by
  obtain ⟨a, ha, hma⟩ := rn_mem h1
  obtain ⟨b, hb, hmb⟩ := rn_mem h2
  unfold rn at h
  rw [ha, hb] at h
  have := nodup_inj hn _ _ hma hmb h
  injection this

theorem RC.un {x : CV} {v : Value} (hz : okC (keys ρ) x = true) (hg : ∀ n ∈ keys ρ, g' n = g (Fw.rn ρ n)) (h : RC P w R B g (rnC ρ x) v) : RC P w R B g' x v := by
  refine ⟨h.1, ?_⟩
  have h2 := h.2
  cases x with
  | pv p => exact h2
  | px q cells => exact h2
  | loc n off len =>
    have hn := hg n (List.mem_of_elem_eq_true hz)
    rcases h2 with ⟨h3, h4⟩ | h3 | ⟨b, cap, cur, e, h3, h4⟩
    · exact .inl ⟨hn.trans h3, h4⟩
    · exact .inr (.inl h3)
    · exact .inr (.inr ⟨b, cap, cur, e, hn.trans h3, h4⟩)
  | pl n off =>
    obtain ⟨b, h3, h4⟩ := h2
    exact ⟨b, (hg n (List.mem_of_elem_eq_true hz)).trans h3, h4⟩
  | fn f caps =>
    obtain ⟨vs, h3, h4, h5⟩ := h2
    refine ⟨vs, h3, by simpa using h4, fun k n hk => ?_⟩
    obtain ⟨b, h6, h7⟩ := h5 k (Fw.rn ρ n) (by rw [List.getElem?_map, hk]; rfl)
    exact ⟨b, (hg n (List.mem_of_elem_eq_true (List.all_eq_true.1 hz n (List.mem_of_getElem? hk)))).trans h6, h7⟩
  | mref n =>
    obtain ⟨b, h3, h4⟩ := h2
    exact ⟨b, (hg n (List.mem_of_elem_eq_true hz)).trans h3, h4⟩
  | tl p k off len =>
    have hn := hg p (List.mem_of_elem_eq_true hz)
    rcases h2 with ⟨h3, h4⟩ | h3 | ⟨b, cap, cur, e, h3, h4⟩
    · exact .inl ⟨by rw [hn]; exact h3, h4⟩
    · exact .inr (.inl h3)
    · exact .inr (.inr ⟨b, cap, cur, e, by rw [hn]; exact h3, h4⟩)
  | tpl p k off =>
    obtain ⟨b, h3, h4⟩ := h2
    exact ⟨b, by rw [hg p (List.mem_of_elem_eq_true hz)]; exact h3, h4⟩
  | junk => trivial
theorem cells_un {xs : List CV} {vs : List Value} (hz : xs.all (okC (keys ρ)) = true) (hg : ∀ n ∈ keys ρ, g' n = g (Fw.rn ρ n)) (h : ∀ (k : Nat) x, (xs.map (rnC ρ))[k]? = some x → ∃ u, vs[k]? = some u ∧ RC P w R B g x u) :
    ∀ (k : Nat) x, xs[k]? = some x → ∃ u, vs[k]? = some u ∧ RC P w R B g' x u := fun k x hk => by
  obtain ⟨u, h4, h5⟩ := h k (rnC ρ x) (by rw [List.getElem?_map, hk]; rfl)
  exact ⟨u, h4, h5.un (List.all_eq_true.1 hz x (List.mem_of_getElem? hk)) hg⟩
theorem RS.un {x : SV} {v : Value} (hz : okS (keys ρ) x = true) (hg : ∀ n ∈ keys ρ, g' n = g (Fw.rn ρ n)) (h : RS P w R B g (rnS ρ x) v) : RS P w R B g' x v := by
  cases x with
  | c x => exact RC.un hz hg h
  | agg cs =>
    obtain ⟨vs, h1, h2, h3⟩ := h
    exact ⟨vs, h1, by simpa using h2, cells_un hz hg h3⟩
theorem ROw.un {n : Nat} {e : TypeId} {els : List (List CV)} (hn : n ∈ keys ρ) (hz : els.all (·.all (okC (keys ρ))) = true) (hg : ∀ n ∈ keys ρ, g' n = g (Fw.rn ρ n)) (h : ROw P w R B g (Fw.rn ρ n) e (els.map (·.map (rnC ρ)))) : ROw P w R B g' n e els := by
  rcases h with ⟨h1, h2⟩ | ⟨b, cur, h1, h2, h3, h4, h5⟩
  · exact .inl ⟨(hg n hn).trans h1, by simpa using h2⟩
  · refine .inr ⟨b, cur, (hg n hn).trans h1, h2, fun cs hcs => ?_, by simpa using h4, fun j k cs x hj hk => ?_⟩
    · have := h3 (cs.map (rnC ρ)) (List.mem_map.2 ⟨cs, hcs, rfl⟩)
      simpa using this
    · obtain ⟨u, h6, h7⟩ := h5 j k (cs.map (rnC ρ)) (rnC ρ x) (by rw [List.getElem?_map, hj]; rfl) (by rw [List.getElem?_map, hk]; rfl)
      exact ⟨u, h6, h7.un (List.all_eq_true.1 (List.all_eq_true.1 hz cs (List.mem_of_getElem? hj)) x (List.mem_of_getElem? hk)) hg⟩
theorem RO.un {n : Nat} {o : Ob} (hn : n ∈ keys ρ) (hz : okO (keys ρ) o = true) (hg : ∀ n ∈ keys ρ, g' n = g (Fw.rn ρ n)) (h : RO P w R B g (Fw.rn ρ n) (rnO ρ o)) : RO P w R B g' n o := by
  cases o with
  | row e els => exact ROw.un hn hz hg h
  | prow e els => exact ROw.un hn (by simp [pvs, List.all_eq_true, okC]) hg (els := pvs els) (by rw [pvs_rn]; exact h)
  | mp es =>
    obtain ⟨b, ents, clock, h1, h2⟩ := h
    exact ⟨b, ents, clock, (hg n hn).trans h1, h2⟩
  | pool e rows =>
    obtain ⟨⟨bs, h1, h2⟩, h3⟩ := h
    exact ⟨⟨bs, (hg n hn).trans h1, h2⟩, by rw [hg n hn]; exact h3⟩
  | trow e p lens => exact ROw.un hn (tcells_ok hz) hg (els := tcells p lens) (by rw [tcells_rn]; exact h)
  | unk => trivial

/-- A contract under other names. -/
theorem Fn.ren {f : FuncId} {args : List SV} {us df : Mem} {v : AV} {W X : List Nat} (ρ : List (Nat × Nat)) (h : Fn P f args us v df W X)
    (hc : (nodup (ρ.map (·.2)) && args.all (okS (keys ρ)) && us.all (fun p => (keys ρ).elem p.1 && okO (keys ρ) p.2) && okA (keys ρ) v && df.all (fun p => (keys ρ).elem p.1 && okO (keys ρ) p.2) && subL W (keys ρ) && subL X (keys ρ)) = true) :
    Fn P f (args.map (rnS ρ)) (rnM ρ us) (rnA ρ v) (rnM ρ df) (W.map (rn ρ)) (X.map (rn ρ)) := by
  simp only [Bool.and_eq_true] at hc
  obtain ⟨⟨⟨⟨⟨⟨hnd, hargs⟩, hus⟩, hv⟩, hdf⟩, hW⟩, hX⟩ := hc
  have hWk := subL_spec hW
  have hXk := subL_spec hX
  intro R B g w vs hw hlen hvs hust
  classical
  let gc : Nat → GS := fun n => if n ∈ keys ρ then g (rn ρ n) else .dead
  have hgc : ∀ n ∈ keys ρ, gc n = g (rn ρ n) := fun n hn => if_pos hn
  have hgd : ∀ n, gc n ≠ .dead → n ∈ keys ρ := fun n h => by
    by_cases hn : n ∈ keys ρ
    · exact hn
    · exact absurd (if_neg hn) h
  have hgk : ∀ n b, (gc n).has b → n ∈ keys ρ := fun n b h => hgd n fun e => by rw [e] at h; exact h
  have hwc : WF R B gc w := ⟨hw.rb, hw.lt, fun n b hg => by
    have hn := hgk n b hg
    rw [hgc n hn] at hg
    exact hw.ownH _ b hg, fun n k b h1 h2 => by
    have hn := hgk n b h1
    have hk := hgk k b h2
    rw [hgc n hn] at h1
    rw [hgc k hk] at h2
    exact rn_inj hnd hn hk (hw.injH _ _ b h1 h2), fun n j k b h1 h2 => by
    have hn := hgd n fun e => by rw [e] at h1; cases h1
    rw [hgc n hn] at h1 h2
    exact hw.nd _ j k b h1 h2⟩
  refine (h R B gc w vs hwc (by simpa using hlen) (fun k x hk => ?_) (fun p hp => ?_)).mono fun e w' hp => ?_
  · obtain ⟨u, h1, h2⟩ := hvs k (rnS ρ x) (by rw [List.getElem?_map, hk]; rfl)
    exact ⟨u, h1, h2.un (List.all_eq_true.1 hargs x (List.mem_of_getElem? hk)) hgc⟩
  · have h1 := List.all_eq_true.1 hus p hp
    simp only [Bool.and_eq_true] at h1
    exact RO.un (List.mem_of_elem_eq_true h1.1) h1.2 hgc (hust (rn ρ p.1, rnO ρ p.2) (List.mem_map.2 ⟨p, hp, rfl⟩))
  · obtain ⟨u, R', B', g', rfl, had, hR, hvv, hdfv⟩ := hp
    let g2 : Nat → GS := fun n => if h : ∃ k, k ∈ keys ρ ∧ rn ρ k = n then g' h.choose else g n
    have hin : ∀ k ∈ keys ρ, g2 (rn ρ k) = g' k := fun k hk => by
      have hex : ∃ j, j ∈ keys ρ ∧ rn ρ j = rn ρ k := ⟨k, hk, rfl⟩
      show (if h : ∃ j, j ∈ keys ρ ∧ rn ρ j = rn ρ k then g' h.choose else g (rn ρ k)) = g' k
      rw [dif_pos hex]
      have := hex.choose_spec
      rw [rn_inj hnd this.1 hk this.2]
    have hout : ∀ n, (¬ ∃ k, k ∈ keys ρ ∧ rn ρ k = n) → g2 n = g n := fun n hn => dif_neg hn
    have hRsz : ∀ b, R' b → b < w'.heap.size := fun b hb => had.wf.lt b (had.wf.rb b hb)
    have hcross : ∀ n k b, (¬ ∃ k, k ∈ keys ρ ∧ rn ρ k = n) → k ∈ keys ρ → (g n).has b → (g' k).has b → False := fun n k b hn hk h1 h2 => by
      by_cases hkX : k ∈ X
      · rcases had.fresh k hkX b h2 with h3 | ⟨m, hm, h3⟩
        · exact absurd (hw.ownH n b h1).2 (by omega)
        · rw [hgc m (hWk m hm)] at h3
          exact hn ⟨m, hWk m hm, hw.injH _ _ b h3 h1⟩
      · rw [had.names k hkX, hgc k hk] at h2
        exact hn ⟨k, hk, hw.injH _ _ b h2 h1⟩
    have hwf : WF R' (fun b => B b ∨ R' b) g2 w' := by
      refine ⟨fun b hb => .inr hb, fun b hb => hb.elim (fun hb => Nat.lt_of_lt_of_le (hw.lt b hb) had.size) (hRsz b), fun n b hg => ?_, fun n k b hn hk => ?_, fun n i j b hi hj => ?_⟩
      · by_cases hn : ∃ k, k ∈ keys ρ ∧ rn ρ k = n
        · obtain ⟨k, hk, rfl⟩ := hn
          rw [hin k hk] at hg
          have h1 := had.wf.ownH k b hg
          exact ⟨fun hB => h1.1 (hB.elim (had.b b) (had.wf.rb b)), h1.2⟩
        · rw [hout n hn] at hg
          have h1 := hw.ownH n b hg
          refine ⟨fun hB => ?_, Nat.lt_of_lt_of_le h1.2 had.size⟩
          rcases hB with hB | hB
          · exact h1.1 hB
          · rcases hR b hB with h2 | h2
            · exact h1.1 (hw.rb b h2)
            · exact absurd h1.2 (by omega)
      · by_cases h1 : ∃ j, j ∈ keys ρ ∧ rn ρ j = n <;> by_cases h2 : ∃ j, j ∈ keys ρ ∧ rn ρ j = k
        · obtain ⟨n0, hn0, rfl⟩ := h1
          obtain ⟨k0, hk0, rfl⟩ := h2
          rw [hin n0 hn0] at hn
          rw [hin k0 hk0] at hk
          rw [had.wf.injH n0 k0 b hn hk]
        · obtain ⟨n0, hn0, rfl⟩ := h1
          rw [hin n0 hn0] at hn
          rw [hout k h2] at hk
          exact (hcross k n0 b h2 hn0 hk hn).elim
        · obtain ⟨k0, hk0, rfl⟩ := h2
          rw [hin k0 hk0] at hk
          rw [hout n h1] at hn
          exact (hcross n k0 b h1 hk0 hn hk).elim
        · rw [hout n h1] at hn
          rw [hout k h2] at hk
          exact hw.injH n k b hn hk
      · by_cases hn : ∃ k, k ∈ keys ρ ∧ rn ρ k = n
        · obtain ⟨k, hk, rfl⟩ := hn
          rw [hin k hk] at hi hj
          exact had.wf.nd k i j b hi hj
        · rw [hout n hn] at hi hj
          exact hw.nd n i j b hi hj
    have hadv : Adv R B g w (W.map (rn ρ)) (X.map (rn ρ)) R' (fun b => B b ∨ R' b) g2 w' := by
      refine ⟨hwf, had.r, fun b hb => .inl hb, had.os, had.tape, had.output, had.size, fun b hb hnW => had.heap b hb fun n hn => ?_, fun n hn => ?_, fun n hn b hb => ?_, fun n hnW hnX b cur e hg hh => ?_⟩
      · rw [hgc n (hWk n hn)]
        exact hnW _ (List.mem_map.2 ⟨n, hn, rfl⟩)
      · by_cases h1 : ∃ k, k ∈ keys ρ ∧ rn ρ k = n
        · obtain ⟨k, hk, rfl⟩ := h1
          rw [hin k hk, had.names k fun hkX => hn (List.mem_map.2 ⟨k, hkX, rfl⟩), hgc k hk]
        · exact hout n h1
      · obtain ⟨k, hkX, rfl⟩ := List.mem_map.1 hn
        rw [hin k (hXk k hkX)] at hb
        rcases had.fresh k hkX b hb with h3 | ⟨m, hm, h3⟩
        · exact .inl h3
        · rw [hgc m (hWk m hm)] at h3
          exact .inr ⟨rn ρ m, List.mem_map.2 ⟨m, hm, rfl⟩, h3⟩
      · obtain ⟨k, hkW, rfl⟩ := List.mem_map.1 hnW
        exact had.shape k hkW (fun hkX => hnX (List.mem_map.2 ⟨k, hkX, rfl⟩)) b cur e (by rw [hgc k (hWk k hkW)]; exact hg) hh
    refine ⟨u, R', _, g2, rfl, hadv, hR, hvv.rn hv hin, fun p hp => ?_⟩
    obtain ⟨q, hq, rfl⟩ := List.mem_map.1 hp
    have h1 := List.all_eq_true.1 hdf q hq
    simp only [Bool.and_eq_true] at h1
    exact RO.rn (List.mem_of_elem_eq_true h1.1) h1.2 hin (hdfv q hq)
end

end Go.Fw
