/- Parts of a proof that a law of the program holds: what the program computes, and why that is right. -/
import Derived.KernelRfl
import Derived.MapKept
import Derived.Carry
import Derived.ChangeMaps5
import Derived.Test.YteognanhfpbghaaGreatZFnBodies0
section
set_option linter.unusedVariables false
set_option linter.unusedSimpArgs false
set_option linter.unnecessarySimpa false
namespace Go.Fw
def idx {α : Type} (l : List α) (i : Int) : Option α := if 0 ≤ i then l[i.toNat]? else none
def lim (n : Nat) : Option Unit := if n ≤ LIM then some () else none
def lenOk (n : Int) : Option Unit := if 0 ≤ n ∧ n ≤ 2147483648 then some () else none
def nz (n : Int) : Option Unit := if n ≠ 0 then some () else none
def same (a b : Nat) : Option Unit := if a = b then some () else none
def nn (n : Int) : Option Unit := if 0 ≤ n then some () else none
def BIG : Nat := 18446744073709551616
theorem idx_nn {α : Type} {l : List α} {i : Int} {x : α} (h : idx l i = some x) : 0 ≤ i := by
  unfold idx at h; split at h
  · assumption
  · cases h
theorem idx_get {α : Type} {l : List α} {i : Int} {x : α} (h : idx l i = some x) : l[i.toNat]? = some x := by
  unfold idx at h; split at h
  · assumption
  · cases h
theorem idx_lt {α : Type} {l : List α} {i : Int} {x : α} (h : idx l i = some x) : i < l.length := by
  have h0 := idx_nn h
  have h1 := (List.getElem?_eq_some_iff.1 (idx_get h)).1
  omega
theorem lim_le {n : Nat} {u : Unit} (h : lim n = some u) : n ≤ LIM := by
  unfold lim at h; split at h
  · assumption
  · cases h
theorem lenOk_le {n : Int} {u : Unit} (h : lenOk n = some u) : 0 ≤ n ∧ n ≤ LIM := by
  unfold lenOk at h; split at h
  · assumption
  · cases h
theorem nz_ne {n : Int} {u : Unit} (h : nz n = some u) : n ≠ 0 := by
  unfold nz at h; split at h
  · assumption
  · cases h
theorem same_eq {a b : Nat} {u : Unit} (h : same a b = some u) : a = b := by
  unfold same at h; split at h
  · assumption
  · cases h
theorem nn_le {n : Int} {u : Unit} (h : nn n = some u) : 0 ≤ n := by
  unfold nn at h; split at h
  · assumption
  · cases h
section
variable {P : Program} {C : Ctx} {σ σ' : Slots} {m m' : Mem} {is : List It} {τ υ : Type} {M : Option τ} {K : τ → Post}
def SubS (σ' σ : Slots) : Prop := match σ' with
  | [] => True
  | (t, v) :: r => lk σ t = some v ∧ SubS r σ
def SubM (m' m : Mem) : Prop := match m' with
  | [] => True
  | (n, o) :: r => lk m n = some o ∧ SubM r m
theorem SubS.spec : ∀ {σ' : Slots}, SubS σ' σ → ∀ t v, lk σ' t = some v → lk σ t = some v
  | [], _, _, _, h => by cases h
  | (k, x) :: r, hs, t, v, h => by
    change (bif Nat.beq k t then some x else lk r t) = some v at h
    cases hb : Nat.beq k t with
    | true =>
      rw [hb, cond_true] at h
      injection h with h
      have := Nat.eq_of_beq_eq_true hb
      subst this
      subst h
      exact hs.1
    | false =>
      rw [hb, cond_false] at h
      exact SubS.spec hs.2 t v h
theorem SubM.spec : ∀ {m' : Mem}, SubM m' m → ∀ t v, lk m' t = some v → lk m t = some v
  | [], _, _, _, h => by cases h
  | (k, x) :: r, hs, t, v, h => by
    change (bif Nat.beq k t then some x else lk r t) = some v at h
    cases hb : Nat.beq k t with
    | true =>
      rw [hb, cond_true] at h
      injection h with h
      have := Nat.eq_of_beq_eq_true hb
      subst this
      subst h
      exact hs.1
    | false =>
      rw [hb, cond_false] at h
      exact SubM.spec hs.2 t v h
theorem Ent.of (h1 : SubS σ' σ) (h2 : SubM m' m) : Ent P C σ m σ' m' := fun R B g _ _ hs => ⟨R, B, g, hs.weak (SubS.spec h1) (SubM.spec h2)⟩
theorem Ent.refl : Ent P C σ m σ m := fun R B g _ _ hs => ⟨R, B, g, hs⟩
theorem Ent.trans {σ2 : Slots} {m2 : Mem} (h : Ent P C σ m σ' m') (k : Ent P C σ' m' σ2 m2) : Ent P C σ m σ2 m2 := fun R B g a w hs => by
  obtain ⟨R', B', g', hs'⟩ := h R B g a w hs
  exact k R' B' g' a w hs'
theorem AOR.ent {ops : Array Oper} {rest : List Oper} (h : Ent P C σ m σ' m') (k : AOR P C ops rest is σ' m' M K) : AOR P C ops rest is σ m M K := fun t ht R B g a w hs => by
  obtain ⟨R', B', g', hs'⟩ := h R B g a w hs
  exact k t ht R' B' g' a w hs'
def KL {σs β ρ : Type} (P : Program) (C : Ctx) (id : Nat) (S : σs → Slots × Mem) (Sb : β → Slots × Mem) (Kr : ρ → Post) : σs ⊕ (β ⊕ ρ) → Post := fun o e σ m => match o with
  | .inl s => e = .normal ∧ Ent P C σ m (S s).1 (S s).2
  | .inr (.inl b) => e = .exit id ∧ Ent P C σ m (Sb b).1 (Sb b).2
  | .inr (.inr r) => e = .ret ∧ Kr r .ret σ m
theorem AWR.loopR {σs β ρ : Type} {body : Code} {id : Nat} (bm : σs → Option (σs ⊕ (β ⊕ ρ))) (S : σs → Slots × Mem) (Sb : β → Slots × Mem) (Kr : ρ → Post) {f : β → Option τ} {gr : ρ → Option τ} {n : Nat} {s : σs}
    (hb : ∀ s, AWR P C [.code body] (S s).1 (S s).2 (bm s) (KL P C id S Sb Kr)) (h0 : Ent P C σ m (S s).1 (S s).2) (hid : hasBlk id is = true)
    (hl : ∀ b, loopM bm n s = some (.inl b) → AWR P C (dropTo id is) (Sb b).1 (Sb b).2 (f b) K) (hr : ∀ r t σ m, gr r = some t → Kr r .ret σ m → K t .ret σ m) :
    AWR P C (.code (.loop body) :: is) σ m ((loopM bm n s).bind (Sum.elim f gr)) K :=
  AWR.loop (Lv := fun o e σ m => match o with | .inl b => e = .exit id ∧ Ent P C σ m (Sb b).1 (Sb b).2 | .inr r => e = .ret ∧ Kr r .ret σ m) bm S
    (fun s t ht R B g a w hs => wp_mono (hb s t ht R B g a w hs) fun e a w he => by
      obtain ⟨σ', m', R', B', g', hs', hp⟩ := he
      refine ⟨σ', m', R', B', g', hs', ?_⟩
      rcases t with s' | b | r
      · exact hp
      · obtain ⟨rfl, hp⟩ := hp
        exact ⟨by simp, rfl, hp⟩
      · obtain ⟨rfl, hp⟩ := hp
        exact ⟨by simp, rfl, hp⟩) h0 (fun u e σ' m' hu hlv t ht => by
      rcases u with b | r
      · obtain ⟨rfl, hp⟩ := hlv
        exact AWE.exit_to hid (AWE.ent hp (hl b hu t ht))
      · obtain ⟨rfl, hp⟩ := hlv
        exact AWE.ret_end (hr r t σ' m' ht hp))
def KL1 {σs β : Type} (P : Program) (C : Ctx) (id : Nat) (S : σs → Slots × Mem) (Sb : β → Slots × Mem) : σs ⊕ β → Post := fun o e σ m => match o with
  | .inl s => e = .normal ∧ Ent P C σ m (S s).1 (S s).2
  | .inr b => e = .exit id ∧ Ent P C σ m (Sb b).1 (Sb b).2
theorem AWR.loop1 {σs β : Type} {body : Code} {id : Nat} (bm : σs → Option (σs ⊕ β)) (S : σs → Slots × Mem) (Sb : β → Slots × Mem) {f : β → Option τ} {n : Nat} {s : σs}
    (hb : ∀ s, AWR P C [.code body] (S s).1 (S s).2 (bm s) (KL1 P C id S Sb)) (h0 : Ent P C σ m (S s).1 (S s).2) (hid : hasBlk id is = true)
    (hl : ∀ b, loopM bm n s = some b → AWR P C (dropTo id is) (Sb b).1 (Sb b).2 (f b) K) : AWR P C (.code (.loop body) :: is) σ m ((loopM bm n s).bind f) K :=
  AWR.loop (Lv := fun b e σ m => e = .exit id ∧ Ent P C σ m (Sb b).1 (Sb b).2) bm S
    (fun s t ht R B g a w hs => wp_mono (hb s t ht R B g a w hs) fun e a w he => by
      obtain ⟨σ', m', R', B', g', hs', hp⟩ := he
      refine ⟨σ', m', R', B', g', hs', ?_⟩
      rcases t with s' | b
      · exact hp
      · obtain ⟨rfl, hp⟩ := hp
        exact ⟨by simp, rfl, hp⟩) h0 (fun u e σ' m' hu hlv t ht => by
      obtain ⟨rfl, hp⟩ := hlv
      exact AWE.exit_to hid (AWE.ent hp (hl u hu t ht)))
def KJ (P : Program) (C : Ctx) (S : υ → Slots × Mem) : υ → Post := fun u e σ m => e = .normal ∧ Ent P C σ m (S u).1 (S u).2
theorem AWR.joinK {c : Code} {M1 : Option υ} {f : υ → Option τ} (S : υ → Slots × Mem) (h1 : AWR P C [.code c] σ m M1 (KJ P C S)) (h2 : ∀ t, M1 = some t → AWR P C is (S t).1 (S t).2 (f t) K) : AWR P C (.code c :: is) σ m (M1.bind f) K :=
  AWR.join S h1 h2
def KJR {ρ : Type} (P : Program) (C : Ctx) (S : υ → Slots × Mem) (Kr : ρ → Post) : υ ⊕ ρ → Post := fun o e σ m => match o with
  | .inl u => e = .normal ∧ Ent P C σ m (S u).1 (S u).2
  | .inr r => e = .ret ∧ Kr r .ret σ m
theorem AWR.joinR {ρ : Type} {c : Code} {M1 : Option (υ ⊕ ρ)} {f : υ → Option τ} {gr : ρ → Option τ} (S : υ → Slots × Mem) (Kr : ρ → Post) (h1 : AWR P C [.code c] σ m M1 (KJR P C S Kr)) (h2 : ∀ t, M1 = some (.inl t) → AWR P C is (S t).1 (S t).2 (f t) K)
    (hr : ∀ r t σ m, gr r = some t → Kr r .ret σ m → K t .ret σ m) : AWR P C (.code c :: is) σ m (M1.bind (Sum.elim f gr)) K := fun t ht R B g a w hs => by
  obtain ⟨u, hu, hf⟩ := Option.bind_eq_some_iff.1 ht
  refine wp_mono (h1 u hu R B g a w hs) fun e a w he => ?_
  obtain ⟨σ', m', R', B', g', hs', hp⟩ := he
  rcases u with u | r
  · obtain ⟨rfl, hent⟩ := hp
    obtain ⟨R2, B2, g2, hs2⟩ := hent _ _ _ _ _ hs'
    exact h2 u hu t hf _ _ _ _ _ hs2
  · obtain ⟨rfl, hp⟩ := hp
    exact (AWE.ret_end (is := is) (hr r t σ' m' hf hp)) _ _ _ _ _ hs'
theorem AWE.exit_end {id : Nat} {Q : Post} : ∀ {is : List It}, hasBlk id is = false → Q (.exit id) σ m → AWE P C is (.exit id) σ m Q
  | [], _, h => AWE.nil h
  | .code c :: is, hb, h => AWE.exit_code (AWE.exit_end (is := is) hb h)
  | .blk i :: is, hb, h => by
    unfold hasBlk at hb
    rw [Bool.or_eq_false_iff] at hb
    exact AWE.exit_miss (Ne.symm (Nat.ne_of_beq_eq_false hb.1)) (AWE.exit_end (is := is) hb.2 h)
theorem AWR.exit_end {id : Nat} {t : τ} (hb : hasBlk id is = false) (h : K t (.exit id) σ m) : AWR P C (.code (.exit id) :: is) σ m (some t) K := AWR.exit_out (AWE.exit_end hb h)
def FPost {ρ : Type} (P : Program) (res : List ResultVar) (us : Mem) (X : List Nat) (rs : ρ → List SV) (dfs : ρ → Mem) : ρ → Post := fun t e σ m =>
  (e = .normal ∨ e = .ret) ∧ RvL P σ m res (rs t) ∧ LkL m (dfs t) ∧ subL (keys us) (keys (dfs t)) = true ∧ subL X (keys (dfs t)) = true ∧ PermA (resA (rs t)) ∧ (∀ p ∈ dfs t, PermO p.2) ∧ okA (keys us ++ X) (resA (rs t)) = true ∧
    (dfs t).all (fun p => (keys us ++ X).elem p.1 && okO (keys us ++ X) p.2) = true
def PermPL : List PV → Prop
  | [] => True
  | p :: r => PermP p ∧ PermPL r
theorem PermPL.spec : ∀ {l : List PV}, PermPL l → ∀ p ∈ l, PermP p
  | [], _, p, hp => by cases hp
  | q :: r, h, p, hp => by
    cases hp with
    | head => exact h.1
    | tail _ hp => exact PermPL.spec h.2 p hp
def PermCL : List CV → Prop
  | [] => True
  | p :: r => PermC p ∧ PermCL r
theorem PermCL.spec : ∀ {l : List CV}, PermCL l → ∀ p ∈ l, PermC p
  | [], _, p, hp => by cases hp
  | q :: r, h, p, hp => by
    cases hp with
    | head => exact h.1
    | tail _ hp => exact PermCL.spec h.2 p hp
def PermSV : SV → Prop
  | .c x => PermC x
  | .agg cs => PermCL cs
theorem PermSV.spec {x : SV} (h : PermSV x) : PermS x := by
  cases x with
  | c x => exact h
  | agg cs => exact PermCL.spec h
def PermSL : List SV → Prop
  | [] => True
  | x :: r => PermSV x ∧ PermSL r
theorem PermSL.spec : ∀ {l : List SV}, PermSL l → ∀ p ∈ l, PermS p
  | [], _, p, hp => by cases hp
  | q :: r, h, p, hp => by
    cases hp with
    | head => exact h.1.spec
    | tail _ hp => exact PermSL.spec h.2 p hp
theorem PermSL.res {l : List SV} (h : PermSL l) : PermA (resA l) := by
  match l, h with
  | [], _ => intro x hx; cases hx
  | [x], h => exact h.1.spec
  | x :: y :: r, h => exact PermSL.spec h
def PermL : Mem → Prop
  | [] => True
  | (_, o) :: r => PermO o ∧ PermL r
theorem PermL.spec : ∀ {df : Mem}, PermL df → ∀ p ∈ df, PermO p.2
  | [], _, p, hp => by cases hp
  | (n, o) :: r, h, p, hp => by
    cases hp with
    | head => exact h.1
    | tail _ hp => exact PermL.spec h.2 p hp
theorem PermO.prow' {α : Type} {enc : α → List PV} {e : TypeId} {xs : List α} (h : ∀ a, PermPL (enc a)) : PermO (.prow e (xs.map enc)) := fun cs hcs p hp => by
  obtain ⟨a, _, rfl⟩ := List.mem_map.1 hcs
  exact (h a).spec p hp
theorem permC_xs {α : Type} {enc : α → List PV} {xs : List α} (h : ∀ a, PermPL (enc a)) : PermC (.pv (.xs true (xs.map enc))) := PermP.xs fun cs hcs p hp => by
  obtain ⟨a, _, rfl⟩ := List.mem_map.1 hcs
  exact (h a).spec p hp
theorem infS {t : TypeId} (h : (P.info? t).isSome = true) : P.info? t = some ((P.info? t).get h) := (Option.some_get h).symm
theorem FPost.mk {ρ : Type} {res : List ResultVar} {us : Mem} {X : List Nat} {rs : ρ → List SV} {dfs : ρ → Mem} {t : ρ} {e : Exit} (he : e = .normal ∨ e = .ret) (h1 : RvL P σ m res (rs t)) (h2 : LkL m (dfs t))
    (hside : (subL (keys us) (keys (dfs t)) && subL X (keys (dfs t)) && okA (keys us ++ X) (resA (rs t)) && (dfs t).all (fun p => (keys us ++ X).elem p.1 && okO (keys us ++ X) p.2)) = true) (h3 : PermSL (rs t)) (h4 : PermL (dfs t)) :
    FPost P res us X rs dfs t e σ m := by
  simp only [Bool.and_eq_true] at hside
  obtain ⟨⟨⟨a1, a2⟩, a3⟩, a4⟩ := hside
  exact ⟨he, h1, h2, a1, a2, h3.res, h4.spec, a3, a4⟩
theorem FPost.ret {ρ : Type} {res : List ResultVar} {us : Mem} {X : List Nat} {rs : ρ → List SV} {dfs : ρ → Mem} {t : ρ} {e : Exit} {σ : Slots} {m : Mem} (h : FPost P res us X rs dfs t .ret σ m) : FPost P res us X rs dfs t .ret σ m := h
theorem Fn.of {f : FuncId} {fn : Func} {c : Code} {args : List SV} {us : Mem} {pn X : List Nat} {N : Nat} {ρ : Type} {M : Option ρ} {rs : ρ → List SV} {dfs : ρ → Mem} (hf : P.funcs[f]? = some fn) (hb : fn.body = some c) (hN : fn.ntmps = N)
    (hargs : args.length ≤ N) (hside : (subL (keys us) (pn ++ X) && disL X pn && subL pn (keys us)) = true)
    (h : ∀ w0 U0 R0 g0, AWR P ⟨w0, U0, R0, g0, N, pn⟩ [.code c] (argSl 0 args) us M (FPost P fn.results.toList us X rs dfs)) : ∀ t, M = some t → Fn P f args us (resA (rs t)) (dfs t) (keys us) X :=
  Fn.of_body (df := []) hf hb hN hargs hside fun w0 U0 R0 g0 _ => h w0 U0 R0 g0
theorem Fn.ofU {f : FuncId} {fn : Func} {c : Code} {args : List SV} {us : Mem} {pn X : List Nat} {N : Nat} {ρ : Type} {M : Option ρ} {rs : ρ → List SV} {dfs : ρ → Mem} (hf : P.funcs[f]? = some fn) (hb : fn.body = some c) (hN : fn.ntmps = N)
    (hargs : args.length ≤ N) (hside : (subL (keys us) (pn ++ X) && disL X pn && subL pn (keys us)) = true)
    (h : ∀ w0 U0 R0 g0, (∀ b, U0 b → ∃ n ∈ keys us, (g0 n).has b) → AWR P ⟨w0, U0, R0, g0, N, pn⟩ [.code c] (argSl 0 args) us M (FPost P fn.results.toList us X rs dfs)) : ∀ t, M = some t → Fn P f args us (resA (rs t)) (dfs t) (keys us) X :=
  Fn.of_body (df := []) hf hb hN hargs hside h
end
def rn (ρ : List (Nat × Nat)) (n : Nat) : Nat := (lk ρ n).getD 0
def rnC (ρ : List (Nat × Nat)) : CV → CV
  | .loc n o l => .loc (rn ρ n) o l
  | .pl n o => .pl (rn ρ n) o
  | .fn f caps => .fn f (caps.map (rn ρ))
  | .mref n => .mref (rn ρ n)
  | .tl p k o l => .tl (rn ρ p) k o l
  | .tpl p k o => .tpl (rn ρ p) k o
  | x => x
def rnS (ρ : List (Nat × Nat)) : SV → SV
  | .c x => .c (rnC ρ x)
  | .agg cs => .agg (cs.map (rnC ρ))
def rnA (ρ : List (Nat × Nat)) : AV → AV
  | .s x => .s (rnS ρ x)
  | .tup xs => .tup (xs.map (rnS ρ))
def rnO (ρ : List (Nat × Nat)) : Ob → Ob
  | .row e els => .row e (els.map (·.map (rnC ρ)))
  | .prow e els => .prow e els
  | .mp es => .mp es
  | .pool e rows => .pool e rows
  | .trow e p lens => .trow e (rn ρ p) lens
  | .unk => .unk
def rnM (ρ : List (Nat × Nat)) (m : Mem) : Mem := m.map fun p => (rn ρ p.1, rnO ρ p.2)
section
variable {P : Program} {w : World} {R B : Nat → Prop} {g g' : Nat → GS} {ρ : List (Nat × Nat)}
theorem RC.rn {x : CV} {v : Value} (hz : okC (keys ρ) x = true) (hg : ∀ n ∈ keys ρ, g' (rn ρ n) = g n) (h : RC P w R B g x v) : RC P w R B g' (rnC ρ x) v := by
  refine ⟨h.1, ?_⟩
  have h2 := h.2
  cases x with
  | pv p => exact h2
  | px q cells => exact h2
  | loc n off len =>
    have hn := hg n (List.mem_of_elem_eq_true hz)
    rcases h2 with ⟨h3, h4⟩ | h3 | ⟨b, cap, cur, e, h3, h4⟩
    · exact .inl ⟨hn.trans h3, h4⟩
    · exact .inr (.inl h3)
    · exact .inr (.inr ⟨b, cap, cur, e, hn.trans h3, h4⟩)
  | pl n off =>
    obtain ⟨b, h3, h4⟩ := h2
    exact ⟨b, (hg n (List.mem_of_elem_eq_true hz)).trans h3, h4⟩
  | fn f caps =>
    obtain ⟨vs, h3, h4, h5⟩ := h2
    refine ⟨vs, h3, by simpa using h4, fun k n hk => ?_⟩
    rw [List.getElem?_map] at hk
    cases hc : caps[k]? with
    | none => rw [hc] at hk; cases hk
    | some n0 =>
      rw [hc] at hk
      injection hk with hk
      subst hk
      obtain ⟨b, h6, h7⟩ := h5 k n0 hc
      exact ⟨b, (hg n0 (List.mem_of_elem_eq_true (List.all_eq_true.1 hz n0 (List.mem_of_getElem? hc)))).trans h6, h7⟩
  | mref n =>
    obtain ⟨b, h3, h4⟩ := h2
    exact ⟨b, (hg n (List.mem_of_elem_eq_true hz)).trans h3, h4⟩
  | tl p k off len =>
    have hn := hg p (List.mem_of_elem_eq_true hz)
    rcases h2 with ⟨h3, h4⟩ | h3 | ⟨b, cap, cur, e, h3, h4⟩
    · exact .inl ⟨by rw [hn]; exact h3, h4⟩
    · exact .inr (.inl h3)
    · exact .inr (.inr ⟨b, cap, cur, e, by rw [hn]; exact h3, h4⟩)
  | tpl p k off =>
    obtain ⟨b, h3, h4⟩ := h2
    exact ⟨b, by rw [hg p (List.mem_of_elem_eq_true hz)]; exact h3, h4⟩
  | junk => trivial
theorem cells_rn {xs : List CV} {vs : List Value} (hz : xs.all (okC (keys ρ)) = true) (hg : ∀ n ∈ keys ρ, g' (Fw.rn ρ n) = g n) (h : ∀ (k : Nat) x, xs[k]? = some x → ∃ u, vs[k]? = some u ∧ RC P w R B g x u) :
    ∀ (k : Nat) x, (xs.map (rnC ρ))[k]? = some x → ∃ u, vs[k]? = some u ∧ RC P w R B g' x u := fun k x hk => by
  rw [List.getElem?_map] at hk
  cases hc : xs[k]? with
  | none => rw [hc] at hk; cases hk
  | some y =>
    rw [hc] at hk
    injection hk with hk
    subst hk
    obtain ⟨u, h4, h5⟩ := h k y hc
    exact ⟨u, h4, h5.rn (List.all_eq_true.1 hz y (List.mem_of_getElem? hc)) hg⟩
theorem RS.rn {x : SV} {v : Value} (hz : okS (keys ρ) x = true) (hg : ∀ n ∈ keys ρ, g' (Fw.rn ρ n) = g n) (h : RS P w R B g x v) : RS P w R B g' (rnS ρ x) v := by
  cases x with
  | c x => exact RC.rn hz hg h
  | agg cs =>
    obtain ⟨vs, h1, h2, h3⟩ := h
    exact ⟨vs, h1, by simpa using h2, cells_rn hz hg h3⟩
theorem RA.rn {x : AV} {v : Value} (hz : okA (keys ρ) x = true) (hg : ∀ n ∈ keys ρ, g' (Fw.rn ρ n) = g n) (h : RA P w R B g x v) : RA P w R B g' (rnA ρ x) v := by
  cases x with
  | s x => exact RS.rn hz hg h
  | tup xs =>
    obtain ⟨vs, h1, h2, h3⟩ := h
    refine ⟨vs, h1, by simpa using h2, fun k x hk => ?_⟩
    rw [List.getElem?_map] at hk
    cases hc : xs[k]? with
    | none => rw [hc] at hk; cases hk
    | some y =>
      rw [hc] at hk
      injection hk with hk
      subst hk
      obtain ⟨u, h4, h5⟩ := h3 k y hc
      exact ⟨u, h4, h5.rn (List.all_eq_true.1 hz y (List.mem_of_getElem? hc)) hg⟩
theorem pvs_rn (ρ : List (Nat × Nat)) (els : List (List PV)) : (pvs els).map (·.map (rnC ρ)) = pvs els := by simp [pvs, rnC, Function.comp_def]
theorem tcells_rn (ρ : List (Nat × Nat)) (p : Nat) (lens : List Nat) : (tcells p lens).map (·.map (rnC ρ)) = tcells (Fw.rn ρ p) lens := by
  refine List.ext_getElem? fun j => ?_
  simp only [tcells, List.getElem?_map, List.getElem?_mapIdx, Option.map_map]
  cases lens[j]? <;> simp [rnC]
theorem tcells_ok {zs : List Nat} {e : TypeId} {p : Nat} {lens : List Nat} (hz : okO zs (.trow e p lens) = true) : (tcells p lens).all (·.all (okC zs)) = true :=
  List.all_eq_true.2 fun cs hcs => by
    obtain ⟨j, l, rfl⟩ := mem_tcells hcs
    simpa [okC, okO] using hz
theorem ROw.rn {n : Nat} {e : TypeId} {els : List (List CV)} (hn : n ∈ keys ρ) (hz : els.all (·.all (okC (keys ρ))) = true) (hg : ∀ n ∈ keys ρ, g' (Fw.rn ρ n) = g n) (h : ROw P w R B g n e els) : ROw P w R B g' (Fw.rn ρ n) e (els.map (·.map (rnC ρ))) := by
  rcases h with ⟨h1, h2⟩ | ⟨b, cur, h1, h2, h3, h4, h5⟩
  · exact .inl ⟨(hg n hn).trans h1, by simp [h2]⟩
  · refine .inr ⟨b, cur, (hg n hn).trans h1, h2, fun cs hcs => ?_, by simpa using h4, fun j k cs x hj hk => ?_⟩
    · obtain ⟨c0, hc0, rfl⟩ := List.mem_map.1 hcs
      simpa using h3 c0 hc0
    · rw [List.getElem?_map] at hj
      cases hc : els[j]? with
      | none => rw [hc] at hj; cases hj
      | some cs0 =>
        rw [hc] at hj
        injection hj with hj
        subst hj
        rw [List.getElem?_map] at hk
        cases hc2 : cs0[k]? with
        | none => rw [hc2] at hk; cases hk
        | some y =>
          rw [hc2] at hk
          injection hk with hk
          subst hk
          obtain ⟨u, h6, h7⟩ := h5 j k cs0 y hc hc2
          exact ⟨u, h6, h7.rn (List.all_eq_true.1 (List.all_eq_true.1 hz cs0 (List.mem_of_getElem? hc)) y (List.mem_of_getElem? hc2)) hg⟩
theorem RO.rn {n : Nat} {o : Ob} (hn : n ∈ keys ρ) (hz : okO (keys ρ) o = true) (hg : ∀ n ∈ keys ρ, g' (Fw.rn ρ n) = g n) (h : RO P w R B g n o) : RO P w R B g' (Fw.rn ρ n) (rnO ρ o) := by
  cases o with
  | row e els => exact ROw.rn hn hz hg h
  | prow e els =>
    have := ROw.rn hn (by simp [pvs, List.all_eq_true, okC]) hg (els := pvs els) h
    rwa [pvs_rn] at this
  | mp es =>
    obtain ⟨b, ents, clock, h1, h2⟩ := h
    exact ⟨b, ents, clock, (hg n hn).trans h1, h2⟩
  | pool e rows =>
    obtain ⟨⟨bs, h1, h2⟩, h3⟩ := h
    exact ⟨⟨bs, (hg n hn).trans h1, h2⟩, by rw [hg n hn]; exact h3⟩
  | trow e p lens =>
    have := ROw.rn hn (tcells_ok hz) hg (els := tcells p lens) h
    rwa [tcells_rn] at this
  | unk => trivial
theorem rn_mem {n : Nat} (h : n ∈ keys ρ) : ∃ k, lk ρ n = some k ∧ (n, k) ∈ ρ := by
  induction ρ with
  | nil => simp [keys] at h
  | cons p r ih =>
    obtain ⟨a, b⟩ := p
    show ∃ k, (bif Nat.beq a n then some b else lk r n) = some k ∧ _
    cases hb : Nat.beq a n with
    | true => have := Nat.eq_of_beq_eq_true hb; subst this; exact ⟨b, rfl, List.mem_cons_self⟩
    | false =>
      have hne := Nat.ne_of_beq_eq_false hb
      have : n ∈ keys r := by
        simp [keys] at h
        rcases h with h | h
        · exact absurd h.symm hne
        · exact List.mem_map.2 (by simpa using h)
      obtain ⟨k, h1, h2⟩ := ih this
      exact ⟨k, h1, List.mem_cons_of_mem _ h2⟩
def nodup : List Nat → Bool
  | [] => true
  | n :: r => !r.elem n && nodup r
theorem nodup_inj : ∀ {ρ : List (Nat × Nat)}, nodup (ρ.map (·.2)) = true → ∀ p q, p ∈ ρ → q ∈ ρ → p.2 = q.2 → p = q
  | [], _, _, _, h, _, _ => by cases h
  | x :: r, hn, p, q, hp, hq, he => by
    unfold nodup at hn
    simp only [List.map_cons, Bool.and_eq_true, Bool.not_eq_true'] at hn
    have hx := notin_of_elem hn.1
    cases hp with
    | head =>
      cases hq with
      | head => rfl
      | tail _ hq => exact absurd (List.mem_map.2 ⟨q, hq, he.symm⟩) hx
    | tail _ hp =>
      cases hq with
      | head => exact absurd (List.mem_map.2 ⟨p, hp, he⟩) hx
      | tail _ hq => exact nodup_inj hn.2 p q hp hq he
theorem rn_inj (hn : nodup (ρ.map (·.2)) = true) {n k : Nat} (h1 : n ∈ keys ρ) (h2 : k ∈ keys ρ) (h : rn ρ n = rn ρ k) : n = k := by
  obtain ⟨a, ha, hma⟩ := rn_mem h1
  obtain ⟨b, hb, hmb⟩ := rn_mem h2
  unfold rn at h
  rw [ha, hb] at h
  have := nodup_inj hn _ _ hma hmb h
  injection this
theorem RC.un {x : CV} {v : Value} (hz : okC (keys ρ) x = true) (hg : ∀ n ∈ keys ρ, g' n = g (Fw.rn ρ n)) (h : RC P w R B g (rnC ρ x) v) : RC P w R B g' x v := by
  refine ⟨h.1, ?_⟩
  have h2 := h.2
  cases x with
  | pv p => exact h2
  | px q cells => exact h2
  | loc n off len =>
    have hn := hg n (List.mem_of_elem_eq_true hz)
    rcases h2 with ⟨h3, h4⟩ | h3 | ⟨b, cap, cur, e, h3, h4⟩
    · exact .inl ⟨hn.trans h3, h4⟩
    · exact .inr (.inl h3)
    · exact .inr (.inr ⟨b, cap, cur, e, hn.trans h3, h4⟩)
  | pl n off =>
    obtain ⟨b, h3, h4⟩ := h2
    exact ⟨b, (hg n (List.mem_of_elem_eq_true hz)).trans h3, h4⟩
  | fn f caps =>
    obtain ⟨vs, h3, h4, h5⟩ := h2
    refine ⟨vs, h3, by simpa using h4, fun k n hk => ?_⟩
    obtain ⟨b, h6, h7⟩ := h5 k (Fw.rn ρ n) (by rw [List.getElem?_map, hk]; rfl)
    exact ⟨b, (hg n (List.mem_of_elem_eq_true (List.all_eq_true.1 hz n (List.mem_of_getElem? hk)))).trans h6, h7⟩
  | mref n =>
    obtain ⟨b, h3, h4⟩ := h2
    exact ⟨b, (hg n (List.mem_of_elem_eq_true hz)).trans h3, h4⟩
  | tl p k off len =>
    have hn := hg p (List.mem_of_elem_eq_true hz)
    rcases h2 with ⟨h3, h4⟩ | h3 | ⟨b, cap, cur, e, h3, h4⟩
    · exact .inl ⟨by rw [hn]; exact h3, h4⟩
    · exact .inr (.inl h3)
    · exact .inr (.inr ⟨b, cap, cur, e, by rw [hn]; exact h3, h4⟩)
  | tpl p k off =>
    obtain ⟨b, h3, h4⟩ := h2
    exact ⟨b, by rw [hg p (List.mem_of_elem_eq_true hz)]; exact h3, h4⟩
  | junk => trivial
theorem cells_un {xs : List CV} {vs : List Value} (hz : xs.all (okC (keys ρ)) = true) (hg : ∀ n ∈ keys ρ, g' n = g (Fw.rn ρ n)) (h : ∀ (k : Nat) x, (xs.map (rnC ρ))[k]? = some x → ∃ u, vs[k]? = some u ∧ RC P w R B g x u) :
    ∀ (k : Nat) x, xs[k]? = some x → ∃ u, vs[k]? = some u ∧ RC P w R B g' x u := fun k x hk => by
  obtain ⟨u, h4, h5⟩ := h k (rnC ρ x) (by rw [List.getElem?_map, hk]; rfl)
  exact ⟨u, h4, h5.un (List.all_eq_true.1 hz x (List.mem_of_getElem? hk)) hg⟩
theorem RS.un {x : SV} {v : Value} (hz : okS (keys ρ) x = true) (hg : ∀ n ∈ keys ρ, g' n = g (Fw.rn ρ n)) (h : RS P w R B g (rnS ρ x) v) : RS P w R B g' x v := by
  cases x with
  | c x => exact RC.un hz hg h
  | agg cs =>
    obtain ⟨vs, h1, h2, h3⟩ := h
    exact ⟨vs, h1, by simpa using h2, cells_un hz hg h3⟩
theorem ROw.un {n : Nat} {e : TypeId} {els : List (List CV)} (hn : n ∈ keys ρ) (hz : els.all (·.all (okC (keys ρ))) = true) (hg : ∀ n ∈ keys ρ, g' n = g (Fw.rn ρ n)) (h : ROw P w R B g (Fw.rn ρ n) e (els.map (·.map (rnC ρ)))) : ROw P w R B g' n e els := by
  rcases h with ⟨h1, h2⟩ | ⟨b, cur, h1, h2, h3, h4, h5⟩
  · exact .inl ⟨(hg n hn).trans h1, by simpa using h2⟩
  · refine .inr ⟨b, cur, (hg n hn).trans h1, h2, fun cs hcs => ?_, by simpa using h4, fun j k cs x hj hk => ?_⟩
    · have := h3 (cs.map (rnC ρ)) (List.mem_map.2 ⟨cs, hcs, rfl⟩)
      simpa using this
    · obtain ⟨u, h6, h7⟩ := h5 j k (cs.map (rnC ρ)) (rnC ρ x) (by rw [List.getElem?_map, hj]; rfl) (by rw [List.getElem?_map, hk]; rfl)
      exact ⟨u, h6, h7.un (List.all_eq_true.1 (List.all_eq_true.1 hz cs (List.mem_of_getElem? hj)) x (List.mem_of_getElem? hk)) hg⟩
theorem RO.un {n : Nat} {o : Ob} (hn : n ∈ keys ρ) (hz : okO (keys ρ) o = true) (hg : ∀ n ∈ keys ρ, g' n = g (Fw.rn ρ n)) (h : RO P w R B g (Fw.rn ρ n) (rnO ρ o)) : RO P w R B g' n o := by
  cases o with
  | row e els => exact ROw.un hn hz hg h
  | prow e els => exact ROw.un hn (by simp [pvs, List.all_eq_true, okC]) hg (els := pvs els) (by rw [pvs_rn]; exact h)
  | mp es =>
    obtain ⟨b, ents, clock, h1, h2⟩ := h
    exact ⟨b, ents, clock, (hg n hn).trans h1, h2⟩
  | pool e rows =>
    obtain ⟨⟨bs, h1, h2⟩, h3⟩ := h
    exact ⟨⟨bs, (hg n hn).trans h1, h2⟩, by rw [hg n hn]; exact h3⟩
  | trow e p lens => exact ROw.un hn (tcells_ok hz) hg (els := tcells p lens) (by rw [tcells_rn]; exact h)
  | unk => trivial
theorem Fn.ren {f : FuncId} {args : List SV} {us df : Mem} {v : AV} {W X : List Nat} (ρ : List (Nat × Nat)) (h : Fn P f args us v df W X)
    (hc : (nodup (ρ.map (·.2)) && args.all (okS (keys ρ)) && us.all (fun p => (keys ρ).elem p.1 && okO (keys ρ) p.2) && okA (keys ρ) v && df.all (fun p => (keys ρ).elem p.1 && okO (keys ρ) p.2) && subL W (keys ρ) && subL X (keys ρ)) = true) :
    Fn P f (args.map (rnS ρ)) (rnM ρ us) (rnA ρ v) (rnM ρ df) (W.map (rn ρ)) (X.map (rn ρ)) := by
  simp only [Bool.and_eq_true] at hc
  obtain ⟨⟨⟨⟨⟨⟨hnd, hargs⟩, hus⟩, hv⟩, hdf⟩, hW⟩, hX⟩ := hc
  have hWk := subL_spec hW
  have hXk := subL_spec hX
  intro R B g w vs hw hlen hvs hust
  classical
  let gc : Nat → GS := fun n => if n ∈ keys ρ then g (rn ρ n) else .dead
  have hgc : ∀ n ∈ keys ρ, gc n = g (rn ρ n) := fun n hn => if_pos hn
  have hgd : ∀ n, gc n ≠ .dead → n ∈ keys ρ := fun n h => by
    by_cases hn : n ∈ keys ρ
    · exact hn
    · exact absurd (if_neg hn) h
  have hgk : ∀ n b, (gc n).has b → n ∈ keys ρ := fun n b h => hgd n fun e => by rw [e] at h; exact h
  have hwc : WF R B gc w := ⟨hw.rb, hw.lt, fun n b hg => by
    have hn := hgk n b hg
    rw [hgc n hn] at hg
    exact hw.ownH _ b hg, fun n k b h1 h2 => by
    have hn := hgk n b h1
    have hk := hgk k b h2
    rw [hgc n hn] at h1
    rw [hgc k hk] at h2
    exact rn_inj hnd hn hk (hw.injH _ _ b h1 h2), fun n j k b h1 h2 => by
    have hn := hgd n fun e => by rw [e] at h1; cases h1
    rw [hgc n hn] at h1 h2
    exact hw.nd _ j k b h1 h2⟩
  refine (h R B gc w vs hwc (by simpa using hlen) (fun k x hk => ?_) (fun p hp => ?_)).mono fun e w' hp => ?_
  · obtain ⟨u, h1, h2⟩ := hvs k (rnS ρ x) (by rw [List.getElem?_map, hk]; rfl)
    exact ⟨u, h1, h2.un (List.all_eq_true.1 hargs x (List.mem_of_getElem? hk)) hgc⟩
  · have h1 := List.all_eq_true.1 hus p hp
    simp only [Bool.and_eq_true] at h1
    exact RO.un (List.mem_of_elem_eq_true h1.1) h1.2 hgc (hust (rn ρ p.1, rnO ρ p.2) (List.mem_map.2 ⟨p, hp, rfl⟩))
  · obtain ⟨u, R', B', g', rfl, had, hR, hvv, hdfv⟩ := hp
    let g2 : Nat → GS := fun n => if h : ∃ k, k ∈ keys ρ ∧ rn ρ k = n then g' h.choose else g n
    have hin : ∀ k ∈ keys ρ, g2 (rn ρ k) = g' k := fun k hk => by
      have hex : ∃ j, j ∈ keys ρ ∧ rn ρ j = rn ρ k := ⟨k, hk, rfl⟩
      show (if h : ∃ j, j ∈ keys ρ ∧ rn ρ j = rn ρ k then g' h.choose else g (rn ρ k)) = g' k
      rw [dif_pos hex]
      have := hex.choose_spec
      rw [rn_inj hnd this.1 hk this.2]
    have hout : ∀ n, (¬ ∃ k, k ∈ keys ρ ∧ rn ρ k = n) → g2 n = g n := fun n hn => dif_neg hn
    have hRsz : ∀ b, R' b → b < w'.heap.size := fun b hb => had.wf.lt b (had.wf.rb b hb)
    have hcross : ∀ n k b, (¬ ∃ k, k ∈ keys ρ ∧ rn ρ k = n) → k ∈ keys ρ → (g n).has b → (g' k).has b → False := fun n k b hn hk h1 h2 => by
      by_cases hkX : k ∈ X
      · rcases had.fresh k hkX b h2 with h3 | ⟨m, hm, h3⟩
        · exact absurd (hw.ownH n b h1).2 (by omega)
        · rw [hgc m (hWk m hm)] at h3
          exact hn ⟨m, hWk m hm, hw.injH _ _ b h3 h1⟩
      · rw [had.names k hkX, hgc k hk] at h2
        exact hn ⟨k, hk, hw.injH _ _ b h2 h1⟩
    have hwf : WF R' (fun b => B b ∨ R' b) g2 w' := by
      refine ⟨fun b hb => .inr hb, fun b hb => hb.elim (fun hb => Nat.lt_of_lt_of_le (hw.lt b hb) had.size) (hRsz b), fun n b hg => ?_, fun n k b hn hk => ?_, fun n i j b hi hj => ?_⟩
      · by_cases hn : ∃ k, k ∈ keys ρ ∧ rn ρ k = n
        · obtain ⟨k, hk, rfl⟩ := hn
          rw [hin k hk] at hg
          have h1 := had.wf.ownH k b hg
          exact ⟨fun hB => h1.1 (hB.elim (had.b b) (had.wf.rb b)), h1.2⟩
        · rw [hout n hn] at hg
          have h1 := hw.ownH n b hg
          refine ⟨fun hB => ?_, Nat.lt_of_lt_of_le h1.2 had.size⟩
          rcases hB with hB | hB
          · exact h1.1 hB
          · rcases hR b hB with h2 | h2
            · exact h1.1 (hw.rb b h2)
            · exact absurd h1.2 (by omega)
      · by_cases h1 : ∃ j, j ∈ keys ρ ∧ rn ρ j = n <;> by_cases h2 : ∃ j, j ∈ keys ρ ∧ rn ρ j = k
        · obtain ⟨n0, hn0, rfl⟩ := h1
          obtain ⟨k0, hk0, rfl⟩ := h2
          rw [hin n0 hn0] at hn
          rw [hin k0 hk0] at hk
          rw [had.wf.injH n0 k0 b hn hk]
        · obtain ⟨n0, hn0, rfl⟩ := h1
          rw [hin n0 hn0] at hn
          rw [hout k h2] at hk
          exact (hcross k n0 b h2 hn0 hk hn).elim
        · obtain ⟨k0, hk0, rfl⟩ := h2
          rw [hin k0 hk0] at hk
          rw [hout n h1] at hn
          exact (hcross n k0 b h1 hk0 hn hk).elim
        · rw [hout n h1] at hn
          rw [hout k h2] at hk
          exact hw.injH n k b hn hk
      · by_cases hn : ∃ k, k ∈ keys ρ ∧ rn ρ k = n
        · obtain ⟨k, hk, rfl⟩ := hn
          rw [hin k hk] at hi hj
          exact had.wf.nd k i j b hi hj
        · rw [hout n hn] at hi hj
          exact hw.nd n i j b hi hj
    have hadv : Adv R B g w (W.map (rn ρ)) (X.map (rn ρ)) R' (fun b => B b ∨ R' b) g2 w' := by
      refine ⟨hwf, had.r, fun b hb => .inl hb, had.os, had.tape, had.output, had.size, fun b hb hnW => had.heap b hb fun n hn => ?_, fun n hn => ?_, fun n hn b hb => ?_, fun n hnW hnX b cur e hg hh => ?_⟩
      · rw [hgc n (hWk n hn)]
        exact hnW _ (List.mem_map.2 ⟨n, hn, rfl⟩)
      · by_cases h1 : ∃ k, k ∈ keys ρ ∧ rn ρ k = n
        · obtain ⟨k, hk, rfl⟩ := h1
          rw [hin k hk, had.names k fun hkX => hn (List.mem_map.2 ⟨k, hkX, rfl⟩), hgc k hk]
        · exact hout n h1
      · obtain ⟨k, hkX, rfl⟩ := List.mem_map.1 hn
        rw [hin k (hXk k hkX)] at hb
        rcases had.fresh k hkX b hb with h3 | ⟨m, hm, h3⟩
        · exact .inl h3
        · rw [hgc m (hWk m hm)] at h3
          exact .inr ⟨rn ρ m, List.mem_map.2 ⟨m, hm, rfl⟩, h3⟩
      · obtain ⟨k, hkW, rfl⟩ := List.mem_map.1 hnW
        exact had.shape k hkW (fun hkX => hnX (List.mem_map.2 ⟨k, hkX, rfl⟩)) b cur e (by rw [hgc k (hWk k hkW)]; exact hg) hh
    refine ⟨u, R', _, g2, rfl, hadv, hR, hvv.rn hv hin, fun p hp => ?_⟩
    obtain ⟨q, hq, rfl⟩ := List.mem_map.1 hp
    have h1 := List.all_eq_true.1 hdf q hq
    simp only [Bool.and_eq_true] at h1
    exact RO.rn (List.mem_of_elem_eq_true h1.1) h1.2 hin (hdfv q hq)
end
end Go.Fw
end
section
set_option linter.unusedVariables false
set_option linter.unusedSimpArgs false
set_option linter.unnecessarySimpa false
namespace Go.Fw
section
variable {P : Program} {o : Oper} {α : Type} {enc : α → List PV}
theorem LT.tlenRO {x : Operand} {t e : TypeId} {q : Bool} {xs : List α} (ho : o.op = .call { callee := .builtin .len, args := #[x], argTypes := #[t] }) (ht : P.underlying t = some (.slice e)) :
    LT P o [(x, Cc (.pv (.xs q (xs.map enc))))] [] (Iv xs.length) [] [] [] := by
  have := LT.lenRO (P := P) (o := o) (q := q) (els := xs.map enc) ho ht
  rwa [List.length_map] at this
theorem LT.tindexRO {x y : Operand} {t e : TypeId} {i : Int} {q : Bool} {xs : List α} {b : α} (ho : o.op = .indexAddr t x y) (h : elB P t = some e) (hi : idx xs i = some b) (hs : szP P e = (enc b).length) :
    LT P o [(x, Cc (.pv (.xs q (xs.map enc)))), (y, Iv i)] [] (Cc (.px q (enc b))) [] [] [] :=
  LT.indexRO ho h (idx_nn hi) (by rw [List.getElem?_map, idx_get hi]; rfl) hs.symm
theorem LT.tindexLoc {x y : Operand} {t e : TypeId} {i : Int} {n len : Nat} {xs : List α} {b : α} (hl : len = xs.length) (ho : o.op = .indexAddr t x y) (h : elB P t = some e) (hi : idx xs i = some b) :
    LT P o [(x, Cc (.loc n 0 len)), (y, Iv i)] [(n, .prow e (xs.map enc))] (Cc (.pl n (i.toNat * szP P e))) [] [] [] := by
  subst hl
  exact LT.usP (LT.indexLoc ho h (idx_nn hi) (idx_lt hi))
theorem pvs_get {xs : List α} {i : Int} {b : α} (hi : idx xs i = some b) : (pvs (xs.map enc))[i.toNat]? = some ((enc b).map .pv) := by
  simp [pvs, List.getElem?_map, idx_get hi]
theorem LT.tload1 {x : Operand} {t e : TypeId} {n off k : Nat} {i : Int} {xs : List α} {b : α} {p : PV} (ho : o.op = .load t x) (h : agB P t = some false) (hi : idx xs i = some b) (hk : (enc b)[k]? = some p)
    (ha : off = i.toNat * szP P e + k) : LT P o [(x, Cc (.pl n off))] [(n, .prow e (xs.map enc))] (Cc (.pv p)) [] [] [] :=
  LT.usP (LT.loadPl1 ho h (pvs_get hi) (by rw [List.getElem?_map, hk]; rfl) ha)
theorem LT.tloadN {x : Operand} {t e : TypeId} {n off s : Nat} {i : Int} {xs : List α} {b : α} {it : TypeInfo} (ho : o.op = .load t x) (h : agB P t = some true) (hit : P.info? t = some it) (hs : szP P t = s) (hi : idx xs i = some b) (hl : (enc b).length = s)
    (ha : off = i.toNat * szP P e) : LT P o [(x, Cc (.pl n off))] [(n, .prow e (xs.map enc))] (Ag ((enc b).map .pv)) [] [] [] := by
  have hd : ((((enc b).map CV.pv).drop 0).take (szP P t)) = (enc b).map CV.pv := by
    rw [List.drop_zero, List.take_of_length_le]
    rw [List.length_map, hl, hs]; exact Nat.le_refl _
  have := LT.loadPlN (P := P) (o := o) (n := n) (e := e) (k := 0) ho h hit (pvs_get (enc := enc) hi) ha (by rw [hd, List.length_map, hl, hs])
  rw [hd] at this
  exact LT.usP this
theorem LT.bload1 {x : Operand} {t e : TypeId} {n off : Nat} {cs : List CV} {c : CV} (ho : o.op = .load t x) (h : agB P t = some false) (hk : cs[off]? = some c) : LT P o [(x, Cc (.pl n off))] [(n, .row e [cs])] (Cc c) [] [] [] :=
  LT.loadPl1 (j := 0) ho h rfl hk (by rw [Nat.zero_mul, Nat.zero_add])
theorem LT.bloadN {x : Operand} {t e : TypeId} {n off s : Nat} {cs out : List CV} {it : TypeInfo} (ho : o.op = .load t x) (h : agB P t = some true) (hit : P.info? t = some it) (hs : szP P t = s) (ho2 : (cs.drop off).take s = out) (hl : out.length = s) :
    LT P o [(x, Cc (.pl n off))] [(n, .row e [cs])] (Ag out) [] [] [] := by
  have hd : ((cs.drop off).take (szP P t)) = out := by rw [hs, ho2]
  have := LT.loadPlN (P := P) (o := o) (n := n) (off := off) (e := e) (els := [cs]) (j := 0) (k := off) ho h hit rfl (by rw [Nat.zero_mul, Nat.zero_add]) (by rw [hd, hl, hs])
  rwa [hd] at this
theorem LT.bstore {t e : TypeId} {n off s : Nat} {x y : Operand} {cs out : List CV} {v : SV} {it : TypeInfo} (ho : o.op = .store t x y) (hd : o.dst = none) (hit : P.info? t = some it) (hs : szP P t = s) (hl : (svCells v).length = s) (hk : off + s ≤ cs.length)
    (hout : ow cs off (svCells v) = out) : LT P o [(x, Cc (.pl n off)), (y, .s v)] [(n, .row e [cs])] (.tup []) [(n, .row e [out])] [n] [] := by
  have := LT.store (P := P) (o := o) (n := n) (off := off) (e := e) (els := [cs]) (j := 0) (k := off) ho hd hit hs hl rfl (by rw [Nat.zero_mul, Nat.zero_add]) hk
  subst hout
  exact this
theorem LT.tstore {t e : TypeId} {n off k s : Nat} {x y : Operand} {i : Int} {xs : List α} {b b' : α} {v : SV} {it : TypeInfo} (ho : o.op = .store t x y) (hd : o.dst = none) (hit : P.info? t = some it) (hs : szP P t = s) (hl : (svCells v).length = s) (hi : idx xs i = some b)
    (ha : off = i.toNat * szP P e + k) (hk : k + s ≤ (enc b).length) (hb : ow ((enc b).map .pv) k (svCells v) = (enc b').map .pv) :
    LT P o [(x, Cc (.pl n off)), (y, .s v)] [(n, .prow e (xs.map enc))] (.tup []) [(n, .prow e ((xs.set i.toNat b').map enc))] [n] [] := by
  have := LT.store (P := P) (o := o) (n := n) (off := off) (e := e) (els := pvs (xs.map enc)) ho hd hit hs hl (pvs_get hi) ha (by simpa using hk)
  have e1 : (pvs (xs.map enc)).set i.toNat (ow ((enc b).map .pv) k (svCells v)) = pvs ((xs.set i.toNat b').map enc) := by
    rw [hb]
    simp [pvs, List.map_set]
  rw [e1] at this
  exact LT.dfP (Y := []) (LT.usP (by rw [pvs_junk]; exact this))
section
variable {t e : TypeId} {x y : Operand} {n n2 len len2 : Nat} {xs ys : List α} {z : Value} {s by_ : Nat} {q : Bool}
theorem enc_len (h : ∀ a, (enc a).length = s) : ∀ cs ∈ ys.map enc, cs.length = s := fun cs hcs => by
  obtain ⟨a, _, rfl⟩ := List.mem_map.1 hcs
  exact h a
theorem LT.tappRO (hl : len = xs.length) (ho : o.op = .call { callee := .builtin .append, args := #[x, y], argTypes := #[t, t] }) (ht : P.underlying t = some (.slice e)) (hz : TI P e z s by_) (hzs : z.cells.size = s) (hs : 0 < s) (hb : by_ ≤ 65536)
    (hl2 : ∀ a, (enc a).length = s) (hlim : xs.length + ys.length ≤ LIM) :
    LT P o [(x, Cc (.loc n 0 len)), (y, Cc (.pv (.xs q (ys.map enc))))] [(n, .prow e (xs.map enc))] (Cc (.loc n 0 (xs ++ ys).length)) [(n, .prow e ((xs ++ ys).map enc))] [n] [n] := by
  subst hl
  have := LT.appP_RO (P := P) (o := o) (n := n) (q := q) (pels := xs.map enc) (pels2 := ys.map enc) ho ht hz hzs hs hb (enc_len hl2) (by simpa using hlim)
  rwa [List.length_map, List.length_map, ← List.map_append, ← List.length_append] at this
theorem LT.tappP (hl : len = xs.length) (hl2 : len2 = ys.length) (ho : o.op = .call { callee := .builtin .append, args := #[x, y], argTypes := #[t, t] }) (ht : P.underlying t = some (.slice e)) (hz : TI P e z s by_) (hzs : z.cells.size = s) (hs : 0 < s) (hb : by_ ≤ 65536)
    (hel : ∀ a, (enc a).length = s) (hlim : xs.length + ys.length ≤ LIM) :
    LT P o [(x, Cc (.loc n 0 len)), (y, Cc (.loc n2 0 len2))] [(n, .prow e (xs.map enc)), (n2, .prow e (ys.map enc))] (Cc (.loc n 0 (xs ++ ys).length)) [(n, .prow e ((xs ++ ys).map enc))] [n] [n] := by
  subst hl; subst hl2
  have := LT.appP_P (P := P) (o := o) (n := n) (n2 := n2) (pels := xs.map enc) (pels2 := ys.map enc) ho ht hz hzs hs hb (enc_len hel) (by simpa using hlim)
  rwa [List.length_map, List.length_map, ← List.map_append, ← List.length_append] at this
end
theorem LT.tbuildSlice {t e : TypeId} {len n : Nat} {parts : Array (Nat × Operand)} (ps : Parts) {z : Value} {s b : Nat} {zc : List CV} (xs : List α) (ho : o.op = .buildSlice t len parts) (hps : parts.toList = Parts.ops ps) (he : P.underlying t = some (.slice e)) (hz : TI P e z s b)
    (hzc : z.cells.toList.map sC = zc) (h1 : z.cells.toList.all (·.oneCell') = true) (hsz : zc.length = s) (hlen : xs.length = len) (hmax : len * s ≤ 16777216 ∧ 0 < s) (hel : ∀ a, (enc a).length = s)
    (hf : fillC (fun i => some (i * s, s)) ((List.range (len * s)).map fun i => zc.getD (i % s) .junk) (Parts.vals ps) = some (pvs (xs.map enc)).flatten) :
    LT P o (Parts.ins ps) [] (Cc (.loc n 0 xs.length)) [(n, .prow e (xs.map enc))] [] [n] := by
  have hlen' : (pvs (xs.map enc)).length = xs.length := by simp [pvs]
  have := LT.buildSlice (P := P) (o := o) (n := n) ps (els := pvs (xs.map enc)) ho hps he hz hzc h1 hsz (hlen'.trans hlen) hmax (by
    refine List.all_eq_true.2 fun cs hcs => ?_
    obtain ⟨c, hc, rfl⟩ := List.mem_map.1 hcs
    obtain ⟨a, _, rfl⟩ := List.mem_map.1 hc
    rw [List.length_map, hel a]
    exact Nat.beq_refl s) hf
  rw [hlen'] at this
  exact this.dfP
theorem LT.tmake {t e : TypeId} {n : Nat} {x y : Operand} {len : Int} {z : Value} {s b : Nat} {zc : List CV} (a : α) (ho : o.op = .makeSlice t x y) (he : P.underlying t = some (.slice e)) (hz : TI P e z s b)
    (hzc : z.cells.toList.map sC = zc) (h1 : z.cells.toList.all (·.oneCell') = true) (hsz : zc.length = s) (hs : 0 < s) (hb : b ≤ 65536) (hl : 0 ≤ len ∧ len ≤ LIM) (ha : (enc a).map .pv = zc) :
    LT P o [(x, Iv len), (y, Iv len)] [] (Cc (.loc n 0 (List.replicate len.toNat a).length)) [(n, .prow e ((List.replicate len.toNat a).map enc))] [] [n] := by
  have := LT.makeSlice (P := P) (o := o) (n := n) (x := x) (y := y) ho he hz hzc h1 hsz hs hb hl
  have e1 : List.replicate len.toNat zc = pvs ((List.replicate len.toNat a).map enc) := by simp [pvs, List.map_replicate, ha]
  have e2 : (List.replicate len.toNat zc).length = (List.replicate len.toNat a).length := by simp
  rw [e2, e1] at this
  exact this.dfP
theorem ShC.tloc {sh : Mem} {n len : Nat} {e : TypeId} {xs : List α} (hl : len = xs.length) (h : lk sh n = some (.prow e (xs.map enc))) : ShC sh (.loc n 0 len) (.pv (.xs false (xs.map enc))) := by
  subst hl
  have := ShC.loc h
  rwa [List.length_map] at this
def JunkL (X : List Nat) : Mem → Prop
  | [] => True
  | (_, o) :: r => junkO X o = o ∧ JunkL X r
theorem JunkL.spec {X : List Nat} : ∀ {us : Mem}, JunkL X us → ∀ p ∈ us, junkO X p.2 = p.2
  | [], _, p, hp => by cases hp
  | (n, o) :: r, h, p, hp => by
    cases hp with
    | head => exact h.1
    | tail _ hp => exact JunkL.spec h.2 p hp
theorem LT.callF {cf : Operand} {f : FuncId} {ops : Array Operand} {ts : Array TypeId} {xs ys : List SV} {us sh df : Mem} {v : AV} {W X : List Nat} (hf : Fn P f ys us v df W X)
    (ho : o.op = .call { callee := .value cf, args := ops, argTypes := ts }) (hb : callB P f = true) (hsh : ShA sh xs ys) (hlen : ops.size = xs.length)
    (hside : (disL (keys sh) (W ++ X ++ keys us ++ keys df ++ []) && subL W (keys us)) = true) (hus : JunkL (keys sh) us) : LT P o ((cf, Cc (.fn f [])) :: zipOps ops.toList xs) (us ++ sh) v df W X :=
  LT.call (caps := []) (by rw [List.map_nil, List.append_nil]; exact hf) ho hb hlen hsh hside hus.spec
end
section
variable {P : Program} {C : Ctx} {σ : Slots} {m : Mem}
theorem St.nilName {R B : Nat → Prop} {g : Nat → GS} {a : Act} {w : World} (hs : St P C σ m R B g a w) (n : Nat) (hn : n ∉ C.pn) (e : TypeId) : St P C (junkSl [n] σ) ((n, .prow e []) :: junkM [n] m) R B (upd g n .nil) a w := by
  have had : Adv R B g w [] [n] R B (upd g n .nil) w := by
    refine ⟨hs.wf.upd n _ (Nat.le_refl _) (fun b hb => hb.elim) (fun i j b hi => by cases hi), fun _ h => h, fun _ h => h, rfl, rfl, rfl, Nat.le_refl _, fun _ _ _ => rfl, fun k hk => upd_ne g _ (by simpa using hk), fun k hk b hb => ?_, fun k hk => by cases hk⟩
    · have : k = n := by simpa using hk
      subst this
      rw [upd_same] at hb; exact hb.elim
  exact hs.step (us := []) (df := [(n, .prow e [])]) (W := []) (X := [n]) (d := none) (v := .tup []) (u := undef) trivial (fun _ h => by cases h) (fun p hp => by
      have : p = (n, .prow e []) := by simpa using hp
      subst this; exact .inl (by simp)) rfl (fun k hk => by
      have : k = n := by simpa using hk
      subst this; exact hn) had (fun b hb => .inl hb) (fun h => by cases h) (one_ro (.inl ⟨upd_same .., rfl⟩))
def nilAt (n k : Nat) (cs : List CV) : List CV := cs.set k (.loc n 0 0)
theorem nilAt_rel {w : World} {R B : Nat → Prop} {g : Nat → GS} {n k : Nat} {cs : List CV} {us : Nat → Option Value} (hg : g n = .nil) (hk : cs[k]? = some (sC nilV)) (h : ∀ (j : Nat) x, cs[j]? = some x → ∃ u, us j = some u ∧ RC P w R B g x u) :
    ∀ (j : Nat) x, (nilAt n k cs)[j]? = some x → ∃ u, us j = some u ∧ RC P w R B g x u := fun j x hj => by
  unfold nilAt at hj
  rw [List.getElem?_set] at hj
  by_cases hkj : k = j
  · subst hkj
    have hlt : k < cs.length := (List.getElem?_eq_some_iff.1 hk).1
    rw [if_pos rfl, if_pos hlt] at hj
    injection hj with hj
    subst hj
    obtain ⟨u, h1, h2⟩ := h k _ hk
    obtain ⟨_, h2⟩ := h2
    cases h2
    exact ⟨nilV, h1, rfl, .inl ⟨hg, rfl, rfl, rfl⟩⟩
  · rw [if_neg hkj] at hj
    exact h j x hj
theorem junk_nil_at {n k : Nat} {cs : List CV} (h : cs[k]? = some (sC nilV)) : (cs.map (junkC [n]))[k]? = some (sC nilV) := by rw [List.getElem?_map, h]; rfl
theorem Ent.nilB (b k n : Nat) (e : TypeId) {t : TypeId} {cs : List CV} (hn : C.pn.elem n = false) (hbn : Nat.beq b n = false) (h : lk m b = some (.row t [cs])) (hk : cs[k]? = some (sC nilV)) :
    Ent P C σ m (junkSl [n] σ) ((b, .row t [nilAt n k (cs.map (junkC [n]))]) :: (n, .prow e []) :: junkM [n] m) := fun R B g a w hs => by
  have h1 := hs.nilName n (notin_of_elem hn) e
  have hne : b ≠ n := Nat.ne_of_beq_eq_false hbn
  have hlk : lk ((n, Ob.prow e []) :: junkM [n] m) b = some (.row t [cs.map (junkC [n])]) := by
    show (bif Nat.beq n b then some (Ob.prow e []) else lk (junkM [n] m) b) = _
    have hnb : Nat.beq n b = false := by
      cases hx : Nat.beq n b with
      | false => rfl
      | true => exact absurd (Nat.eq_of_beq_eq_true hx).symm hne
    rw [hnb, cond_false, lk_junkM', if_neg (by simpa using hne), h]
    rfl
  refine ⟨R, B, _, { h1 with ob := fun j o hj => ?_, ow := fun j o c hj hg => ?_ }⟩
  · change (bif Nat.beq b j then some (Ob.row t [nilAt n k (cs.map (junkC [n]))]) else lk ((n, Ob.prow e []) :: junkM [n] m) j) = some o at hj
    cases hb : Nat.beq b j with
    | false => rw [hb] at hj; exact h1.ob j o hj
    | true =>
      rw [hb, cond_true] at hj
      injection hj with hj
      subst hj
      have := Nat.eq_of_beq_eq_true hb
      subst this
      have h2 := h1.ob b _ hlk
      rcases h2 with ⟨_, h3⟩ | ⟨c, cur, h3, h4, h5, h6, h7⟩
      · cases h3
      · refine .inr ⟨c, cur, h3, h4, fun x hx => ?_, by simpa using h6, fun j k' x y hj hk' => ?_⟩
        · have : x = nilAt n k (cs.map (junkC [n])) := by simpa using hx
          subst this
          have := h5 (cs.map (junkC [n])) (by simp)
          simpa [nilAt] using this
        · cases j with
          | zero =>
            simp at hj
            subst hj
            exact nilAt_rel (us := fun k' => cur[0 * szP P t + k']?) (upd_same ..) (junk_nil_at hk) (fun q y hq => h7 0 q _ y rfl hq) k' y hk'
          | succ j => simp at hj
  · change (bif Nat.beq b j then some (Ob.row t [nilAt n k (cs.map (junkC [n]))]) else lk ((n, Ob.prow e []) :: junkM [n] m) j) = some o at hj
    cases hb : Nat.beq b j with
    | false => rw [hb] at hj; exact h1.ow j o c hj hg
    | true =>
      have := Nat.eq_of_beq_eq_true hb
      subst this
      exact h1.ow b _ c hlk hg
end
end Go.Fw
end
section
set_option linter.unusedVariables false
set_option linter.unusedSimpArgs false
set_option linter.unnecessarySimpa false
namespace Go.Fw
def mvN (n k j : Nat) : Nat := bif Nat.beq j n then k else j
def mvC (n k : Nat) : CV → CV
  | .loc j o l => .loc (mvN n k j) o l
  | .pl j o => .pl (mvN n k j) o
  | .fn f caps => .fn f (caps.map (mvN n k))
  | .mref j => .mref (mvN n k j)
  | .tl j i o l => .tl (mvN n k j) i o l
  | .tpl j i o => .tpl (mvN n k j) i o
  | x => x
def mvS (n k : Nat) : SV → SV
  | .c x => .c (mvC n k x)
  | .agg cs => .agg (cs.map (mvC n k))
def mvA (n k : Nat) : AV → AV
  | .s x => .s (mvS n k x)
  | .tup xs => .tup (xs.map (mvS n k))
def mvO (n k : Nat) : Ob → Ob
  | .row e els => .row e (els.map (·.map (mvC n k)))
  | .prow e els => .prow e els
  | .mp es => .mp es
  | .pool e rows => .pool e rows
  | .trow e p lens => .trow e (mvN n k p) lens
  | .unk => .unk
def mvSl (n k : Nat) (σ : Slots) : Slots := σ.map fun p => (p.1, mvA n k p.2)
def mvM (n k : Nat) (m : Mem) : Mem := m.map fun p => (mvN n k p.1, mvO n k p.2)
def mvG (n k : Nat) (g : Nat → GS) : Nat → GS := fun j => if j = k then g n else if j = n then .dead else g j
theorem mvG_mv {n k j : Nat} (g : Nat → GS) (hj : j ≠ k) : mvG n k g (mvN n k j) = g j := by
  unfold mvN
  cases hb : Nat.beq j n with
  | true =>
    have := Nat.eq_of_beq_eq_true hb
    subst this
    simp [mvG]
  | false =>
    have := Nat.ne_of_beq_eq_false hb
    simp [mvG, hj, this]
section
variable {P : Program} {w : World} {R B : Nat → Prop} {g : Nat → GS} {n k : Nat}
theorem ne_of_elem1 {j k : Nat} (h : [k].elem j = false) : j ≠ k := by
  have := notin_of_elem h
  simpa using this
theorem RC.mv {x : CV} {v : Value} (hz : nrC [k] x = true) (h : RC P w R B g x v) : RC P w R B (mvG n k g) (mvC n k x) v := by
  refine ⟨h.1, ?_⟩
  have h2 := h.2
  cases x with
  | pv p => exact h2
  | px q cells => exact h2
  | loc j off len =>
    have hn := mvG_mv (n := n) g (ne_of_elem1 (by simpa [nrC] using hz))
    rcases h2 with ⟨h3, h4⟩ | h3 | ⟨b, cap, cur, e, h3, h4⟩
    · exact .inl ⟨hn.trans h3, h4⟩
    · exact .inr (.inl h3)
    · exact .inr (.inr ⟨b, cap, cur, e, hn.trans h3, h4⟩)
  | pl j off =>
    obtain ⟨b, h3, h4⟩ := h2
    exact ⟨b, (mvG_mv g (ne_of_elem1 (by simpa [nrC] using hz))).trans h3, h4⟩
  | fn f caps =>
    obtain ⟨vs, h3, h4, h5⟩ := h2
    refine ⟨vs, h3, by simpa using h4, fun i j hk => ?_⟩
    rw [List.getElem?_map] at hk
    cases hc : caps[i]? with
    | none => rw [hc] at hk; cases hk
    | some n0 =>
      rw [hc] at hk
      injection hk with hk
      subst hk
      obtain ⟨b, h6, h7⟩ := h5 i n0 hc
      have hz' : caps.any [k].elem = false := by simpa [nrC] using hz
      have hne : [k].elem n0 = false := by
        cases hx : [k].elem n0 with
        | false => rfl
        | true =>
          have : caps.any [k].elem = true := List.any_eq_true.2 ⟨n0, List.mem_of_getElem? hc, hx⟩
          rw [hz'] at this
          cases this
      exact ⟨b, (mvG_mv g (ne_of_elem1 hne)).trans h6, h7⟩
  | mref j =>
    obtain ⟨b, h3, h4⟩ := h2
    exact ⟨b, (mvG_mv g (ne_of_elem1 (by simpa [nrC] using hz))).trans h3, h4⟩
  | tl j i off len =>
    have hn := mvG_mv (n := n) g (ne_of_elem1 (by simpa [nrC] using hz))
    rcases h2 with ⟨h3, h4⟩ | h3 | ⟨b, cap, cur, e, h3, h4⟩
    · exact .inl ⟨by rw [hn]; exact h3, h4⟩
    · exact .inr (.inl h3)
    · exact .inr (.inr ⟨b, cap, cur, e, by rw [hn]; exact h3, h4⟩)
  | tpl j i off =>
    obtain ⟨b, h3, h4⟩ := h2
    exact ⟨b, by rw [mvG_mv (n := n) g (ne_of_elem1 (by simpa [nrC] using hz))]; exact h3, h4⟩
  | junk => trivial
theorem nr_junkC (X : List Nat) (x : CV) : nrC X (junkC X x) = true := by
  cases x with
  | loc j o l => cases hx : X.elem j <;> simp only [nrC, junkC, hx, cond_true, cond_false, Bool.not_false]
  | pl j o => cases hx : X.elem j <;> simp only [nrC, junkC, hx, cond_true, cond_false, Bool.not_false]
  | fn f caps => cases hx : caps.any X.elem <;> simp only [nrC, junkC, hx, cond_true, cond_false, Bool.not_false]
  | mref j => cases hx : X.elem j <;> simp only [nrC, junkC, hx, cond_true, cond_false, Bool.not_false]
  | tl j i o l => cases hx : X.elem j <;> simp only [nrC, junkC, hx, cond_true, cond_false, Bool.not_false]
  | tpl j i o => cases hx : X.elem j <;> simp only [nrC, junkC, hx, cond_true, cond_false, Bool.not_false]
  | _ => rfl
theorem cells_mv {xs : List CV} {us : Nat → Option Value} (h : ∀ (i : Nat) x, (xs.map (junkC [k]))[i]? = some x → ∃ u, us i = some u ∧ RC P w R B g x u) :
    ∀ (i : Nat) x, ((xs.map (junkC [k])).map (mvC n k))[i]? = some x → ∃ u, us i = some u ∧ RC P w R B (mvG n k g) x u := fun i x hi => by
  rw [List.getElem?_map] at hi
  cases hc : (xs.map (junkC [k]))[i]? with
  | none => rw [hc] at hi; cases hi
  | some y =>
    rw [hc] at hi
    injection hi with hi
    subst hi
    obtain ⟨u, h1, h2⟩ := h i y hc
    refine ⟨u, h1, h2.mv ?_⟩
    rw [List.getElem?_map] at hc
    cases hx : xs[i]? with
    | none => rw [hx] at hc; cases hc
    | some z =>
      rw [hx] at hc
      injection hc with hc
      subst hc
      exact nr_junkC _ _
theorem RS.mv {x : SV} {v : Value} (h : RS P w R B g (junkS [k] x) v) : RS P w R B (mvG n k g) (mvS n k (junkS [k] x)) v := by
  cases x with
  | c x => exact RC.mv (nr_junkC _ _) h
  | agg cs =>
    obtain ⟨vs, h1, h2, h3⟩ := h
    exact ⟨vs, h1, by simpa using h2, cells_mv (us := fun i => vs[i]?) h3⟩
theorem RA.mv {x : AV} {v : Value} (h : RA P w R B g (junkA [k] x) v) : RA P w R B (mvG n k g) (mvA n k (junkA [k] x)) v := by
  cases x with
  | s x => exact RS.mv h
  | tup xs =>
    obtain ⟨vs, h1, h2, h3⟩ := h
    refine ⟨vs, h1, by simpa using h2, fun i x hi => ?_⟩
    rw [List.getElem?_map, List.getElem?_map] at hi
    cases hx : xs[i]? with
    | none => rw [hx] at hi; cases hi
    | some z =>
      rw [hx] at hi
      injection hi with hi
      subst hi
      obtain ⟨u, h4, h5⟩ := h3 i (junkS [k] z) (by rw [List.getElem?_map, hx]; rfl)
      exact ⟨u, h4, h5.mv⟩
theorem RO.mv {j : Nat} {o : Ob} (hj : j ≠ k) (h : RO P w R B g j (junkO [k] o)) : RO P w R B (mvG n k g) (mvN n k j) (mvO n k (junkO [k] o)) := by
  have hg := mvG_mv (n := n) g hj
  have hrow : ∀ {e : TypeId} {els : List (List CV)}, ROw P w R B g j e (els.map (·.map (junkC [k]))) → ROw P w R B (mvG n k g) (mvN n k j) e ((els.map (·.map (junkC [k]))).map (·.map (mvC n k))) := fun {e els} h => by
    rcases h with ⟨h1, h2⟩ | ⟨b, cur, h1, h2, h3, h4, h5⟩
    · exact .inl ⟨hg.trans h1, by rw [h2]; rfl⟩
    · refine .inr ⟨b, cur, hg.trans h1, h2, fun cs hcs => ?_, by simpa using h4, fun i q cs x hi hq => ?_⟩
      · obtain ⟨c0, hc0, rfl⟩ := List.mem_map.1 hcs
        simpa using h3 c0 hc0
      · rw [List.getElem?_map, List.getElem?_map] at hi
        cases hc : els[i]? with
        | none => rw [hc] at hi; cases hi
        | some c0 =>
          rw [hc] at hi
          injection hi with hi
          subst hi
          exact cells_mv (us := fun q => cur[i * szP P e + q]?) (fun q y hq => h5 i q _ y (by rw [List.getElem?_map, hc]; rfl) hq) q x hq
  cases o with
  | row e els => exact hrow h
  | prow e els =>
    have h' : ROw P w R B g j e ((pvs els).map (·.map (junkC [k]))) := by rw [pvs_junk]; exact h
    have := hrow h'
    rw [pvs_junk] at this
    have e1 : (pvs els).map (·.map (mvC n k)) = pvs els := by simp [pvs, mvC, Function.comp_def]
    rw [e1] at this
    exact this
  | mp es =>
    obtain ⟨b, ents, clock, h1, h2⟩ := h
    exact ⟨b, ents, clock, hg.trans h1, h2⟩
  | pool e rows =>
    obtain ⟨⟨bs, h1, h2⟩, h3⟩ := h
    exact ⟨⟨bs, hg.trans h1, h2⟩, by rw [hg]; exact h3⟩
  | trow e p lens =>
    change RO P w R B g j (bif [k].elem p then .unk else .trow e p lens) at h
    show RO P w R B (mvG n k g) (mvN n k j) (mvO n k (bif [k].elem p then .unk else .trow e p lens))
    cases hx : [k].elem p with
    | true => trivial
    | false =>
      rw [hx] at h
      have h' : ROw P w R B g j e ((tcells p lens).map (·.map (junkC [k]))) := by
        rw [tcells_junk hx]
        exact h
      have := hrow h'
      rw [tcells_junk hx] at this
      have e1 : (tcells p lens).map (·.map (mvC n k)) = tcells (mvN n k p) lens := by
        refine List.ext_getElem? fun i => ?_
        simp only [tcells, List.getElem?_map, List.getElem?_mapIdx, Option.map_map]
        cases lens[i]? <;> simp [mvC]
      rw [e1] at this
      exact this
  | unk => trivial
end
section
variable {P : Program} {C : Ctx} {σ : Slots} {m : Mem} {n k : Nat}
theorem lk_mvSl (n k : Nat) : ∀ (σ : Slots) (t : Nat), lk (mvSl n k σ) t = (lk σ t).map (mvA n k)
  | [], _ => rfl
  | (j, v) :: r, t => by
    show (bif Nat.beq j t then some (mvA n k v) else lk (mvSl n k r) t) = Option.map (mvA n k) (bif Nat.beq j t then some v else lk r t)
    cases Nat.beq j t
    · exact lk_mvSl n k r t
    · rfl
theorem mem_mvM {m : Mem} {j : Nat} {o : Ob} (h : lk (mvM n k m) j = some o) : ∃ j0 o0, (j0, o0) ∈ m ∧ j = mvN n k j0 ∧ o = mvO n k o0 := by
  obtain ⟨p, hp, he⟩ := List.mem_map.1 (lk_mem h)
  injection he with h1 h2
  exact ⟨p.1, p.2, hp, h1.symm, h2.symm⟩
def uniqM : Mem → Bool
  | [] => true
  | (n, _) :: r => !(keys r).elem n && uniqM r
theorem uniqM_lk : ∀ {m : Mem} {n : Nat} {o : Ob}, uniqM m = true → (n, o) ∈ m → lk m n = some o
  | [], _, _, _, h => by cases h
  | (j, x) :: r, n, o, hu, h => by
    unfold uniqM at hu
    simp only [Bool.and_eq_true, Bool.not_eq_true'] at hu
    show (bif Nat.beq j n then some x else lk r n) = some o
    cases h with
    | head => rw [Nat.beq_refl]; rfl
    | tail _ h =>
      have hne : j ≠ n := fun e => notin_of_elem hu.1 (e ▸ List.mem_map.2 ⟨_, h, rfl⟩)
      cases hb : Nat.beq j n with
      | true => exact absurd (Nat.eq_of_beq_eq_true hb) hne
      | false => exact uniqM_lk hu.2 h
theorem Ent.mv (n k : Nat) (hp : (!C.pn.elem n && !C.pn.elem k) = true) (hu : uniqM m = true) : Ent P C σ m (mvSl n k (junkSl [k] σ)) (mvM n k (junkM [k] m)) := fun R B g a w hs => by
  simp only [Bool.and_eq_true, Bool.not_eq_true'] at hp
  have hpn := notin_of_elem hp.1
  have hpk := notin_of_elem hp.2
  -- forget k first
  have had : Adv R B g w [] [k] R B (upd g k .dead) w := by
    refine ⟨hs.wf.upd k _ (Nat.le_refl _) (fun b hb => hb.elim) (fun i j b hi => by cases hi), fun _ h => h, fun _ h => h, rfl, rfl, rfl, Nat.le_refl _, fun _ _ _ => rfl, fun i hi => upd_ne g _ (by simpa using hi), fun i hi b hb => ?_, fun i hi => by cases hi⟩
    · have : i = k := by simpa using hi
      subst this
      rw [upd_same] at hb; exact hb.elim
  have h1 : St P C (junkSl [k] σ) (junkM [k] m) R B (upd g k .dead) a w :=
    hs.step (us := []) (df := []) (W := []) (X := [k]) (d := none) (v := .tup []) (u := undef) trivial (fun _ h => by cases h) (fun p hp => by cases hp) rfl (fun j hj => by
      have : j = k := by simpa using hj
      subst this; exact hpk) had (fun b hb => .inl hb) (fun h => by cases h) (fun p hp => by cases hp)
  have hjm : ∀ (m0 : Mem) (j : Nat) (o : Ob), (j, o) ∈ junkM [k] m0 → j ≠ k ∧ ∃ o0, (j, o0) ∈ m0 ∧ o = junkO [k] o0 := by
    intro m0
    induction m0 with
    | nil => intro j o h; cases h
    | cons p r ih =>
      intro j o h
      obtain ⟨i, x⟩ := p
      unfold junkM at h
      cases hi : [k].elem i with
      | true =>
        rw [hi, cond_true] at h
        obtain ⟨h1, o0, h2, h3⟩ := ih j o h
        exact ⟨h1, o0, List.mem_cons_of_mem _ h2, h3⟩
      | false =>
        rw [hi, cond_false] at h
        cases h with
        | head => exact ⟨ne_of_elem1 hi, x, List.mem_cons_self, rfl⟩
        | tail _ h =>
          obtain ⟨h1, o0, h2, h3⟩ := ih j o h
          exact ⟨h1, o0, List.mem_cons_of_mem _ h2, h3⟩
  have hlk : ∀ j o, (j, o) ∈ junkM [k] m → lk (junkM [k] m) j = some o := fun j o hm => by
    obtain ⟨h2, o0, h3, rfl⟩ := hjm m j o hm
    rw [lk_junkM', if_neg (by simpa using h2), uniqM_lk hu h3]
    rfl
  generalize upd g k .dead = g1 at h1
  refine ⟨R, B, mvG n k g1, { h1 with wf := ⟨h1.wf.rb, h1.wf.lt, fun j b hj => ?_, fun i j b hi hj => ?_, fun q i j b hi hj => ?_⟩, sl := fun t v ht => ?_, ob := fun j o hj => ?_, ow := fun j o b hj hb => ?_, pin := fun j hj => ?_ }⟩
  · unfold mvG at hj
    split at hj
    · exact h1.wf.ownH n b hj
    · split at hj
      · exact hj.elim
      · exact h1.wf.ownH j b hj
  · unfold mvG at hi hj
    split at hi
    · rename_i e1
      split at hj
      · rename_i e2; rw [e1, e2]
      · split at hj
        · exact hj.elim
        · rename_i e3; exact absurd (h1.wf.injH n j b hi hj).symm e3
    · split at hi
      · exact hi.elim
      · rename_i e1 e2
        split at hj
        · exact absurd (h1.wf.injH i n b hi hj) e2
        · split at hj
          · exact hj.elim
          · exact h1.wf.injH i j b hi hj
  · unfold mvG at hi hj
    split at hi
    · rename_i e1
      rw [if_pos e1] at hj
      exact h1.wf.nd n i j b hi hj
    · rename_i e1
      rw [if_neg e1] at hj
      split at hi
      · cases hi
      · rename_i e2
        rw [if_neg e2] at hj
        exact h1.wf.nd q i j b hi hj
  · rw [lk_mvSl, lk_junkSl] at ht
    cases hl : lk σ t with
    | none => rw [hl] at ht; cases ht
    | some x =>
      rw [hl] at ht
      injection ht with ht
      subst ht
      exact RA.mv (h1.sl t _ (by rw [lk_junkSl, hl]; rfl))
  · obtain ⟨j0, o0, hm, rfl, rfl⟩ := mem_mvM hj
    obtain ⟨h2, o1, h3, rfl⟩ := hjm m j0 o0 hm
    exact RO.mv h2 (h1.ob j0 _ (hlk j0 _ hm))
  · obtain ⟨j0, o0, hm, rfl, rfl⟩ := mem_mvM hj
    obtain ⟨h2, _⟩ := hjm m j0 o0 hm
    rw [mvG_mv g1 h2] at hb
    exact h1.ow j0 o0 b (hlk j0 o0 hm) hb
  · have e1 : j ≠ k := fun e => hpk (e ▸ hj)
    have e2 : j ≠ n := fun e => hpn (e ▸ hj)
    have : mvG n k g1 j = g1 j := by simp [mvG, e1, e2]
    rw [this]
    exact h1.pin j hj
end
end Go.Fw
end
section
set_option linter.unusedVariables false
set_option linter.unusedSimpArgs false
set_option linter.unnecessarySimpa false
namespace Go.Fw
def eqI : List Int → List Int → Bool
  | [], [] => true
  | a :: r, b :: s => (a == b) && eqI r s
  | _, _ => false
theorem eqI_eq : ∀ a b : List Int, eqI a b = decide (a = b)
  | [], [] => rfl
  | [], _ :: _ => by simp [eqI]
  | _ :: _, [] => by simp [eqI]
  | a :: r, b :: s => by
    rw [eqI, eqI_eq r s]
    by_cases h1 : a = b <;> by_cases h2 : r = s <;> simp [h1, h2]
def istF (P : Program) : Nat → List Field → Bool
  | _, [] => true
  | k, f :: r => (f.name != "_") && Nat.beq f.offset k && (match P.underlying f.type with | some (.int _) => true | _ => false) && istF P (k + 1) r
def istB (P : Program) (t : TypeId) : Option Nat := match P.underlying t with
  | some (.struct fs) => if (istF P 0 fs.toList && !P.stoodInHeld t && !P.eqGuardType P.depth t) = true then some fs.size else none
  | _ => none
section
variable {P : Program} {o : Oper}
def ivs (l : List Int) : Array Value := (l.map fun n => Value.int .i64 n).toArray
theorem run_eqInts (w : World) (d : Nat) : ∀ (fs : List Field) (k : Nat) (xs ys : List Int), istF P k fs = true → xs.length = k + fs.length → ys.length = k + fs.length →
    (Op.eqFields (d + 1) (ivs xs) (ivs ys) fs).run P w = .ok (eqI (xs.drop k) (ys.drop k)) w
  | [], k, xs, ys, _, hx, hy => by
    rw [List.drop_eq_nil_of_le (by simp at hx; omega), List.drop_eq_nil_of_le (by simp at hy; omega)]
    rfl
  | f :: r, k, xs, ys, h, hx, hy => by
    unfold istF at h
    simp only [Bool.and_eq_true] at h
    obtain ⟨⟨⟨h1, h2⟩, h3⟩, h4⟩ := h
    have hoff : f.offset = k := Nat.eq_of_beq_eq_true h2
    have hname : f.name ≠ "_" := by simpa using h1
    have hkx : k < xs.length := by simp at hx; omega
    have hky : k < ys.length := by simp at hy; omega
    have hkind : ∃ kd, P.underlying f.type = some (.int kd) := by
      split at h3
      · exact ⟨_, by assumption⟩
      · cases h3
    obtain ⟨kd, hk⟩ := hkind
    have hpx : (part f.type (ivs xs) f.offset).run P w = .ok (.int .i64 xs[k]) w := by simp [part, isAgg, run_underlying hk, hoff, ivs, List.getElem?_map, hkx]
    have hpy : (part f.type (ivs ys) f.offset).run P w = .ok (.int .i64 ys[k]) w := by simp [part, isAgg, run_underlying hk, hoff, ivs, List.getElem?_map, hky]
    have ih := run_eqInts w d r (k + 1) xs ys h4 (by simp at hx ⊢; omega) (by simp at hy ⊢; omega)
    rw [List.drop_eq_getElem_cons hkx, List.drop_eq_getElem_cons hky]
    unfold Op.eqFields
    rw [if_pos hname]
    simp only [Sem.run_bind, hpx, hpy, Result.andThen_ok, run_equalIn_int w d f.type .i64 kd _ _ hk]
    cases hb : (xs[k] == ys[k]) with
    | true => simp [ih, eqI, hb]
    | false => simp [eqI, hb]
theorem run_eqlInts {t : TypeId} {n : Nat} (h : istB P t = some n) (xs ys : List Int) (hx : xs.length = n) (hy : ys.length = n) (w : World) :
    (Op.equalIn 10000 t (.agg (ivs xs)) (.agg (ivs ys))).run P w = .ok (eqI xs ys) w ∧ P.eqGuardType P.depth t = false := by
  unfold istB at h
  split at h
  · rename_i fs hfs
    split at h
    · rename_i hc
      simp only [Bool.and_eq_true, Bool.not_eq_true'] at hc
      injection h with h
      subst h
      have hf : P.fieldsOf t = fs := by simp [Program.fieldsOf, hfs]
      refine ⟨?_, hc.2⟩
      rw [show (10000 : Nat) = 9999 + 1 from rfl, run_equalIn_agg w 9999 t _ _ (by rw [hf]; exact hfs) hc.1.2, hf]
      have := run_eqInts (P := P) w 9998 fs.toList 0 xs ys hc.1.1 (by simpa using hx) (by simpa using hy)
      simpa using this
    · cases h
  · cases h
theorem ag_inv {w : World} {R B : Nat → Prop} {g : Nat → GS} {xs : List Int} {v : Value} (h : RA P w R B g (Ag (xs.map iC)) v) : v = .agg (ivs xs) := by
  obtain ⟨vs, rfl, hl, hc⟩ := h
  have : vs = xs.map fun n => Value.int .i64 n := by
    refine List.ext_getElem (by simpa using hl) fun i h1 h2 => ?_
    have hi : i < xs.length := by simpa using h2
    obtain ⟨u, h3, h4⟩ := hc i (iC xs[i]) (by rw [List.getElem?_map, List.getElem?_eq_getElem hi]; rfl)
    obtain ⟨_, h4⟩ := h4
    cases h4
    rw [List.getElem?_eq_getElem h1] at h3
    injection h3 with h3
    rw [h3]
    simp
  rw [this]
  rfl
theorem LT.neqStruct {t t' : TypeId} {x y : Operand} {n : Nat} (xs ys : List Int) (ho : o.op = .binOp .neq t x y t') (h : istB P t = some n) (hx : xs.length = n) (hy : ys.length = n) :
    LT P o [(x, Ag (xs.map iC)), (y, Ag (ys.map iC))] [] (Bv (!eqI xs ys)) [] [] [] := .calm fun R B g w a _ hi _ => by
  obtain ⟨h1, h2⟩ := run_eqlInts h xs ys hx hy w
  refine ⟨.bool (!eqI xs ys), ?_, sc_mk rfl⟩
  simp only [execOp, ho, ag_inv (in1 hi), ag_inv (in2 hi), Sem.run_bind, run_eqGuard_agg w .neq t x y _ _ h2, Result.andThen_ok, run_neq_struct, h1, Sem.run_pure]
end
end Go.Fw
end
section
set_option linter.unusedVariables false
set_option linter.unusedSimpArgs false
set_option linter.unnecessarySimpa false
namespace Go.Fw
theorem BIG_gt {n : Nat} (h : n ≤ 1099511627776) : n < BIG := by unfold BIG; omega
theorem w64_small {n : Int} (h1 : -4611686018427387904 ≤ n) (h2 : n ≤ 4611686018427387904) : w64 n = n := w64_id (by omega) (by omega)
theorem loopM_go {σ τ : Type} {b : σ → Option (σ ⊕ τ)} {r : τ} (st : Nat → σ) (n : Nat) (h : ∀ k, k < n → b (st k) = some (.inl (st (k + 1)))) (hr : b (st n) = some (.inr r)) : ∀ (j k f : Nat), k + j = n → j < f → loopM b f (st k) = some r
  | 0, k, f, hk, hf => by
    obtain ⟨f, rfl⟩ : ∃ g, f = g + 1 := ⟨f - 1, by omega⟩
    have : k = n := by omega
    subst this
    unfold loopM
    rw [hr]
  | j + 1, k, f, hk, hf => by
    obtain ⟨f, rfl⟩ : ∃ g, f = g + 1 := ⟨f - 1, by omega⟩
    unfold loopM
    rw [h k (by omega)]
    exact loopM_go st n h hr j (k + 1) f (by omega) (by omega)
theorem loopM_run {σ τ : Type} {b : σ → Option (σ ⊕ τ)} {r : τ} {s : σ} (st : Nat → σ) (n : Nat) (hn : n ≤ 1099511627776) (h0 : st 0 = s) (h : ∀ k, k < n → b (st k) = some (.inl (st (k + 1)))) (hr : b (st n) = some (.inr r)) : loopM b BIG s = some r := by
  subst h0
  exact loopM_go st n h hr n 0 BIG (by omega) (BIG_gt hn)
theorem idx_at {α : Type} {l : List α} {k : Nat} (h : k < l.length) : idx l (k : Int) = some l[k] := by
  unfold idx
  rw [if_pos (by omega), Int.toNat_natCast, List.getElem?_eq_getElem h]
theorem idx_of {α : Type} {l : List α} {k : Nat} {x : α} (h : l[k]? = some x) : idx l (k : Int) = some x := by
  unfold idx
  rw [if_pos (by omega), Int.toNat_natCast, h]
theorem w64_succ {k : Nat} (h : k ≤ 1099511627776) : w64 ((k : Int) + 1) = ((k + 1 : Nat) : Int) := by
  rw [w64_small (by omega) (by omega)]; omega
theorem count_loop {τ : Type} {b : Int → Option (Int ⊕ τ)} {r : τ} (n : Nat) (hn : n ≤ 1099511627776) (h : ∀ k : Nat, k < n → b k = some (.inl (w64 ((k : Int) + 1)))) (hr : b n = some (.inr r)) : loopM b BIG 0 = some r :=
  loopM_run (fun k => (k : Int)) n hn rfl (fun k hk => by rw [h k hk, w64_succ (by omega)]) hr
theorem any_loop {γ : Type} {b : Int → Option (Int ⊕ (Unit ⊕ γ))} (bad : Nat → Bool) (c : γ) (k0 n : Nat) (hn : n ≤ 1099511627776) (h0 : k0 ≤ n) (h : ∀ k : Nat, k0 ≤ k → k < n → b k = bif bad k then some (.inr (.inr c)) else some (.inl (w64 ((k : Int) + 1)))) (hr : b n = some (.inr (.inl ()))) :
    loopM b BIG k0 = some (bif (List.range' k0 (n - k0)).any bad then .inr c else .inl ()) := by
  have go : ∀ (j k f : Nat), k + j = n → k0 ≤ k → j < f → loopM b f (k : Int) = some (bif (List.range' k j).any bad then .inr c else .inl ()) := by
    intro j
    induction j with
    | zero =>
      intro k f hk _ hf
      obtain ⟨f, rfl⟩ : ∃ g, f = g + 1 := ⟨f - 1, by omega⟩
      have : k = n := by omega
      subst this
      unfold loopM
      rw [hr]
      rfl
    | succ j ih =>
      intro k f hk hk0 hf
      obtain ⟨f, rfl⟩ : ∃ g, f = g + 1 := ⟨f - 1, by omega⟩
      have h1 := h k hk0 (by omega)
      unfold loopM
      cases hb : bad k with
      | true =>
        rw [hb, cond_true] at h1
        rw [h1, List.range'_succ, List.any_cons, hb]
        rfl
      | false =>
        rw [hb, cond_false, w64_succ (by omega)] at h1
        rw [h1, List.range'_succ, List.any_cons, hb, Bool.false_or]
        exact ih (k + 1) f (by omega) (by omega) (by omega)
  exact go (n - k0) k0 BIG (by omega) (Nat.le_refl _) (by have := BIG_gt hn; omega)
theorem loop_inv {σ τ : Type} {b : σ → Option (σ ⊕ τ)} {s : σ} (I : Nat → σ → Prop) (Q : τ → Prop) (n : Nat) (hn : n ≤ 1099511627776) (h0 : I 0 s)
    (h : ∀ k s, k < n → I k s → (∃ s', b s = some (.inl s') ∧ I (k + 1) s') ∨ ∃ r, b s = some (.inr r) ∧ Q r) (hr : ∀ s, I n s → ∃ r, b s = some (.inr r) ∧ Q r) : ∃ r, loopM b BIG s = some r ∧ Q r := by
  have go : ∀ (j k f : Nat) (s : σ), k + j = n → j < f → I k s → ∃ r, loopM b f s = some r ∧ Q r := by
    intro j
    induction j with
    | zero =>
      intro k f s hk hf hi
      obtain ⟨f, rfl⟩ : ∃ g, f = g + 1 := ⟨f - 1, by omega⟩
      have : k = n := by omega
      subst this
      obtain ⟨r, h1, h2⟩ := hr s hi
      exact ⟨r, by unfold loopM; rw [h1], h2⟩
    | succ j ih =>
      intro k f s hk hf hi
      obtain ⟨f, rfl⟩ : ∃ g, f = g + 1 := ⟨f - 1, by omega⟩
      rcases h k s (by omega) hi with ⟨s', h1, h2⟩ | ⟨r, h1, h2⟩
      · obtain ⟨r, h3, h4⟩ := ih (k + 1) f s' (by omega) (by omega) h2
        exact ⟨r, by unfold loopM; rw [h1]; exact h3, h4⟩
      · exact ⟨r, by unfold loopM; rw [h1], h2⟩
  exact go n 0 BIG s (by omega) (BIG_gt hn) h0
theorem lim_ok {n : Nat} (h : n ≤ 2147483648) : lim n = some () := by unfold lim LIM; rw [if_pos h]
theorem lenOk_ok {n : Int} (h0 : 0 ≤ n) (h : n ≤ 2147483648) : lenOk n = some () := by unfold lenOk; rw [if_pos ⟨h0, h⟩]
end Go.Fw
end
section
set_option linter.unusedVariables false
set_option linter.unusedSimpArgs false
set_option linter.unnecessarySimpa false
namespace Go.Fw
def iter {β : Type} (f : Nat → β → β) : Nat → β → β
  | 0, a => a
  | n + 1, a => f n (iter f n a)
theorem iter_inv {β : Type} {f : Nat → β → β} {a0 : β} (I : Nat → β → Prop) (h0 : I 0 a0) : ∀ n, (∀ k a, k < n → I k a → I (k + 1) (f k a)) → I n (iter f n a0)
  | 0, _ => h0
  | n + 1, h => h n _ (by omega) (iter_inv I h0 n fun k a hk hi => h k a (by omega) hi)
theorem fold_loop {β τ σ : Type} {b : σ → Option (σ ⊕ τ)} {s : σ} (mk : Nat → β → σ) (f : Nat → β → β) (I : Nat → β → Prop) (fin : β → τ) (n : Nat) (a0 : β) (hn : n ≤ 1099511627776) (hs : s = mk 0 a0) (h0 : I 0 a0)
    (h : ∀ k a, k < n → I k a → b (mk k a) = some (.inl (mk (k + 1) (f k a))) ∧ I (k + 1) (f k a)) (hr : ∀ a, I n a → b (mk n a) = some (.inr (fin a))) :
    loopM b BIG s = some (fin (iter f n a0)) ∧ I n (iter f n a0) := by
  have hI : ∀ m, m ≤ n → I m (iter f m a0) := fun m hm => iter_inv I h0 m fun k a hk hi => (h k a (by omega) hi).2
  subst hs
  exact ⟨loopM_run (fun k => mk k (iter f k a0)) n hn rfl (fun k hk => (h k _ hk (hI k (by omega))).1) (hr _ (hI n (Nat.le_refl _))), hI n (Nat.le_refl _)⟩
def pieces {α : Type} (f : Nat → List α) : Nat → List α
  | 0 => []
  | n + 1 => pieces f n ++ f n
theorem pieces_len {α : Type} {f : Nat → List α} {c : Nat} : ∀ n, (∀ k, k < n → (f k).length ≤ c) → (pieces f n).length ≤ c * n
  | 0, _ => by simp [pieces]
  | n + 1, h => by
    have h1 := pieces_len n fun k hk => h k (by omega)
    have h2 := h n (by omega)
    show (pieces f n ++ f n).length ≤ _
    rw [List.length_append, Nat.mul_add, Nat.mul_one]
    omega
theorem pieces_congr {α : Type} {f g : Nat → List α} : ∀ n, (∀ k, k < n → f k = g k) → pieces f n = pieces g n
  | 0, _ => rfl
  | n + 1, h => by
    show pieces f n ++ f n = pieces g n ++ g n
    rw [pieces_congr n fun k hk => h k (by omega), h n (by omega)]
theorem app_loop {α τ σ : Type} {b : σ → Option (σ ⊕ τ)} {s : σ} (mk : Nat → List α → σ) (f : Nat → List α) (fin : List α → τ) (c n : Nat) (out0 : List α) (hn : n ≤ 1099511627776) (hs : s = mk 0 out0) (hc : ∀ k, k < n → (f k).length ≤ c)
    (h : ∀ k out, k < n → out.length ≤ out0.length + c * k → b (mk k out) = some (.inl (mk (k + 1) (out ++ f k)))) (hr : ∀ out, b (mk n out) = some (.inr (fin out))) :
    loopM b BIG s = some (fin (out0 ++ pieces f n)) := by
  subst hs
  refine loopM_run (fun k => mk k (out0 ++ pieces f k)) n hn (by simp [pieces]) (fun k hk => ?_) (hr _)
  have h1 := pieces_len (f := f) (c := c) k fun j hj => hc j (by omega)
  rw [h k _ hk (by rw [List.length_append]; omega), List.append_assoc]
  rfl
theorem any_range {p : Nat → Bool} {k0 n : Nat} : (List.range' k0 n).any p = true ↔ ∃ k, k0 ≤ k ∧ k < k0 + n ∧ p k = true := by
  rw [List.any_eq_true]
  constructor
  · rintro ⟨k, hk, h⟩
    rw [List.mem_range'_1] at hk
    exact ⟨k, hk.1, hk.2, h⟩
  · rintro ⟨k, h1, h2, h⟩
    exact ⟨k, List.mem_range'_1.2 ⟨h1, h2⟩, h⟩
theorem any_range_false {p : Nat → Bool} {k0 n : Nat} : (List.range' k0 n).any p = false ↔ ∀ k, k0 ≤ k → k < k0 + n → p k = false := by
  rw [← Bool.not_eq_true, any_range]
  constructor
  · intro h k h1 h2
    cases hp : p k
    · rfl
    · exact absurd ⟨k, h1, h2, hp⟩ h
  · rintro h ⟨k, h1, h2, h3⟩
    rw [h k h1 h2] at h3
    cases h3
theorem any_loop0 {γ : Type} {b : Int → Option (Int ⊕ (Unit ⊕ γ))} (bad : Nat → Bool) (c : γ) (n : Nat) (hn : n ≤ 1099511627776) (h : ∀ k : Nat, k < n → b k = bif bad k then some (.inr (.inr c)) else some (.inl (w64 ((k : Int) + 1)))) (hr : b n = some (.inr (.inl ()))) :
    loopM b BIG 0 = some (bif (List.range' 0 n).any bad then .inr c else .inl ()) := by
  have := any_loop (b := b) bad c 0 n hn (by omega) (fun k _ hk => h k hk) hr
  rwa [Nat.sub_zero] at this
theorem set_repl {α : Type} (a : List α) (z x : α) (k n : Nat) (ha : a.length = k) (hk : k < n) : (a ++ List.replicate (n - k) z).set k x = (a ++ [x]) ++ List.replicate (n - (k + 1)) z := by
  obtain ⟨m, hm⟩ : ∃ m, n - k = m + 1 := ⟨n - k - 1, by omega⟩
  rw [hm, show n - (k + 1) = m by omega, List.set_append_right _ _ (by omega), ha, Nat.sub_self, List.replicate_succ, List.set_cons_zero, List.append_assoc]
  rfl
theorem take_get {α : Type} {l : List α} {k : Nat} (hk : k < l.length) : l.take (k + 1) = l.take k ++ [l[k]] := by
  rw [List.take_add_one, List.getElem?_eq_getElem hk]; rfl
end Go.Fw
end
section
set_option linter.unusedVariables false
set_option linter.unusedSimpArgs false
set_option linter.unnecessarySimpa false
namespace Go.Fw
open Go.ChangeMaps
def slc {α : Type} (l : List α) (lo hi : Int) : Option (List α) := if 0 ≤ lo ∧ lo ≤ hi ∧ hi ≤ (l.length : Int) then some ((l.take hi.toNat).drop lo.toNat) else none
theorem slc_spec {α : Type} {l r : List α} {lo hi : Int} (h : slc l lo hi = some r) : 0 ≤ lo ∧ lo ≤ hi ∧ hi ≤ (l.length : Int) ∧ r = (l.take hi.toNat).drop lo.toNat := by
  unfold slc at h
  split at h
  · rename_i h0
    injection h with h
    exact ⟨h0.1, h0.2.1, h0.2.2, h.symm⟩
  · cases h
theorem slc_hl {α : Type} {l r : List α} {lo hi : Int} (h : slc l lo hi = some r) : hi.toNat ≤ l.length := by
  have := slc_spec h
  omega
def mget : List (Int × Int) → Int → Int
  | [], _ => 0
  | e :: r, k => bif k == e.1 then e.2 else mget r k
def mhas : List (Int × Int) → Int → Bool
  | [], _ => false
  | e :: r, k => bif k == e.1 then true else mhas r k
def mput : List (Int × Int) → Int → Int → List (Int × Int)
  | [], k, v => [(k, v)]
  | e :: r, k, v => bif k == e.1 then (k, v) :: r else e :: mput r k v
section
variable {P : Program} {o : Oper} {w : World} {R B : Nat → Prop} {g : Nat → GS}
theorem run_sliceBounds {lo hi : Option Value} {len cap : Nat} {l h : Nat} (hlo : lo = some (.int .i64 (l : Int)) ∨ (lo = none ∧ l = 0)) (hhi : hi = some (.int .i64 (h : Int)) ∨ (hi = none ∧ h = len)) (h1 : l ≤ h) (h2 : h ≤ len) (h3 : len ≤ cap) (w : World) :
    (Instr.sliceBounds true len cap lo hi none).run P w = .ok (l, h, cap) w := by
  have e1 : (Instr.sliceBound (.int .i64 (h : Int)) cap .sliceAcap).run P w = .ok h w := by
    have : (0 : Int) ≤ (h : Int) ∧ (h : Int) ≤ (cap : Int) := by omega
    simp [Instr.sliceBound, asIntOf, this]
  have e2 : (Instr.sliceBound (.int .i64 (l : Int)) h .sliceB).run P w = .ok l w := by
    have : (0 : Int) ≤ (l : Int) ∧ (l : Int) ≤ (h : Int) := by omega
    simp [Instr.sliceBound, asIntOf, this]
  rcases hlo with rfl | ⟨rfl, rfl⟩ <;> rcases hhi with rfl | ⟨rfl, rfl⟩ <;> simp [Instr.sliceBounds, e1, e2, Result.andThen]
theorem run_slice {t e : TypeId} {it : TypeInfo} (ht : P.underlying t = some (.slice e)) (hit : P.info? e = some it) {lo hi : Option Value} {A : Option Addr} {len cap l h : Nat} (hlo : lo = some (.int .i64 (l : Int)) ∨ (lo = none ∧ l = 0)) (hhi : hi = some (.int .i64 (h : Int)) ∨ (hi = none ∧ h = len)) (h1 : l ≤ h) (h2 : h ≤ len) (h3 : len ≤ cap) (w : World) :
    (Instr.sliceAt t (.slice A len cap) lo hi none).run P w = .ok (.slice (if cap = l then A else A.map (·.add (l * szP P e))) (h - l) (cap - l)) w := by
  have hb := run_sliceBounds (P := P) hlo hhi h1 h2 h3 w
  simp [Instr.sliceAt, Instr.slice, run_underlying ht, hb, run_sizeOf hit, Result.andThen]
variable {α : Type} {enc : α → List PV}
theorem PermO.row1 {e : TypeId} {cs : List CV} (h : PermCL cs) : PermO (.row e [cs]) := fun c hc x hx => by
  have : c = cs := by simpa using hc
  subst this
  exact h.spec x hx
theorem findNow_none {k : Int} : ∀ {es : List MapEntry} {m : List (Int × Int)} {i : Nat}, es.map (fun e => (e.key, e.val)) = m.map (fun e => (Value.int .i64 e.1, Value.int .i64 e.2)) → mhas m k = false → Instr.findNow (.int .i64) (.int .i64 k) es i = some none
  | [], [], _, _, _ => rfl
  | [], _ :: _, _, h, _ => by cases h
  | _ :: _, [], _, h, _ => by cases h
  | e :: es, x :: m, i, h, hh => by
    simp only [List.map_cons, List.cons.injEq, Prod.mk.injEq] at h
    obtain ⟨⟨h1, h2⟩, h3⟩ := h
    unfold mhas at hh
    cases hx : k == x.1 with
    | true => rw [hx] at hh; cases hh
    | false =>
      rw [hx, cond_false] at hh
      simp [Instr.findNow, Instr.sameNow, h1, hx, findNow_none h3 hh]
theorem findNow_some {k : Int} : ∀ {es : List MapEntry} {m : List (Int × Int)} {i : Nat}, es.map (fun e => (e.key, e.val)) = m.map (fun e => (Value.int .i64 e.1, Value.int .i64 e.2)) → mhas m k = true →
    ∃ j, Instr.findNow (.int .i64) (.int .i64 k) es i = some (some (i + j, .int .i64 (mget m k))) ∧ (∃ e, es[j]? = some e ∧ e.key = .int .i64 k) ∧ ∀ v, mput m k v = m.set j (k, v)
  | [], [], _, _, h => by cases h
  | [], _ :: _, _, h, _ => by cases h
  | _ :: _, [], _, h, _ => by cases h
  | e :: es, x :: m, i, h, hh => by
    simp only [List.map_cons, List.cons.injEq, Prod.mk.injEq] at h
    obtain ⟨⟨h1, h2⟩, h3⟩ := h
    unfold mhas at hh
    cases hx : k == x.1 with
    | true =>
      refine ⟨0, ?_, ⟨e, rfl, by rw [h1, eq_of_beq hx]⟩, fun v => ?_⟩
      · simp [Instr.findNow, Instr.sameNow, h1, hx, h2, mget]
      · simp [mput, hx]
    | false =>
      rw [hx, cond_false] at hh
      obtain ⟨j, k1, ⟨e2, k2, k3⟩, k4⟩ := findNow_some (i := i + 1) h3 hh
      refine ⟨j + 1, ?_, ⟨e2, by simpa using k2, k3⟩, fun v => ?_⟩
      · simp [Instr.findNow, Instr.sameNow, h1, hx, k1, mget]
        omega
      · simp [mput, hx, k4]
theorem mput_none {k : Int} : ∀ {m : List (Int × Int)}, mhas m k = false → ∀ v, mput m k v = m ++ [(k, v)]
  | [], _, _ => rfl
  | x :: m, h, v => by
    unfold mhas at h
    cases hx : k == x.1 with
    | true => rw [hx] at h; cases h
    | false =>
      rw [hx, cond_false] at h
      simp [mput, hx, mput_none h]
def mapB (P : Program) (t : TypeId) : Option (TypeId × TypeId) := match P.underlying t with
  | some (.map k e) => match P.underlying k, (P.info? e).bind (·.zero) with
    | some (.int .i64), some (.int .i64 0) => some (k, e)
    | _, _ => none
  | _ => none
theorem mapB_spec {t k e : TypeId} (h : mapB P t = some (k, e)) : P.underlying t = some (.map k e) ∧ P.underlying k = some (.int .i64) ∧ ∃ i, P.info? e = some i ∧ i.zero = some (.int .i64 0) := by
  unfold mapB at h
  split at h
  · rename_i k' e' hu
    split at h
    · rename_i hk hz
      injection h with h
      injection h with h1 h2
      subst h1
      subst h2
      cases hi : P.info? e' with
      | none => rw [hi] at hz; cases hz
      | some i =>
        rw [hi] at hz
        exact ⟨hu, hk, i, rfl, hz⟩
    · cases h
  · cases h
theorem run_checkKey_int {b : Bool} {k : TypeId} (hk : P.underlying k = some (.int .i64)) (n : Int) (w : World) : (Instr.checkKey b 10000 k (.int .i64 n)).run P w = .ok () w := by
  unfold Instr.checkKey
  simp only [Sem.run_bind, run_underlying hk, Result.andThen_ok]
  rfl
theorem run_findKey_now {k : TypeId} (hk : P.underlying k = some (.int .i64)) {n : Int} {es : List MapEntry} {r : Option (Nat × Value)} (h : Instr.findNow (.int .i64) (.int .i64 n) es 0 = some r) (w : World) : (Instr.findKey k (.int .i64 n) es).run P w = .ok r w := by
  simp [Instr.findKey, run_underlying hk, h, Result.andThen]
theorem LT.makeMap {t : TypeId} {n : Nat} (ho : o.op = .makeMap t none) : LT P o [] [] (Cc (.mref n)) [(n, .mp [])] [] [n] := by
  intro R B g w a hw hi hu K Q hK
  have hr := Go.RowKit.run_makeMap (P := P) t w
  have had := Adv.alloc hw n (.map #[] 0)
  have hrun : (execOp a.eval o).run P w = .ok (.value (.map (some w.heap.size))) (w.alloc (.map #[] 0)) := by
    simp [execOp, ho, hr]
  unfold Oper.wp
  rw [hrun]
  refine hK _ _ _ _ _ had (fun b hb => .inl hb) (fun _ => ⟨rfl, w.heap.size, upd_same .., rfl⟩) (fun p hp => ?_)
  have : p = (n, .mp []) := by simpa using hp
  subst this
  exact ⟨w.heap.size, #[], 0, upd_same .., (Go.MapKept.heap_alloc w _).1, rfl⟩
theorem map_look {t k e : TypeId} (ht : mapB P t = some (k, e)) {n : Nat} {m : List (Int × Int)} (h : RO P w R B g n (.mp m)) {v : Value} (hv : RC P w R B g (.mref n) v) (x : Int) (ok : Bool) :
    (Instr.lookup t v (.int .i64 x) ok).run P w = .ok (if ok then .tuple #[.int .i64 (mget m x), .bool (mhas m x)] else .int .i64 (mget m x)) w := by
  obtain ⟨h1, h2, i, h3, h4⟩ := mapB_spec ht
  obtain ⟨b, ents, clock, k1, k2, k3⟩ := h
  obtain ⟨_, b', k4, rfl⟩ := hv
  rw [k1] at k4
  injection k4 with k4
  subst k4
  cases hh : mhas m x with
  | false =>
    have hf := run_findKey_now (P := P) h2 (findNow_none k3 hh) w
    have hg : mget m x = 0 := by
      clear hf k3
      induction m with
      | nil => rfl
      | cons y r ih =>
        unfold mhas at hh
        unfold mget
        cases hy : x == y.1 with
        | true => rw [hy] at hh; cases hh
        | false =>
          rw [hy, cond_false] at hh
          exact ih hh
    simp [Instr.lookup, run_underlying h1, Go.MapKept.run_getObj_map k2, run_checkKey_int h2, hf, Result.andThen, zeroValue, typeInfo, h3, h4, hg]
  | true =>
    obtain ⟨j, hj, _, _⟩ := findNow_some (i := 0) k3 hh
    have hf := run_findKey_now (P := P) h2 hj w
    simp [Instr.lookup, run_underlying h1, Go.MapKept.run_getObj_map k2, run_checkKey_int h2, hf, Result.andThen]
theorem LT.mapGet {t k e : TypeId} {x y : Operand} {n : Nat} {m : List (Int × Int)} {i : Int} (ho : o.op = .lookup t x y false) (ht : mapB P t = some (k, e)) : LT P o [(x, Cc (.mref n)), (y, Iv i)] [(n, .mp m)] (Iv (mget m i)) [] [] [] := .calm fun R B g w a hw hi hu => by
  have hl := map_look (P := P) ht (us1 hu) (in1 hi) i false
  rw [if_neg (by simp)] at hl
  refine ⟨_, ?_, sc_mk rfl⟩
  simp [execOp, ho, sc_inv (in2 hi), hl]
theorem LT.mapGetOk {t k e : TypeId} {x y : Operand} {n : Nat} {m : List (Int × Int)} {i : Int} (ho : o.op = .lookup t x y true) (ht : mapB P t = some (k, e)) : LT P o [(x, Cc (.mref n)), (y, Iv i)] [(n, .mp m)] (.tup [.c (iC (mget m i)), .c (bC (mhas m i))]) [] [] [] := .calm fun R B g w a hw hi hu => by
  have hl := map_look (P := P) ht (us1 hu) (in1 hi) i true
  rw [if_pos rfl] at hl
  refine ⟨.tuple #[.int .i64 (mget m i), .bool (mhas m i)], by simp [execOp, ho, sc_inv (in2 hi), hl], [.int .i64 (mget m i), .bool (mhas m i)], rfl, rfl, fun k x hk => ?_⟩
  match k, hk with
  | 0, hk => simp at hk; subst hk; exact ⟨_, rfl, rfl, .sc rfl⟩
  | 1, hk => simp at hk; subst hk; exact ⟨_, rfl, rfl, .sc rfl⟩
  | k + 2, hk => simp at hk
theorem Adv.setMap (h : WF R B g w) {n b : Nat} {es : Array MapEntry} {clock : Nat} (hn : g n = .blk b) (hh : w.heap[b]? = some (.map es clock)) (o' : Obj) : Adv R B g w [n] [] R B g (setBlock w b o') where
  wf := h.mono (by simp [setBlock])
  r _ h := h
  b _ h := h
  os := rfl
  tape := rfl
  output := rfl
  size := by simp [setBlock]
  heap c _ hc := heap_setBlock_other hh o' (fun e => hc n List.mem_cons_self (by rw [hn, e]; rfl))
  names _ _ := rfl
  fresh _ hk := by cases hk
  shape k hk _ c cu e' hg hc := by
    have : k = n := by simpa using hk
    subst this
    rw [hn] at hg
    have hg : b = c := Eq.symm hg
    subst hg
    rw [hh] at hc
    cases hc
theorem LT.mapPut {t k e : TypeId} {x y z : Operand} {n : Nat} {m : List (Int × Int)} {i j : Int} {v : AV} (ho : o.op = .mapUpdate t x y z ∨ o.op = .insert t x y z) (hd : o.dst = none) (ht : mapB P t = some (k, e)) : LT P o [(x, Cc (.mref n)), (y, Iv i), (z, Iv j)] [(n, .mp m)] v [(n, .mp (mput m i j))] [n] [] := by
  intro R B g w a hw hin hu K Q hK
  obtain ⟨h1, h2, _, _, _⟩ := mapB_spec ht
  obtain ⟨b, ents, clock, k1, k2, k3⟩ := us1 hu
  obtain ⟨_, b', k4, k5⟩ := in1 hin
  rw [k1] at k4
  injection k4 with k4
  subst k4
  have e2 := sc_inv (in2 hin)
  have e3 := sc_inv (in3 hin)
  have key : ∃ es' clock', (Instr.mapUpdate t (.map (some b)) (.int .i64 i) (.int .i64 j)).run P w = .ok () (setBlock w b (.map es' clock')) ∧ es'.toList.map (fun e => (e.key, e.val)) = (mput m i j).map fun e => (Value.int .i64 e.1, Value.int .i64 e.2) := by
    cases hh : mhas m i with
    | false =>
      have hf := run_findKey_now (P := P) h2 (findNow_none k3 hh) w
      refine ⟨ents.push { key := .int .i64 i, val := .int .i64 j, born := clock }, clock + 1, ?_, ?_⟩
      · simp [Instr.mapUpdate, run_underlying h1, Go.MapKept.run_getObj_map k2, run_checkKey_int h2, hf, Go.MapKept.run_setObj_map _ k2, Result.andThen]
        rfl
      · rw [mput_none hh]
        simp [k3]
    | true =>
      obtain ⟨q, hq, ⟨en, hen, hkey⟩, hput⟩ := findNow_some (i := 0) k3 hh
      rw [Nat.zero_add] at hq
      have hf := run_findKey_now (P := P) h2 hq w
      have hen' : ents[q]? = some en := by simpa using hen
      refine ⟨ents.modify q fun e => { e with key := .int .i64 i, val := .int .i64 j }, clock, ?_, ?_⟩
      · simp [Instr.mapUpdate, run_underlying h1, Go.MapKept.run_getObj_map k2, run_checkKey_int h2, hf, hen', hkey, Instr.keyThatStays, Instr.sameBits, Go.MapKept.run_setObj_map _ k2, Result.andThen]
        rfl
      · rw [hput]
        apply List.ext_getElem?
        intro r
        have hk3 := congrArg (fun l => l[r]?) k3
        simp only [List.getElem?_map, Array.getElem?_toList] at hk3
        simp only [List.getElem?_map, List.getElem?_set, Array.getElem?_toList, Array.getElem?_modify]
        by_cases hr : q = r
        · subst hr
          rw [hen'] at hk3
          cases hm : m[q]? with
          | none => rw [hm] at hk3; cases hk3
          | some y =>
            have := (List.getElem?_eq_some_iff.1 hm).1
            simp [hen', this]
        · simp [hr, hk3]
  obtain ⟨es', clock', hrun, hes⟩ := key
  have hex : (execOp a.eval o).run P w = .ok .skip (setBlock w b (.map es' clock')) := by
    rcases ho with ho | ho <;> simp [execOp, ho, k5, e2, e3, hrun]
  have had := Adv.setMap hw k1 k2 (.map es' clock')
  unfold Oper.wp
  rw [hex]
  have hq := hK undef R B g (setBlock w b (.map es' clock')) had (fun b hb => .inl hb) (fun h => by rw [hd] at h; cases h) (fun p hp => by
    have : p = (n, .mp (mput m i j)) := by simpa using hp
    subst this
    exact ⟨b, es', clock', k1, heap_setBlock_same k2 _, hes⟩)
  exact hq
end
end Go.Fw
end
section
set_option linter.unusedVariables false
set_option linter.unusedSimpArgs false
set_option linter.unnecessarySimpa false
namespace Go.Fw
section
variable {P : Program} {C : Ctx} {σ : Slots} {m : Mem}
theorem RC.junk {w : World} {R B : Nat → Prop} {g : Nat → GS} {x : CV} {v : Value} (h : RC P w R B g x v) : RC P w R B g .junk v := ⟨h.1, trivial⟩
theorem rel_junk {w : World} {R B : Nat → Prop} {g : Nat → GS} {cs : List CV} {k : Nat} {T : Nat → Value → Prop} (h : ∀ (j : Nat) x, cs[j]? = some x → ∃ u, T j u ∧ RC P w R B g x u) : ∀ (j : Nat) x, (cs.set k .junk)[j]? = some x → ∃ u, T j u ∧ RC P w R B g x u := fun j x hj => by
  rw [List.getElem?_set] at hj
  by_cases hk : k = j
  · rw [if_pos hk] at hj
    split at hj
    · injection hj with hj
      subst hj
      rename_i hl
      obtain ⟨u, h1, h2⟩ := h j cs[j] (List.getElem?_eq_getElem (by omega))
      exact ⟨u, h1, h2.junk⟩
    · cases hj
  · rw [if_neg hk] at hj
    exact h j x hj
theorem St.slot {R B : Nat → Prop} {g : Nat → GS} {a : Act} {w : World} (hs : St P C σ m R B g a w) {t : Nat} {v : AV} (h : RA P w R B g v (a.tmps.getD t undef)) : St P C ((t, v) :: σ) m R B g a w := by
  refine { hs with sl := ?_ }
  intro t' v' hl
  change (bif Nat.beq t t' then some v else lk σ t') = some v' at hl
  cases hb : Nat.beq t t' with
  | true =>
    rw [hb, cond_true] at hl
    injection hl with hl
    subst hl
    rw [← Nat.eq_of_beq_eq_true hb]
    exact h
  | false =>
    rw [hb, cond_false] at hl
    exact hs.sl t' v' hl
theorem St.obj {R B : Nat → Prop} {g : Nat → GS} {a : Act} {w : World} (hs : St P C σ m R B g a w) {n : Nat} {o0 o : Ob} (h0 : lk m n = some o0) (h : RO P w R B g n o) : St P C σ ((n, o) :: m) R B g a w := by
  refine { hs with ob := ?_, ow := ?_ }
  · intro n' o' hl
    change (bif Nat.beq n n' then some o else lk m n') = some o' at hl
    cases hb : Nat.beq n n' with
    | true =>
      rw [hb, cond_true] at hl
      injection hl with hl
      subst hl
      rw [← Nat.eq_of_beq_eq_true hb]
      exact h
    | false =>
      rw [hb, cond_false] at hl
      exact hs.ob n' o' hl
  · intro n' o' b hl hg
    change (bif Nat.beq n n' then some o else lk m n') = some o' at hl
    cases hb : Nat.beq n n' with
    | true =>
      have := Nat.eq_of_beq_eq_true hb
      subst this
      exact hs.ow n o0 b h0 hg
    | false =>
      rw [hb, cond_false] at hl
      exact hs.ow n' o' b hl hg
theorem Ent.junkS (t : Nat) {x : CV} (h : lk σ t = some (Cc x)) : Ent P C σ m ((t, Cc .junk) :: σ) m := fun R B g a w hs =>
  ⟨R, B, g, hs.slot (v := Cc .junk) (RC.junk (x := x) (hs.sl t _ h))⟩
theorem Ent.junkB (n k : Nat) {e : TypeId} {cs : List CV} (h : lk m n = some (.row e [cs])) : Ent P C σ m σ ((n, .row e [cs.set k .junk]) :: m) := fun R B g a w hs => by
  refine ⟨R, B, g, hs.obj h ?_⟩
  rcases hs.ob n _ h with ⟨h1, h2⟩ | ⟨b, cur, h1, h2, h3, h4, h5⟩
  · cases h2
  · refine .inr ⟨b, cur, h1, h2, fun c hc => ?_, by simpa using h4, fun j i c x hj hx => ?_⟩
    · have : c = cs.set k .junk := by simpa using hc
      subst this
      simpa using h3 cs List.mem_cons_self
    · cases j with
      | succ j => simp at hj
      | zero =>
        simp at hj
        subst hj
        exact rel_junk (T := fun i u => cur[0 * szP P e + i]? = some u) (fun i x hx => h5 0 i cs x rfl hx) i x hx
theorem Ent.nilNew (n : Nat) (e : TypeId) (hn : C.pn.elem n = false) : Ent P C σ m (junkSl [n] σ) ((n, .prow e []) :: junkM [n] m) := fun R B g a w hs =>
  ⟨R, B, upd g n .nil, hs.nilName n (by
    intro h
    rw [List.elem_eq_true_of_mem h] at hn
    cases hn) e⟩
def QWL : List PV → List PV → Prop
  | [], [] => True
  | p :: r, p' :: r' => QW p p' ∧ QWL r r'
  | _, _ => False
theorem QWL.get : ∀ {l l' : List PV}, QWL l l' → l'.length = l.length ∧ ∀ (k : Nat) p p', l[k]? = some p → l'[k]? = some p' → QW p p'
  | [], [], _ => ⟨rfl, fun k p p' h => by simp at h⟩
  | p :: r, p' :: r', h => by
    obtain ⟨h1, h2⟩ := QWL.get h.2
    refine ⟨by simp [h1], fun k x x' hx hx' => ?_⟩
    cases k with
    | zero =>
      simp at hx hx'
      subst hx
      subst hx'
      exact h.1
    | succ k => exact h2 k x x' (by simpa using hx) (by simpa using hx')
  | [], _ :: _, h => h.elim
  | _ :: _, [], h => h.elim
theorem QW.xsm {α : Type} {enc enc' : α → List PV} (h : ∀ a, QWL (enc a) (enc' a)) {q q' : Bool} (hq : q' = true → q = true) (xs : List α) : QW (.xs q (xs.map enc)) (.xs q' (xs.map enc')) := by
  refine .xs hq (by simp) (fun j cs cs' h1 h2 => ?_) (fun j k cs cs' p p' h1 h2 h3 h4 => ?_)
  · rw [List.getElem?_map] at h1 h2
    cases hx : xs[j]? with
    | none => rw [hx] at h1; cases h1
    | some a =>
      rw [hx] at h1 h2
      injection h1 with h1
      injection h2 with h2
      subst h1
      subst h2
      exact (h a).get.1
  · rw [List.getElem?_map] at h1 h2
    cases hx : xs[j]? with
    | none => rw [hx] at h1; cases h1
    | some a =>
      rw [hx] at h1 h2
      injection h1 with h1
      injection h2 with h2
      subst h1
      subst h2
      exact (h a).get.2 k p p' h3 h4
theorem permP_xs {α : Type} {enc : α → List PV} (h : ∀ a, PermPL (enc a)) (xs : List α) : PermP (.xs true (xs.map enc)) := .xs fun cs hcs p hp => by
  obtain ⟨a, _, rfl⟩ := List.mem_map.1 hcs
  exact (h a).spec p hp
theorem St.freeze {R B : Nat → Prop} {g : Nat → GS} {a : Act} {w : World} (hs : St P C σ m R B g a w) {n : Nat} {e : TypeId} {els : List (List PV)} (ho : lk m n = some (.prow e els)) (hn : n ∉ C.pn) (hU : ∀ b, C.U0 b → ∃ k ∈ C.pn, (C.g0 k).has b) :
    ∃ R' B' g', Adv R B g w [] [n] R' B' g' w ∧ St P C (junkSl [n] σ) (junkM [n] m) R' B' g' a w ∧ ∀ v, RC P w R B g (.loc n 0 els.length) v → RPV w R' B' (.xs true els) v := by
  have hro : ROw P w R B g n e (pvs els) := hs.ob n _ ho
  have hw := hs.wf
  let R' : Nat → Prop := fun b => R b ∨ (g n).has b
  let B' : Nat → Prop := fun b => B b ∨ (g n).has b
  have hne : ∀ k, k ≠ n → upd g n .dead k = g k := fun k hk => upd_ne g _ hk
  have hwf : WF R' B' (upd g n .dead) w := by
    have h0 := hw.upd n .dead (w' := w) (Nat.le_refl _) (fun b hb => hb.elim) (fun i j b hi => by cases hi)
    refine ⟨fun b hb => hb.imp (hw.rb b) id, fun b hb => hb.elim (hw.lt b) fun h => (hw.ownH n b h).2, fun k b hk => ⟨fun hB => ?_, (h0.ownH k b hk).2⟩, h0.injH, h0.nd⟩
    rcases hB with hB | hB
    · exact (h0.ownH k b hk).1 hB
    · by_cases hkn : k = n
      · subst hkn; rw [upd_same] at hk; exact hk.elim
      · rw [hne k hkn] at hk
        exact hkn (hw.injH k n b hk hB)
  have had : Adv R B g w [] [n] R' B' (upd g n .dead) w := by
    refine ⟨hwf, fun _ h => .inl h, fun _ h => .inl h, rfl, rfl, rfl, Nat.le_refl _, fun _ _ _ => rfl, fun k hk => hne k (by simpa using hk), fun k hk b hb => ?_, fun k hk => by cases hk⟩
    have : k = n := by simpa using hk
    subst this
    rw [upd_same] at hb
    exact hb.elim
  refine ⟨R', B', upd g n .dead, had, ?_, fun v hv => ?_⟩
  · refine { hs with wf := hwf, sl := ?_, ob := ?_, ow := ?_, perm := ?_, r0 := ?_, pin := ?_ }
    · intro t v hl
      rw [lk_junkSl] at hl
      cases hv : lk σ t with
      | none => rw [hv] at hl; cases hl
      | some u =>
        rw [hv] at hl
        injection hl with hl
        subst hl
        exact had.ra hw (hs.sl t u hv)
    · intro k o hl
      obtain ⟨hk, o0, h0, rfl⟩ := lk_junkM [n] m k o hl
      exact had.ro hw hk (by simp) (hs.ob k o0 h0)
    · intro k o b hl hg
      obtain ⟨hk, o0, h0, _⟩ := lk_junkM [n] m k o hl
      rw [hne k (by simpa using hk)] at hg
      exact hs.ow k o0 b h0 hg
    · intro b hb
      rcases hb with hb | hb
      · exact hs.perm b hb
      · rcases hs.ow n _ b ho hb with h | h
        · exact .inr h
        · obtain ⟨k, hk, hg⟩ := hU b h
          have := hw.injH k n b (by rw [hs.pin k hk]; exact hg) hb
          subst this
          exact absurd hk hn
    · intro b hb
      exact .inl (hs.r0 b hb)
    · intro k hk
      rw [hne k (fun h => hn (h ▸ hk))]
      exact hs.pin k hk
  · obtain ⟨_, hv⟩ := hv
    rcases hv with ⟨h1, _, h3, h4⟩ | ⟨_, h2, _⟩ | ⟨b, cap, cur, e', k1, k2, k3, k4, k5, k6⟩
    · have : els = [] := List.eq_nil_of_length_eq_zero h3
      subst this
      subst h4
      exact .emp
    · exact absurd rfl h2
    · rcases hro with ⟨h1, _⟩ | ⟨b', cur', h1, h2, h3, h4, h5⟩
      · rw [k1] at h1; cases h1
      · rw [k1] at h1
        injection h1 with h1
        subst h1
        rw [k2] at h2
        injection h2 with h2
        injection h2 with h2 h6 h7
        subst h2
        subst h6
        subst k6
        have hval : ∀ j k cs p, els[j]? = some cs → cs[k]? = some p → ∃ u, cur[j * szP P e' + k]? = some u ∧ RC P w R B g (.pv p) u := fun j k cs p hj hk => by
          have := h5 j k (cs.map .pv) (.pv p) (by simp [pvs, hj]) (by simp [hk])
          exact this
        refine .xs (s := szP P e') (fun j k => cur.getD (j * szP P e' + k) undef) rfl (.inr (GS.has_blk k1)) k3 (fun cs hcs => ?_) (fun j k cs p hj hk => ?_) (fun j k cs p hj hk => ?_)
        · have := h3 (cs.map .pv) (List.mem_map.2 ⟨cs, hcs, rfl⟩)
          simpa using this
        · obtain ⟨u, hu, _⟩ := hval j k cs p hj hk
          rw [Nat.zero_mul, add_lit, Nat.zero_add, row_cell k2, hu]
          simp [Array.getD_eq_getD_getElem?, hu]
        · obtain ⟨u, hu, hr⟩ := hval j k cs p hj hk
          have : cur.getD (j * szP P e' + k) undef = u := by simp [Array.getD_eq_getD_getElem?, hu]
          rw [this]
          exact (had.rc hw (x := .pv p) hr).2
section
variable {α : Type} {enc : α → List PV}
theorem Ent.freezeS (t n : Nat) {e : TypeId} {xs : List α} {len : Nat} (hU : ∀ b, C.U0 b → ∃ k ∈ C.pn, (C.g0 k).has b) (hn : C.pn.elem n = false) (hl : len = xs.length) (h : lk σ t = some (Cc (.loc n 0 len))) (ho : lk m n = some (.prow e (xs.map enc))) :
    Ent P C σ m ((t, Cc (.pv (.xs true (xs.map enc)))) :: junkSl [n] σ) (junkM [n] m) := fun R B g a w hs => by
  subst hl
  obtain ⟨R', B', g', had, hs', hv⟩ := hs.freeze ho (fun h => by rw [List.elem_eq_true_of_mem h] at hn; cases hn) hU
  have hr : RC P w R B g (.loc n 0 xs.length) (a.tmps.getD t undef) := hs.sl t _ h
  exact ⟨R', B', g', hs'.slot (v := Cc (.pv (.xs true (xs.map enc)))) ⟨hr.1, hv _ (by rw [List.length_map]; exact hr)⟩⟩
end
end
end Go.Fw
end
section
set_option linter.unusedVariables false
set_option linter.unusedSimpArgs false
set_option linter.unnecessarySimpa false
namespace Go.Fw
def bkC (p k m : Nat) : CV → CV
  | .loc n o l => bif Nat.beq n m then .tl p k o l else .loc n o l
  | .pl n o => bif Nat.beq n m then .tpl p k o else .pl n o
  | x => x
def bkS (p k m : Nat) : SV → SV
  | .c x => .c (bkC p k m x)
  | .agg cs => .agg (cs.map (bkC p k m))
def bkA (p k m : Nat) : AV → AV
  | .s x => .s (bkS p k m x)
  | .tup xs => .tup (xs.map (bkS p k m))
def foC (p m : Nat) : CV → Bool
  | .loc n _ _ => Nat.beq n m || ![m, p].elem n
  | .pl n _ => Nat.beq n m || ![m, p].elem n
  | x => nrC [m, p] x
def foS (p m : Nat) : SV → Bool
  | .c x => foC p m x
  | .agg cs => cs.all (foC p m)
def foA (p m : Nat) : AV → Bool
  | .s x => foS p m x
  | .tup xs => xs.all (foS p m)
section
variable {P : Program} {w : World} {R B : Nat → Prop} {g g' : Nat → GS} {X : List Nat} {p k m : Nat}
theorem RC.av {x : CV} {v : Value} (hz : nrC X x = true) (hg : ∀ n, n ∉ X → g' n = g n) (h : RC P w R B g x v) : RC P w R B g' x v := by
  refine ⟨h.1, ?_⟩
  have h2 := h.2
  cases x with
  | pv p => exact h2
  | px q cells => exact h2
  | loc n off len =>
    have hn := hg n (notin_of_elem (by simpa [nrC] using hz))
    rcases h2 with ⟨h3, h4⟩ | h3 | ⟨b, cap, cur, e, h3, h4⟩
    · exact .inl ⟨hn.trans h3, h4⟩
    · exact .inr (.inl h3)
    · exact .inr (.inr ⟨b, cap, cur, e, hn.trans h3, h4⟩)
  | pl n off =>
    obtain ⟨b, h3, h4⟩ := h2
    exact ⟨b, (hg n (notin_of_elem (by simpa [nrC] using hz))).trans h3, h4⟩
  | fn f caps =>
    obtain ⟨vs, h3, h4, h5⟩ := h2
    exact ⟨vs, h3, h4, fun k n hk => by
      obtain ⟨b, h6, h7⟩ := h5 k n hk
      have hc : caps.any X.elem = false := by simpa [nrC] using hz
      have hn : X.elem n = false := by
        have := List.any_eq_false.1 hc n (List.mem_of_getElem? hk)
        simpa using this
      exact ⟨b, (hg n (notin_of_elem hn)).trans h6, h7⟩⟩
  | mref n =>
    obtain ⟨b, h3, h4⟩ := h2
    exact ⟨b, (hg n (notin_of_elem (by simpa [nrC] using hz))).trans h3, h4⟩
  | tl q j off len =>
    have hn := hg q (notin_of_elem (by simpa [nrC] using hz))
    rcases h2 with ⟨h3, h4⟩ | h3 | ⟨b, cap, cur, e, h3, h4⟩
    · exact .inl ⟨by rw [hn]; exact h3, h4⟩
    · exact .inr (.inl h3)
    · exact .inr (.inr ⟨b, cap, cur, e, by rw [hn]; exact h3, h4⟩)
  | tpl q j off =>
    obtain ⟨b, h3, h4⟩ := h2
    exact ⟨b, by rw [hg q (notin_of_elem (by simpa [nrC] using hz))]; exact h3, h4⟩
  | junk => trivial
theorem RS.av {x : SV} {v : Value} (hz : nrS X x = true) (hg : ∀ n, n ∉ X → g' n = g n) (h : RS P w R B g x v) : RS P w R B g' x v := by
  cases x with
  | c x => exact RC.av hz hg h
  | agg cs =>
    obtain ⟨vs, h1, h2, h3⟩ := h
    exact ⟨vs, h1, h2, fun k x hk => by
      obtain ⟨u, h4, h5⟩ := h3 k x hk
      exact ⟨u, h4, h5.av (List.all_eq_true.1 hz x (List.mem_of_getElem? hk)) hg⟩⟩
theorem ROw.av {n : Nat} {e : TypeId} {els : List (List CV)} (hn : n ∉ X) (hz : els.all (·.all (nrC X)) = true) (hg : ∀ n, n ∉ X → g' n = g n) (h : ROw P w R B g n e els) : ROw P w R B g' n e els := by
  rcases h with ⟨h1, h2⟩ | ⟨b, cur, h1, h2, h3, h4, h5⟩
  · exact .inl ⟨(hg n hn).trans h1, h2⟩
  · exact .inr ⟨b, cur, (hg n hn).trans h1, h2, h3, h4, fun j k cs x hj hk => by
      obtain ⟨u, h6, h7⟩ := h5 j k cs x hj hk
      exact ⟨u, h6, h7.av (List.all_eq_true.1 (List.all_eq_true.1 hz cs (List.mem_of_getElem? hj)) x (List.mem_of_getElem? hk)) hg⟩⟩
theorem RO.av {n : Nat} {o : Ob} (hn : n ∉ X) (hz : nrO X o = true) (hg : ∀ n, n ∉ X → g' n = g n) (h : RO P w R B g n o) : RO P w R B g' n o := by
  cases o with
  | row e els => exact ROw.av hn hz hg h
  | prow e els => exact ROw.av hn (by simp [pvs, List.all_eq_true, nrC]) hg h
  | mp es =>
    obtain ⟨b, ents, clock, h1, h2⟩ := h
    exact ⟨b, ents, clock, (hg n hn).trans h1, h2⟩
  | pool e rows =>
    obtain ⟨⟨bs, h1, h2⟩, h3⟩ := h
    exact ⟨⟨bs, (hg n hn).trans h1, h2⟩, by rw [hg n hn]; exact h3⟩
  | trow e p lens => exact ROw.av hn (List.all_eq_true.2 fun cs hcs => by
      obtain ⟨j, l, rfl⟩ := mem_tcells hcs
      simpa [nrC, nrO] using hz) hg h
  | unk => trivial
theorem RC.fo {x : CV} {v : Value} (hz : foC p m x = true) (h1 : g' m = (g p).at k) (hg : ∀ n, n ∉ [m, p] → g' n = g n) (h : RC P w R B g (bkC p k m x) v) : RC P w R B g' x v := by
  cases x with
  | loc n off len =>
    simp only [bkC] at h
    cases hb : Nat.beq n m with
    | true =>
      rw [hb, cond_true] at h
      have := Nat.eq_of_beq_eq_true hb
      subst this
      refine ⟨h.1, ?_⟩
      rcases h.2 with ⟨h3, h4⟩ | h3 | ⟨b, cap, cur, e, h3, h4⟩
      · exact .inl ⟨h1.trans h3, h4⟩
      · exact .inr (.inl h3)
      · exact .inr (.inr ⟨b, cap, cur, e, h1.trans h3, h4⟩)
    | false =>
      rw [hb, cond_false] at h
      simp only [foC] at hz
      rw [hb, Bool.false_or] at hz
      exact RC.av (X := [m, p]) hz hg h
  | pl n off =>
    simp only [bkC] at h
    cases hb : Nat.beq n m with
    | true =>
      rw [hb, cond_true] at h
      have := Nat.eq_of_beq_eq_true hb
      subst this
      obtain ⟨b, h3, h4⟩ := h.2
      exact ⟨h.1, b, h1.trans h3, h4⟩
    | false =>
      rw [hb, cond_false] at h
      simp only [foC] at hz
      rw [hb, Bool.false_or] at hz
      exact RC.av (X := [m, p]) hz hg h
  | _ => exact RC.av (X := [m, p]) hz hg h
theorem RC.bk {x : CV} {v : Value} (hz : foC p m x = true) (h1 : (g' p).at k = g m) (hg : ∀ n, n ∉ [m, p] → g' n = g n) (h : RC P w R B g x v) : RC P w R B g' (bkC p k m x) v := by
  cases x with
  | loc n off len =>
    simp only [bkC]
    cases hb : Nat.beq n m with
    | true =>
      rw [cond_true]
      have := Nat.eq_of_beq_eq_true hb
      subst this
      refine ⟨h.1, ?_⟩
      rcases h.2 with ⟨h3, h4⟩ | h3 | ⟨b, cap, cur, e, h3, h4⟩
      · exact .inl ⟨h1.trans h3, h4⟩
      · exact .inr (.inl h3)
      · exact .inr (.inr ⟨b, cap, cur, e, h1.trans h3, h4⟩)
    | false =>
      rw [cond_false]
      simp only [foC] at hz
      rw [hb, Bool.false_or] at hz
      exact RC.av (X := [m, p]) hz hg h
  | pl n off =>
    simp only [bkC]
    cases hb : Nat.beq n m with
    | true =>
      rw [cond_true]
      have := Nat.eq_of_beq_eq_true hb
      subst this
      obtain ⟨b, h3, h4⟩ := h.2
      exact ⟨h.1, b, h1.trans h3, h4⟩
    | false =>
      rw [cond_false]
      simp only [foC] at hz
      rw [hb, Bool.false_or] at hz
      exact RC.av (X := [m, p]) hz hg h
  | _ => exact RC.av (X := [m, p]) hz hg h
theorem RS.fo {x : SV} {v : Value} (hz : foS p m x = true) (h1 : g' m = (g p).at k) (hg : ∀ n, n ∉ [m, p] → g' n = g n) (h : RS P w R B g (bkS p k m x) v) : RS P w R B g' x v := by
  cases x with
  | c x => exact RC.fo hz h1 hg h
  | agg cs =>
    obtain ⟨vs, h2, h3, h4⟩ := h
    refine ⟨vs, h2, by simpa using h3, fun j x hj => ?_⟩
    obtain ⟨u, h5, h6⟩ := h4 j (bkC p k m x) (by rw [List.getElem?_map, hj]; rfl)
    exact ⟨u, h5, h6.fo (List.all_eq_true.1 hz x (List.mem_of_getElem? hj)) h1 hg⟩
theorem RA.fo {x : AV} {v : Value} (hz : foA p m x = true) (h1 : g' m = (g p).at k) (hg : ∀ n, n ∉ [m, p] → g' n = g n) (h : RA P w R B g (bkA p k m x) v) : RA P w R B g' x v := by
  cases x with
  | s x => exact RS.fo hz h1 hg h
  | tup cs =>
    obtain ⟨vs, h2, h3, h4⟩ := h
    refine ⟨vs, h2, by simpa using h3, fun j x hj => ?_⟩
    obtain ⟨u, h5, h6⟩ := h4 j (bkS p k m x) (by rw [List.getElem?_map, hj]; rfl)
    exact ⟨u, h5, RS.fo (List.all_eq_true.1 hz x (List.mem_of_getElem? hj)) h1 hg h6⟩
theorem RS.bk {x : SV} {v : Value} (hz : foS p m x = true) (h1 : (g' p).at k = g m) (hg : ∀ n, n ∉ [m, p] → g' n = g n) (h : RS P w R B g x v) : RS P w R B g' (bkS p k m x) v := by
  cases x with
  | c x => exact RC.bk hz h1 hg h
  | agg cs =>
    obtain ⟨vs, h2, h3, h4⟩ := h
    refine ⟨vs, h2, by simpa using h3, fun j x hj => ?_⟩
    rw [List.getElem?_map] at hj
    cases hc : cs[j]? with
    | none => rw [hc] at hj; cases hj
    | some y =>
      rw [hc] at hj
      injection hj with hj
      subst hj
      obtain ⟨u, h5, h6⟩ := h4 j y hc
      exact ⟨u, h5, h6.bk (List.all_eq_true.1 hz y (List.mem_of_getElem? hc)) h1 hg⟩
theorem RA.bk {x : AV} {v : Value} (hz : foA p m x = true) (h1 : (g' p).at k = g m) (hg : ∀ n, n ∉ [m, p] → g' n = g n) (h : RA P w R B g x v) : RA P w R B g' (bkA p k m x) v := by
  cases x with
  | s x => exact RS.bk hz h1 hg h
  | tup cs =>
    obtain ⟨vs, h2, h3, h4⟩ := h
    refine ⟨vs, h2, by simpa using h3, fun j x hj => ?_⟩
    rw [List.getElem?_map] at hj
    cases hc : cs[j]? with
    | none => rw [hc] at hj; cases hj
    | some y =>
      rw [hc] at hj
      injection hj with hj
      subst hj
      obtain ⟨u, h5, h6⟩ := h4 j y hc
      exact ⟨u, h5, RS.bk (List.all_eq_true.1 hz y (List.mem_of_getElem? hc)) h1 hg h6⟩
theorem PRow.of {n : Nat} {e : TypeId} {els : List (List PV)} (h : ROw P w R B g n e (pvs els)) : PRow P w R B (g n) e els := by
  rcases h with ⟨h1, h2⟩ | ⟨b, cur, h1, h2, h3, h4, h5⟩
  · exact .inl ⟨h1, by simpa [pvs] using h2⟩
  · refine .inr ⟨b, cur, h1, h2, fun cs hcs => ?_, by simpa [pvs] using h4, fun j k cs x hj hk => ?_⟩
    · have := h3 (cs.map .pv) (List.mem_map.2 ⟨cs, hcs, rfl⟩)
      simpa using this
    · obtain ⟨u, hu, hr⟩ := h5 j k (cs.map .pv) (.pv x) (by simp [pvs, hj]) (by simp [hk])
      exact ⟨u, hu, hr.2⟩
theorem PRow.row {n : Nat} {s : GS} {e : TypeId} {els : List (List PV)} (h : PRow P w R B s e els) (hn : g n = s) : ROw P w R B g n e (pvs els) := by
  rcases h with ⟨h1, h2⟩ | ⟨b, cur, h1, h2, h3, h4, h5⟩
  · exact .inl ⟨hn.trans h1, by rw [h2]; rfl⟩
  · refine .inr ⟨b, cur, hn.trans h1, h2, fun cs hcs => ?_, by simpa [pvs] using h4, fun j k cs x hj hk => ?_⟩
    · obtain ⟨c0, hc0, rfl⟩ := List.mem_map.1 hcs
      simpa using h3 c0 hc0
    · simp only [pvs, List.getElem?_map] at hj
      cases hc : els[j]? with
      | none => rw [hc] at hj; cases hj
      | some c0 =>
        rw [hc] at hj
        injection hj with hj
        subst hj
        rw [List.getElem?_map] at hk
        cases hc2 : c0[k]? with
        | none => rw [hc2] at hk; cases hk
        | some y =>
          rw [hc2] at hk
          injection hk with hk
          subst hk
          obtain ⟨u, hu, hr⟩ := h5 j k c0 y hc hc2
          exact ⟨u, hu, hr.oneCell, hr⟩
def GS.hole (s : GS) (k : Nat) : GS := match s with
  | .pool bs => .pool (bs.set k none)
  | s => s
theorem GS.hole_at {s : GS} {k j : Nat} (h : j ≠ k) : (s.hole k).at j = s.at j := by
  cases s with
  | pool bs => simp only [GS.hole, GS.at, List.getElem?_set_ne (fun e => h e.symm)]
  | _ => rfl
theorem GS.hole_hole {s : GS} {k b : Nat} (h : (s.hole k).at k = .blk b) : False := by
  cases s with
  | pool bs =>
    simp only [GS.hole, GS.at, List.getElem?_set] at h
    split at h
    · rename_i o b2 hb
      by_cases hl : k < bs.length <;> simp [hl] at hb
    · cases h
    · cases h
  | _ => cases h
theorem GS.mem_at {s : GS} {bs : List (Option Nat)} (hs : s = .pool bs) {b : Nat} (h : s.has b) : ∃ j, s.at j = .blk b := by
  subst hs
  obtain ⟨j, hj⟩ := List.mem_iff_getElem?.1 (show some b ∈ bs from h)
  exact ⟨j, by simp only [GS.at, hj]⟩
theorem GS.hole_has {s : GS} {bs : List (Option Nat)} (hs : s = .pool bs) {k b : Nat} (h : (s.hole k).has b) : s.has b ∧ ∃ j, j ≠ k ∧ s.at j = .blk b := by
  obtain ⟨j, hj⟩ := GS.mem_at (s := s.hole k) (bs := bs.set k none) (by rw [hs]; rfl) h
  have hne : j ≠ k := fun e => by rw [e] at hj; exact GS.hole_hole hj
  rw [GS.hole_at hne] at hj
  exact ⟨GS.has_at hj, j, hne, hj⟩
theorem GS.has_hole {s : GS} {bs : List (Option Nat)} (hs : s = .pool bs) {k b : Nat} (h : s.has b) : (s.hole k).has b ∨ s.at k = .blk b := by
  obtain ⟨j, hj⟩ := GS.mem_at hs h
  by_cases hk : j = k
  · subst hk; exact .inr hj
  · left
    rw [← GS.hole_at (k := k) hk] at hj
    exact GS.has_at hj
def foG (p k m : Nat) (g : Nat → GS) : Nat → GS := fun n => if n = m then (g p).at k else if n = p then (g p).hole k else g n
theorem foG_m : foG p k m g m = (g p).at k := if_pos rfl
theorem foG_p (h : p ≠ m) : foG p k m g p = (g p).hole k := by unfold foG; rw [if_neg h, if_pos rfl]
theorem foG_o {n : Nat} (h : n ∉ [m, p]) : foG p k m g n = g n := by
  unfold foG
  rw [if_neg fun e => h (by simp [e]), if_neg fun e => h (by simp [e])]
theorem GS.at_has {s : GS} {k b : Nat} (h : (s.at k).has b) : s.at k = .blk b := by
  cases s with
  | pool bs =>
    simp only [GS.at] at h ⊢
    cases hb : bs[k]? with
    | none => rw [hb] at h; exact h.elim
    | some o =>
      rw [hb] at h
      cases o with
      | none => exact h.elim
      | some c =>
        have : b = c := h
        rw [this]
  | _ => exact h.elim
theorem GS.at_at {s : GS} {k j b : Nat} (h : (s.at k).at j = .blk b) : False := by
  cases s with
  | pool bs =>
    simp only [GS.at] at h
    cases hb : bs[k]? with
    | none => rw [hb] at h; cases h
    | some o => rw [hb] at h; cases o <;> cases h
  | _ => cases h
theorem foG_has (hw : WF R B g w) {bs : List (Option Nat)} (hs : g p = .pool bs) (hp : p ≠ m) {n b : Nat} (h : (foG p k m g n).has b) : (n = m ∧ (g p).at k = .blk b) ∨ (n = p ∧ ∃ j, j ≠ k ∧ (g p).at j = .blk b) ∨ (n ∉ [m, p] ∧ (g n).has b) := by
  by_cases h1 : n = m
  · subst h1
    rw [foG_m] at h
    exact .inl ⟨rfl, GS.at_has h⟩
  · by_cases h2 : n = p
    · subst h2
      rw [foG_p hp] at h
      exact .inr (.inl ⟨rfl, (GS.hole_has hs h).2⟩)
    · have : n ∉ [m, p] := by simp [h1, h2]
      rw [foG_o this] at h
      exact .inr (.inr ⟨this, h⟩)
theorem foG_wf (hw : WF R B g w) {bs : List (Option Nat)} (hs : g p = .pool bs) (hp : p ≠ m) : WF R B (foG p k m g) w := by
  refine ⟨hw.rb, hw.lt, fun n b h => ?_, fun n j b h1 h2 => ?_, fun n i j b h1 h2 => ?_⟩
  · rcases foG_has hw hs hp h with ⟨_, h⟩ | ⟨_, j, _, h⟩ | ⟨_, h⟩
    · exact hw.ownH p b (GS.has_at h)
    · exact hw.ownH p b (GS.has_at h)
    · exact hw.ownH n b h
  · rcases foG_has hw hs hp h1 with ⟨rfl, h3⟩ | ⟨rfl, i, hi, h3⟩ | ⟨hn, h3⟩ <;> rcases foG_has hw hs hp h2 with ⟨rfl, h4⟩ | ⟨rfl, i2, hi2, h4⟩ | ⟨hj, h4⟩
    · rfl
    · exact absurd (hw.nd _ _ _ b h4 h3) hi2
    · have := hw.injH p j b (GS.has_at h3) h4
      subst this
      exact absurd (by simp) hj
    · exact absurd (hw.nd _ _ _ b h3 h4) hi
    · rfl
    · have := hw.injH n j b (GS.has_at h3) h4
      subst this
      exact absurd (by simp) hj
    · have := hw.injH p n b (GS.has_at h4) h3
      subst this
      exact absurd (by simp) hn
    · have := hw.injH j n b (GS.has_at h4) h3
      subst this
      exact absurd (by simp) hn
    · exact hw.injH n j b h3 h4
  · by_cases e1 : n = m
    · subst e1
      rw [foG_m] at h1
      exact (GS.at_at h1).elim
    · by_cases e2 : n = p
      · subst e2
        rw [foG_p hp] at h1 h2
        by_cases hi : i = k
        · subst hi; exact (GS.hole_hole h1).elim
        · by_cases hj : j = k
          · subst hj; exact (GS.hole_hole h2).elim
          · rw [GS.hole_at hi] at h1
            rw [GS.hole_at hj] at h2
            exact hw.nd _ _ _ b h1 h2
      · have : n ∉ [m, p] := by simp [e1, e2]
        rw [foG_o this] at h1 h2
        exact hw.nd _ _ _ b h1 h2
def unG (p m : Nat) (g g' : Nat → GS) : Nat → GS := fun n => if n = m then .dead else if n = p then g p else g' n
theorem unG_m : unG p m g g' m = .dead := if_pos rfl
theorem unG_p (h : p ≠ m) : unG p m g g' p = g p := by unfold unG; rw [if_neg h, if_pos rfl]
theorem unG_o {n : Nat} (h : n ∉ [m, p]) : unG p m g g' n = g' n := by
  unfold unG
  rw [if_neg fun e => h (by simp [e]), if_neg fun e => h (by simp [e])]
def swN (m p n : Nat) : Nat := bif Nat.beq n m then p else n
theorem unG_adv (hw : WF R B g w) {bs : List (Option Nat)} (hs : g p = .pool bs) (hp : p ≠ m) {W X : List Nat} {R' B' : Nat → Prop} {w' : World} (had : Adv R B (foG p k m g) w W X R' B' g' w') (hpW : p ∉ W) (hpX : p ∉ X) (hmX : m ∉ X) :
    Adv R B g w (W.map (swN m p)) (m :: X) R' B' (unG p m g g') w' := by
  have hgm : g' m = (g p).at k := (had.names m hmX).trans foG_m
  have hgp : g' p = (g p).hole k := (had.names p hpX).trans (foG_p hp)
  have hcase : ∀ n b, (unG p m g g' n).has b → (n = p ∧ ((g' p).has b ∨ (g' m).has b)) ∨ (n ∉ [m, p] ∧ (g' n).has b) := fun n b h => by
    by_cases e1 : n = m
    · subst e1; rw [unG_m] at h; exact h.elim
    · by_cases e2 : n = p
      · subst e2
        rw [unG_p hp] at h
        refine .inl ⟨rfl, ?_⟩
        rcases GS.has_hole (k := k) hs h with h | h
        · exact .inl (by rw [hgp]; exact h)
        · exact .inr (by rw [hgm, h]; rfl)
      · have : n ∉ [m, p] := by simp [e1, e2]
        rw [unG_o this] at h
        exact .inr ⟨this, h⟩
  have hW : ∀ n ∈ W, ∀ b, (foG p k m g n).has b → (g (swN m p n)).has b := fun n hn b h => by
    rcases foG_has hw hs hp h with ⟨rfl, h'⟩ | ⟨rfl, _⟩ | ⟨hnn, h'⟩
    · have : swN n p n = p := by unfold swN; rw [Nat.beq_refl]; rfl
      rw [this]
      exact GS.has_at h'
    · exact absurd hn hpW
    · have : swN m p n = n := by
        unfold swN
        have : Nat.beq n m = false := by
          cases hb : Nat.beq n m with
          | false => rfl
          | true => exact absurd (by simp [Nat.eq_of_beq_eq_true hb]) hnn
        rw [this]; rfl
      rw [this]
      exact h'
  have hWr : ∀ n ∈ W.map (swN m p), n ∉ m :: X → ∀ b, (g n).has b → ∃ j, j ∉ X ∧ (foG p k m g j).has b := fun n hn hnX b hb => by
    obtain ⟨j, hj, rfl⟩ := List.mem_map.1 hn
    by_cases e : swN m p j = p
    · rw [e] at hb
      rcases GS.has_hole (k := k) hs hb with h | h
      · exact ⟨p, hpX, by rw [foG_p hp]; exact h⟩
      · exact ⟨m, hmX, by rw [foG_m, h]; rfl⟩
    · have ej : swN m p j = j := by
        unfold swN at e ⊢
        cases hb2 : Nat.beq j m with
        | false => rfl
        | true => rw [hb2] at e; exact absurd rfl e
      rw [ej] at hb hnX e
      have hnn : j ∉ [m, p] := by
        simp only [List.mem_cons, List.not_mem_nil, or_false, not_or] at hnX ⊢
        exact ⟨hnX.1, e⟩
      exact ⟨j, fun h => hnX (List.mem_cons_of_mem _ h), by rw [foG_o hnn]; exact hb⟩
  have hfw := foG_wf (k := k) hw hs hp
  refine ⟨⟨had.wf.rb, had.wf.lt, fun n b h => ?_, fun n j b h1 h2 => ?_, fun n i j b h1 h2 => ?_⟩, had.r, had.b, had.os, had.tape, had.output, had.size, fun b hb hnW => had.heap b hb fun n hn h => hnW _ (List.mem_map.2 ⟨n, hn, rfl⟩) (hW n hn b h), fun n hn => ?_, fun n hn b hb => ?_, fun n hnW hnX b cur e hg hh => ?_⟩
  · rcases hcase n b h with ⟨_, h | h⟩ | ⟨_, h⟩ <;> exact had.wf.ownH _ b h
  · have key : ∀ n j, n = p → j ∉ [m, p] → ((g' p).has b ∨ (g' m).has b) → (g' j).has b → False := fun n j _ hj h1 h2 => by
      rcases h1 with h1 | h1
      · have := had.wf.injH _ _ b h1 h2; subst this; exact hj (by simp)
      · have := had.wf.injH _ _ b h1 h2; subst this; exact hj (by simp)
    rcases hcase n b h1 with ⟨e1, h3⟩ | ⟨hn, h3⟩ <;> rcases hcase j b h2 with ⟨e2, h4⟩ | ⟨hj, h4⟩
    · rw [e1, e2]
    · exact (key n j e1 hj h3 h4).elim
    · exact (key j n e2 hn h4 h3).elim
    · exact had.wf.injH n j b h3 h4
  · by_cases e1 : n = m
    · subst e1; rw [unG_m] at h1; cases h1
    · by_cases e2 : n = p
      · subst e2
        rw [unG_p hp] at h1 h2
        exact hw.nd _ _ _ b h1 h2
      · have : n ∉ [m, p] := by simp [e1, e2]
        rw [unG_o this] at h1 h2
        exact had.wf.nd _ _ _ b h1 h2
  · simp only [List.mem_cons, not_or] at hn
    by_cases e2 : n = p
    · subst e2; exact unG_p hp
    · have : n ∉ [m, p] := by simp [hn.1, e2]
      rw [unG_o this, had.names n hn.2, foG_o this]
  · rcases hcase n b hb with ⟨e, _⟩ | ⟨hnn, h⟩
    · subst e
      rcases List.mem_cons.1 hn with h | h
      · exact absurd h hp
      · exact absurd h hpX
    · have hnX : n ∈ X := by
        rcases List.mem_cons.1 hn with h | h
        · subst h; exact absurd (by simp) hnn
        · exact h
      rcases had.fresh n hnX b h with h | ⟨j, hj, h⟩
      · exact .inl h
      · exact .inr ⟨_, List.mem_map.2 ⟨j, hj, rfl⟩, hW j hj b h⟩
  · obtain ⟨j, hjX, hj⟩ := hWr n hnW hnX b hg
    exact had.ownH' hfw hjX hj hh
def focB (p m : Nat) (ins : List (Operand × AV)) (us0 : Mem) (v : AV) (df0 : Mem) (W X : List Nat) : Bool :=
  !Nat.beq p m && ins.all (fun q => foA p m q.2) && us0.all (fun q => ![m, p].elem q.1 && nrO [m, p] q.2) && foA p m v && df0.all (fun q => ![m, p].elem q.1 && nrO [m, p] q.2) && !W.elem p && !X.elem p && !X.elem m
theorem LT.focus {o : Oper} {ins : List (Operand × AV)} {us0 df0 : Mem} {v : AV} {W X : List Nat} {e : TypeId} {els els' : List (List PV)} {rows : List (List (List PV))}
    (h : LT P o ins ((m, .prow e els) :: us0) v ((m, .prow e els') :: df0) W X) (hk : rows[k]? = some els) (hc : focB p m ins us0 v df0 W X = true) :
    LT P o (ins.map fun q => (q.1, bkA p k m q.2)) ((p, .pool e rows) :: us0) (bkA p k m v) ((p, .pool e (rows.set k els')) :: df0) (W.map (swN m p)) (m :: X) := by
  simp only [focB, Bool.and_eq_true, Bool.not_eq_true'] at hc
  obtain ⟨⟨⟨⟨⟨⟨⟨hp, hins⟩, hus⟩, hv⟩, hdf⟩, hW⟩, hXp⟩, hXm⟩ := hc
  have hp := Nat.ne_of_beq_eq_false hp
  have hpW := notin_of_elem hW
  have hpX := notin_of_elem hXp
  have hmX := notin_of_elem hXm
  intro R B g w a hw hi hu K Q hK
  obtain ⟨⟨bs, hs, hbl⟩, hrows⟩ := hu (p, .pool e rows) List.mem_cons_self
  refine h R B (foG p k m g) w a (foG_wf hw hs hp) (fun q hq => ?_) (fun q hq => ?_) K Q fun u R' B' g' w' had hR hv' hob => ?_
  · exact RA.fo (List.all_eq_true.1 hins q hq) foG_m (fun n hn => foG_o hn) (hi (q.1, bkA p k m q.2) (List.mem_map.2 ⟨q, hq, rfl⟩))
  · cases hq with
    | head => exact (hrows k els hk).row foG_m
    | tail _ hq =>
      have h1 := List.all_eq_true.1 hus q hq
      simp only [Bool.and_eq_true, Bool.not_eq_true'] at h1
      exact RO.av (notin_of_elem h1.1) h1.2 (fun n hn => foG_o hn) (hu q (List.mem_cons_of_mem _ hq))
  · have hgm : g' m = (g p).at k := (had.names m hmX).trans foG_m
    have hadv := unG_adv hw hs hp had hpW hpX hmX
    refine hK u R' B' _ w' hadv hR (fun hd => RA.bk hv (by rw [unG_p hp]; exact hgm.symm) (fun n hn => unG_o hn) (hv' hd)) fun q hq => ?_
    cases hq with
    | head =>
      refine ⟨⟨bs, (unG_p hp).trans hs, by simpa using hbl⟩, fun j els2 hj => ?_⟩
      show PRow P w' R' B' ((unG p m g g' p).at j) e els2
      rw [unG_p hp]
      rw [List.getElem?_set] at hj
      by_cases hjk : k = j
      · subst hjk
        rw [if_pos rfl] at hj
        split at hj
        · injection hj with hj
          subst hj
          have := PRow.of (hob (m, .prow e els') List.mem_cons_self)
          rw [← hgm]
          exact this
        · cases hj
      · rw [if_neg hjk] at hj
        rcases hrows j els2 hj with h1 | ⟨b, cur, h1, h2, h3, h4, h5⟩
        · exact .inl h1
        · have hb : (foG p k m g p).has b := by
            rw [foG_p hp]
            exact GS.has_at (k := j) (by rw [GS.hole_at (fun e => hjk e.symm)]; exact h1)
          refine .inr ⟨b, cur, h1, (had.ownH (foG_wf hw hs hp) hpW hb).trans h2, h3, h4, fun i k' cs x hi hk' => ?_⟩
          obtain ⟨u, hu1, hu2⟩ := h5 i k' cs x hi hk'
          exact ⟨u, hu1, had.pv (foG_wf hw hs hp) hu2⟩
    | tail _ hq =>
      have h1 := List.all_eq_true.1 hdf q hq
      simp only [Bool.and_eq_true, Bool.not_eq_true'] at h1
      exact RO.av (notin_of_elem h1.1) h1.2 (fun n hn => unG_o hn) (hob q (List.mem_cons_of_mem _ hq))
end
end Go.Fw
end
section
set_option linter.unusedVariables false
set_option linter.unusedSimpArgs false
set_option linter.unnecessarySimpa false
namespace Go.Fw
section
variable {P : Program} {o : Oper} {α : Type} {enc : α → List PV}
def lensOf {α : Type} (rows : List (List α)) : List Nat := rows.map List.length
def rowsOf {α : Type} (enc : α → List PV) (rows : List (List α)) : List (List (List PV)) := rows.map fun r => r.map enc
theorem tcells_get {p : Nat} {lens : List Nat} {j l : Nat} (h : lens[j]? = some l) : (tcells p lens)[j]? = some [.tl p j 0 l] := by
  unfold tcells
  rw [List.getElem?_mapIdx, h]
  rfl
theorem tcells_inv {p : Nat} {lens : List Nat} {j : Nat} {cs : List CV} (h : (tcells p lens)[j]? = some cs) : ∃ l, lens[j]? = some l ∧ cs = [.tl p j 0 l] := by
  unfold tcells at h
  rw [List.getElem?_mapIdx] at h
  cases hl : lens[j]? with
  | none => rw [hl] at h; cases h
  | some l => rw [hl] at h; injection h with h; exact ⟨l, rfl, h.symm⟩
theorem tcells_len (p : Nat) (lens : List Nat) : (tcells p lens).length = lens.length := by simp [tcells]
theorem tcells_set (p : Nat) (lens : List Nat) (j l : Nat) : (tcells p lens).set j [.tl p j 0 l] = tcells p (lens.set j l) := by
  refine List.ext_getElem? fun i => ?_
  unfold tcells
  rw [List.getElem?_set, List.getElem?_mapIdx, List.getElem?_mapIdx, List.getElem?_set]
  by_cases h : j = i
  · subst h
    simp only [if_true, List.length_mapIdx]
    by_cases hl : j < lens.length
    · simp [hl]
    · simp [hl]
  · simp [h]
theorem LT.usT {ins : List (Operand × AV)} {v : AV} {df : Mem} {n p : Nat} {e : TypeId} {lens : List Nat} {W X : List Nat} (h : LT P o ins [(n, .row e (tcells p lens))] v df W X) : LT P o ins [(n, .trow e p lens)] v df W X :=
  h.conv (fun _ _ _ _ h => one_ro (ob := .row e (tcells p lens)) (us1 (ob := .trow e p lens) h)) fun _ _ _ _ h => h
theorem LT.xindex {x y : Operand} {t e : TypeId} {i : Int} {n p len : Nat} {rows : List (List α)} {r : List α} (hl : len = rows.length) (ho : o.op = .indexAddr t x y) (h : elB P t = some e) (hi : idx rows i = some r) :
    LT P o [(x, Cc (.loc n 0 len)), (y, Iv i)] [(n, .trow e p (lensOf rows))] (Cc (.pl n (i.toNat * szP P e))) [] [] [] := by
  subst hl
  exact LT.usT (LT.indexLoc ho h (idx_nn hi) (idx_lt hi))
theorem LT.xload {x : Operand} {t e : TypeId} {n p off : Nat} {i : Int} {rows : List (List α)} {r : List α} (ho : o.op = .load t x) (h : agB P t = some false) (hi : idx rows i = some r) (ha : off = i.toNat * szP P e) :
    LT P o [(x, Cc (.pl n off))] [(n, .trow e p (lensOf rows))] (Cc (.tl p i.toNat 0 r.length)) [] [] [] :=
  LT.usT (LT.loadPl1 ho h (tcells_get (by rw [lensOf, List.getElem?_map, idx_get hi]; rfl)) rfl (by rw [ha, Nat.add_zero]))
theorem LT.xlen {x : Operand} {t e : TypeId} {p k off len : Nat} (ho : o.op = .call { callee := .builtin .len, args := #[x], argTypes := #[t] }) (ht : P.underlying t = some (.slice e)) : LT P o [(x, Cc (.tl p k off len))] [] (Iv len) [] [] [] := .calm fun R B g w a _ hi _ => by
  obtain ⟨_, h⟩ := in1 hi
  refine ⟨.int .i64 len, ?_, sc_mk rfl⟩
  rcases h with ⟨_, _, rfl, h⟩ | ⟨rfl, _, _, _, h⟩ | ⟨b, cap, cur, e', _, _, _, _, _, h⟩ <;> simp [execOp, ho, resolve, invoke, builtin, h, Builtin.len_, run_underlying ht, goInt]
theorem LT.unpool {p k m n : Nat} {ins : List (Operand × AV)} {us0 df0 : Mem} {v : AV} {e e2 : TypeId} {els els' : List (List PV)} {rows : List (List (List PV))} {lens : List Nat}
    (h : LT P o ins ((m, .prow e2 els) :: us0) v ((m, .prow e2 els') :: df0) [m] [m]) (hk : rows[k]? = some els)
    (hc : (!Nat.beq p m && !Nat.beq n p && !Nat.beq n m && ins.all (fun q => foA p m q.2) && us0.all (fun q => ![m, p].elem q.1 && nrO [m, p] q.2) && df0.isEmpty) = true) :
    LT P o (ins.map fun q => (q.1, bkA p k m q.2)) ((p, .pool e2 rows) :: (n, .trow e p lens) :: us0) v [(m, .prow e2 els'), (p, .pool e2 (rows.set k [])), (n, .row e ((tcells p lens).set k [.junk]))] [p, n] [p, m] := by
  simp only [Bool.and_eq_true, Bool.not_eq_true'] at hc
  obtain ⟨⟨⟨⟨⟨hpm, hnp⟩, hnm⟩, hins⟩, hus⟩, hdf⟩ := hc
  have hp := Nat.ne_of_beq_eq_false hpm
  have hnp := Nat.ne_of_beq_eq_false hnp
  have hnm := Nat.ne_of_beq_eq_false hnm
  have hdf0 : df0 = [] := by simpa using hdf
  subst hdf0
  intro R B g w a hw hi hu K Q hK
  obtain ⟨⟨bs, hs, hbl⟩, hrows⟩ := hu (p, .pool e2 rows) List.mem_cons_self
  have hn : ROw P w R B g n e (tcells p lens) := hu (n, .trow e p lens) (List.mem_cons_of_mem _ List.mem_cons_self)
  have hfw := foG_wf (k := k) hw hs hp
  refine h R B (foG p k m g) w a hfw (fun q hq => ?_) (fun q hq => ?_) K Q fun u R' B' g' w' had hR hv' hob => ?_
  · exact RA.fo (List.all_eq_true.1 hins q hq) foG_m (fun n hn => foG_o hn) (hi (q.1, bkA p k m q.2) (List.mem_map.2 ⟨q, hq, rfl⟩))
  · cases hq with
    | head => exact (hrows k els hk).row foG_m
    | tail _ hq =>
      have h1 := List.all_eq_true.1 hus q hq
      simp only [Bool.and_eq_true, Bool.not_eq_true'] at h1
      exact RO.av (notin_of_elem h1.1) h1.2 (fun n hn => foG_o hn) (hu q (List.mem_cons_of_mem _ (List.mem_cons_of_mem _ hq)))
  · have hpW : p ∉ [m] := by simpa using hp
    have hgp : g' p = (g p).hole k := (had.names p hpW).trans (foG_p hp)
    have hgn : g' n = g n := (had.names n (by simpa using hnm)).trans (foG_o (by simp [hnm, hnp]))
    have hkeep : ∀ j b, j ≠ k → (g p).at j = .blk b → w'.heap[b]? = w.heap[b]? := fun j b hj hb => by
      refine had.ownH hfw hpW ?_
      rw [foG_p hp]
      exact GS.has_at (k := j) (by rw [GS.hole_at hj]; exact hb)
    have hadv : Adv R B g w [p, n] [p, m] R' B' g' w' := by
      refine ⟨had.wf, had.r, had.b, had.os, had.tape, had.output, had.size, fun b hb hnW => had.heap b hb fun j hj hh => ?_, fun j hj => ?_, fun j hj b hb => ?_, fun j hj hjX b cur e' hg hh => ?_⟩
      · have : j = m := by simpa using hj
        subst this
        rw [foG_m] at hh
        exact hnW p (by simp) (GS.has_at (GS.at_has hh))
      · have : j ∉ [m, p] := by simp at hj ⊢; exact ⟨hj.2, hj.1⟩
        rw [had.names j (by simp at hj ⊢; exact hj.2), foG_o this]
      · have hj : j = p ∨ j = m := by simpa using hj
        rcases hj with rfl | rfl
        · rw [hgp] at hb
          exact .inr ⟨j, by simp, (GS.hole_has hs hb).1⟩
        · rcases had.fresh j (by simp) b hb with h1 | ⟨i, hi, h1⟩
          · exact .inl h1
          · have : i = j := by simpa using hi
            subst this
            rw [foG_m] at h1
            exact .inr ⟨p, by simp, GS.has_at (GS.at_has h1)⟩
      · have : j = n := by
          simp at hj hjX
          rcases hj with h1 | h1
          · exact absurd h1 hjX.1
          · exact h1
        subst this
        exact had.ownH' hfw (n := j) (by simpa using hnm) (by rw [foG_o (by simp [hnm, hnp])]; exact hg) hh
    refine hK u R' B' g' w' hadv hR hv' fun q hq => ?_
    have hq : q = (m, .prow e2 els') ∨ q = (p, .pool e2 (rows.set k [])) ∨ q = (n, .row e ((tcells p lens).set k [.junk])) := by simpa using hq
    rcases hq with rfl | rfl | rfl
    · exact hob _ List.mem_cons_self
    · refine ⟨⟨bs.set k none, by rw [hgp, hs]; rfl, by simpa using hbl⟩, fun j els2 hj => ?_⟩
      show PRow P w' R' B' ((g' p).at j) e2 els2
      rw [hgp]
      rw [List.getElem?_set] at hj
      by_cases hjk : k = j
      · subst hjk
        rw [if_pos rfl] at hj
        split at hj
        · injection hj with hj
          subst hj
          rename_i hl
          refine .inl ⟨?_, rfl⟩
          rw [hs]
          simp only [GS.hole, GS.at, List.getElem?_set, if_true]
          rw [if_pos (by omega)]
        · cases hj
      · rw [if_neg hjk] at hj
        rw [GS.hole_at fun e => hjk e.symm]
        rcases hrows j els2 hj with h1 | ⟨b, cur, h1, h2, h3, h4, h5⟩
        · exact .inl h1
        · refine .inr ⟨b, cur, h1, (hkeep j b (fun e => hjk e.symm) h1).trans h2, h3, h4, fun i k' cs x hi hk' => ?_⟩
          obtain ⟨u, hu1, hu2⟩ := h5 i k' cs x hi hk'
          exact ⟨u, hu1, had.pv hfw hu2⟩
    · show ROw P w' R' B' g' n e ((tcells p lens).set k [.junk])
      rcases hn with ⟨h1, h2⟩ | ⟨b, cur, h1, h2, h3, h4, h5⟩
      · exact .inl ⟨hgn.trans h1, by rw [h2]; rfl⟩
      · have hfn : foG p k m g n = .blk b := (foG_o (by simp [hnm, hnp])).trans h1
        have hheap := had.ownH hfw (n := n) (by simpa using hnm) (GS.has_blk hfn)
        refine .inr ⟨b, cur, hgn.trans h1, hheap.trans h2, fun cs hcs => ?_, by simpa using h4, fun j i cs x hj hi => ?_⟩
        · rcases List.mem_or_eq_of_mem_set hcs with hc | hc
          · exact h3 cs hc
          · subst hc
            by_cases hkl : k < (tcells p lens).length
            · have := h3 _ (List.getElem_mem hkl)
              obtain ⟨j, l, hjl⟩ := mem_tcells (List.getElem_mem hkl)
              rw [hjl] at this
              exact this
            · rw [List.set_eq_of_length_le (by omega)] at hcs
              exact h3 _ hcs
        · rw [List.getElem?_set] at hj
          by_cases hjk : k = j
          · subst hjk
            rw [if_pos rfl] at hj
            split at hj
            · rename_i hkl
              injection hj with hj
              subst hj
              cases i with
              | succ i => simp at hi
              | zero =>
                have : x = .junk := by simpa using hi.symm
                subst this
                obtain ⟨j2, l, hjl⟩ := mem_tcells (List.getElem_mem hkl)
                obtain ⟨u, hu1, hu2⟩ := h5 k 0 _ (.tl p j2 0 l) (List.getElem?_eq_getElem hkl) (by rw [hjl]; rfl)
                exact ⟨u, hu1, hu2.1, trivial⟩
            · cases hj
          · rw [if_neg hjk] at hj
            obtain ⟨u, hu1, hu2⟩ := h5 j i cs x hj hi
            obtain ⟨l, _, rfl⟩ := tcells_inv hj
            cases i with
            | succ i => simp at hi
            | zero =>
              have : x = .tl p j 0 l := by simpa using hi.symm
              subst this
              refine ⟨u, hu1, hu2.1, ?_⟩
              have hat : (g' p).at j = (g p).at j := by rw [hgp, GS.hole_at fun e => hjk e.symm]
              rcases hu2.2 with ⟨q1, q2⟩ | q1 | ⟨b2, cap, cur2, e3, q1, q2, q3⟩
              · exact .inl ⟨hat.trans q1, q2⟩
              · exact .inr (.inl q1)
              · exact .inr (.inr ⟨b2, cap, cur2, e3, hat.trans q1, (hkeep j b2 (fun e => hjk e.symm) q1).trans q2, q3⟩)
end
end Go.Fw
end
section
set_option linter.unusedVariables false
set_option linter.unusedSimpArgs false
set_option linter.unnecessarySimpa false
namespace Go.Fw
section
variable {P : Program} {C : Ctx} {σ : Slots} {mm : Mem}
def adC (p k m : Nat) (x x2 : CV) : Prop := (∃ o l, x = .loc m o l ∧ x2 = .tl p k o l) ∨ (x2 = x ∧ ((∃ q o l, q ≠ k ∧ x = .tl p q o l) ∨ nrC [m, p] x = true))
def obS : Option Nat → GS
  | some b => .blk b
  | none => .nil
theorem Ent.adoptG {k n m p : Nat} {e e2 : TypeId} {els : List (List PV)} {rows rows2 : List (List (List PV))} {cells cells2 : List (List CV)}
    (hm : lk mm m = some (.prow e2 els)) (hp : lk mm p = some (.pool e2 rows)) (hn : lk mm n = some (.row e cells))
    (hd : (!Nat.beq p m && !Nat.beq n p && !Nat.beq n m && !C.pn.elem m && !C.pn.elem p) = true)
    (hbs : ∀ (bs : List (Option Nat)) ob, bs.length = rows.length → ∃ bs2 : List (Option Nat), bs2.length = rows2.length ∧ ∀ j, (GS.pool bs2).at j = if j = k then obS ob else (GS.pool bs).at j)
    (hr2 : ∀ (j : Nat) els2, rows2[j]? = some els2 → (j = k ∧ els2 = els) ∨ (j ≠ k ∧ rows[j]? = some els2))
    (hl : cells2.length = cells.length) (hc : ∀ (j : Nat) cs2, cells2[j]? = some cs2 → ∃ cs, cells[j]? = some cs ∧ cs2.length = cs.length ∧ ∀ (i : Nat) x2, cs2[i]? = some x2 → ∃ x, cs[i]? = some x ∧ adC p k m x x2) :
    Ent P C σ mm (junkSl [m, p] σ) ((p, .pool e2 rows2) :: (n, .row e cells2) :: junkM [m, p] mm) := fun R B g a w hs => by
  simp only [Bool.and_eq_true, Bool.not_eq_true'] at hd
  obtain ⟨⟨⟨⟨hpm, hnp⟩, hnm⟩, hm1⟩, hp1⟩ := hd
  have hpm := Nat.ne_of_beq_eq_false hpm
  have hnp := Nat.ne_of_beq_eq_false hnp
  have hnm := Nat.ne_of_beq_eq_false hnm
  have hm1 := notin_of_elem hm1
  have hp1 := notin_of_elem hp1
  have hw := hs.wf
  have hrm : PRow P w R B (g m) e2 els := PRow.of (hs.ob m _ hm)
  obtain ⟨⟨bs, hgp, hbl⟩, hrows⟩ := hs.ob p _ hp
  have hrn : ROw P w R B g n e cells := hs.ob n _ hn
  obtain ⟨ob, hob⟩ : ∃ ob, g m = obS ob := by
    rcases hrm with ⟨h1, _⟩ | ⟨b, _, h1, _⟩
    · exact ⟨none, h1⟩
    · exact ⟨some b, h1⟩
  obtain ⟨bs2, hbl2, hat⟩ := hbs bs ob hbl
  have hat' : ∀ j, (GS.pool bs2).at j = if j = k then g m else (g p).at j := fun j => by rw [hat j, hob, hgp]
  have hhas : ∀ b, (GS.pool bs2).has b → (g p).has b ∨ (g m).has b := fun b hb => by
    obtain ⟨j, hj⟩ := GS.mem_at rfl hb
    rw [hat' j] at hj
    split at hj
    · exact .inr (GS.has_blk hj)
    · exact .inl (GS.has_at hj)
  let g1 : Nat → GS := upd g m .dead
  have hwf1 : WF R B g1 w := hw.upd m .dead (Nat.le_refl _) (fun b hb => hb.elim) (fun i j b hi => by cases hi)
  have hg1 : ∀ q, q ≠ m → g1 q = g q := fun q hq => upd_ne g _ hq
  let g2 : Nat → GS := upd g1 p (.pool bs2)
  have hg2p : g2 p = .pool bs2 := upd_same ..
  have hg2m : g2 m = .dead := (upd_ne g1 _ (fun e => hpm e.symm)).trans (upd_same ..)
  have hg2 : ∀ q, q ≠ m → q ≠ p → g2 q = g q := fun q h1 h2 => (upd_ne g1 _ h2).trans (hg1 q h1)
  have hwf2 : WF R B g2 w := hwf1.upd p _ (Nat.le_refl _) (fun b hb => by
    rcases hhas b hb with h | h
    · refine ⟨(hw.ownH p b h).1, (hw.ownH p b h).2, fun q hq hq2 => ?_⟩
      by_cases e : q = m
      · subst e
        have : g1 q = .dead := upd_same ..
        rw [this] at hq2; exact hq2
      · rw [hg1 q e] at hq2
        exact hq (hw.injH q p b hq2 h)
    · refine ⟨(hw.ownH m b h).1, (hw.ownH m b h).2, fun q hq hq2 => ?_⟩
      by_cases e : q = m
      · subst e
        have : g1 q = .dead := upd_same ..
        rw [this] at hq2; exact hq2
      · rw [hg1 q e] at hq2
        exact e (hw.injH q m b hq2 h)) (fun i j b hi hj => by
    rw [hat' i] at hi
    rw [hat' j] at hj
    split at hi <;> split at hj
    · omega
    · exact absurd (hw.injH m p b (GS.has_blk hi) (GS.has_at hj)).symm hpm
    · exact absurd (hw.injH m p b (GS.has_blk hj) (GS.has_at hi)).symm hpm
    · exact hw.nd p i j b hi hj)
  have had : Adv R B g w [m, p, n] [m, p] R B g2 w := by
    refine ⟨hwf2, fun _ h => h, fun _ h => h, rfl, rfl, rfl, Nat.le_refl _, fun _ _ _ => rfl, fun q hq => ?_, fun q hq b hb => ?_, fun q hq hqX b cur e' hg hh => ⟨cur, hh, rfl⟩⟩
    · simp at hq
      exact hg2 q hq.1 hq.2
    · have : q = m ∨ q = p := by simpa using hq
      rcases this with rfl | rfl
      · rw [hg2m] at hb; exact hb.elim
      · rw [hg2p] at hb
        rcases hhas b hb with h | h
        · exact .inr ⟨q, by simp, h⟩
        · exact .inr ⟨m, by simp, h⟩
  have hst := hs.step (us := [(m, .prow e2 els), (p, .pool e2 rows), (n, .row e cells)]) (df := [(p, .pool e2 rows2), (n, .row e cells2)]) (W := [m, p, n]) (X := [m, p]) (d := none) (v := .tup []) (u := undef) ⟨hm, hp, hn, trivial⟩
    (fun q hq => by
      have : q = m ∨ q = p ∨ q = n := by simpa using hq
      rcases this with rfl | rfl | rfl
      · exact ⟨.inl (by simp), _, List.mem_cons_self⟩
      · exact ⟨.inl (by simp), _, List.mem_cons_of_mem _ List.mem_cons_self⟩
      · exact ⟨.inr (by simp), _, List.mem_cons_of_mem _ (List.mem_cons_of_mem _ List.mem_cons_self)⟩)
    (fun q hq => by
      have : q = (p, .pool e2 rows2) ∨ q = (n, .row e cells2) := by simpa using hq
      rcases this with rfl | rfl
      · exact .inl (by simp)
      · exact .inr (by simp)) rfl (fun q hq => by
      have : q = m ∨ q = p := by simpa using hq
      rcases this with rfl | rfl
      · exact hm1
      · exact hp1) had (fun b hb => .inl hb) (fun h => by cases h) (fun q hq => by
      have : q = (p, .pool e2 rows2) ∨ q = (n, .row e cells2) := by simpa using hq
      rcases this with rfl | rfl
      · refine ⟨⟨bs2, hg2p, hbl2⟩, fun j els2 hj => ?_⟩
        show PRow P w R B ((g2 p).at j) e2 els2
        rw [hg2p, hat' j]
        rcases hr2 j els2 hj with ⟨h1, h2⟩ | ⟨h1, h2⟩
        · rw [if_pos h1, h2]; exact hrm
        · rw [if_neg h1]; exact hrows j els2 h2
      · show ROw P w R B g2 n e cells2
        have hgn : g2 n = g n := hg2 n hnm hnp
        rcases hrn with ⟨h1, h2⟩ | ⟨b, cur, h1, h2, h3, h4, h5⟩
        · exact .inl ⟨hgn.trans h1, List.eq_nil_of_length_eq_zero (by rw [hl, h2]; rfl)⟩
        · refine .inr ⟨b, cur, hgn.trans h1, h2, fun cs2 hcs2 => ?_, by rw [hl]; exact h4, fun j i cs2 x2 hj hi => ?_⟩
          · obtain ⟨j, hj⟩ := List.mem_iff_getElem?.1 hcs2
            obtain ⟨cs, q1, q2, _⟩ := hc j cs2 hj
            rw [q2]
            exact h3 cs (List.mem_of_getElem? q1)
          · obtain ⟨cs, q1, _, q3⟩ := hc j cs2 hj
            obtain ⟨x, q4, q5⟩ := q3 i x2 hi
            obtain ⟨u, hu, hr⟩ := h5 j i cs x q1 q4
            refine ⟨u, hu, ?_⟩
            rcases q5 with ⟨o, l, rfl, rfl⟩ | ⟨rfl, ⟨q, o, l, hq, rfl⟩ | hz⟩
            · refine ⟨hr.1, ?_⟩
              have hk : (g2 p).at k = g m := by rw [hg2p, hat' k, if_pos rfl]
              rcases hr.2 with ⟨z1, z2⟩ | z1 | ⟨b2, cap, cur2, e3, z1, z2⟩
              · exact .inl ⟨hk.trans z1, z2⟩
              · exact .inr (.inl z1)
              · exact .inr (.inr ⟨b2, cap, cur2, e3, hk.trans z1, z2⟩)
            · refine ⟨hr.1, ?_⟩
              have hk : (g2 p).at q = (g p).at q := by rw [hg2p, hat' q, if_neg hq]
              rcases hr.2 with ⟨z1, z2⟩ | z1 | ⟨b2, cap, cur2, e3, z1, z2⟩
              · exact .inl ⟨hk.trans z1, z2⟩
              · exact .inr (.inl z1)
              · exact .inr (.inr ⟨b2, cap, cur2, e3, hk.trans z1, z2⟩)
            · exact RC.av hz (fun q hq => by
                simp at hq
                exact hg2 q hq.1 hq.2) hr)
  exact ⟨R, B, g2, hst⟩
end
end Go.Fw
end
section
set_option linter.unusedVariables false
set_option linter.unusedSimpArgs false
set_option linter.unnecessarySimpa false
namespace Go.Fw
section
variable {P : Program} {C : Ctx} {σ : Slots} {mm : Mem} {α : Type} {enc : α → List PV}
theorem lensOf_len (rows : List (List α)) : (lensOf rows).length = rows.length := by simp [lensOf]
theorem rowsOf_len (enc : α → List PV) (rows : List (List α)) : (rowsOf enc rows).length = rows.length := by simp [rowsOf]
theorem rowsOf_get {rows : List (List α)} {k : Nat} {r : List α} (h : rows[k]? = some r) : (rowsOf enc rows)[k]? = some (r.map enc) := by simp [rowsOf, h]
theorem Ent.tadoptAt {n m p len k : Nat} {e e2 : TypeId} {rows : List (List α)} {r : List α} (hl : len = r.length) (hk : k < rows.length) (hm : lk mm m = some (.prow e2 (r.map enc))) (hp : lk mm p = some (.pool e2 (rowsOf enc rows)))
    (hn : lk mm n = some (.row e ((tcells p (lensOf rows)).set k [.loc m 0 len]))) (hd : (!Nat.beq p m && !Nat.beq n p && !Nat.beq n m && !C.pn.elem m && !C.pn.elem p) = true) :
    Ent P C σ mm (junkSl [m, p] σ) ((p, .pool e2 (rowsOf enc (rows.set k r))) :: (n, .row e (tcells p (lensOf (rows.set k r)))) :: junkM [m, p] mm) := by
  subst hl
  have hcells : tcells p (lensOf (rows.set k r)) = (tcells p (lensOf rows)).set k [.tl p k 0 r.length] := by
    rw [tcells_set]
    simp [lensOf, List.map_set]
  have hlen : (tcells p (lensOf rows)).length = rows.length := by rw [tcells_len, lensOf_len]
  refine Ent.adoptG (k := k) hm hp hn hd (fun bs ob hbl => ⟨bs.set k ob, by simp [hbl, rowsOf_len], fun j => ?_⟩) (fun j els2 hj => ?_) (by rw [hcells]; simp) (fun j cs2 hj => ?_)
  · rw [rowsOf_len] at hbl
    simp only [GS.at, List.getElem?_set]
    by_cases h : j = k
    · subst h
      rw [if_pos rfl, if_pos rfl, if_pos (by omega)]
      cases ob <;> rfl
    · rw [if_neg h, if_neg fun e => h e.symm]
  · simp only [rowsOf, List.map_set, List.getElem?_set, List.length_map] at hj
    by_cases h : k = j
    · subst h
      rw [if_pos rfl, if_pos hk] at hj
      injection hj with hj
      exact .inl ⟨rfl, hj.symm⟩
    · rw [if_neg h] at hj
      exact .inr ⟨fun e => h e.symm, hj⟩
  · rw [hcells, List.getElem?_set] at hj
    by_cases h : k = j
    · subst h
      rw [if_pos rfl, if_pos (by rw [hlen]; exact hk)] at hj
      have : cs2 = [.tl p k 0 r.length] := by simpa using hj.symm
      subst this
      refine ⟨[.loc m 0 r.length], by rw [List.getElem?_set, if_pos rfl, if_pos (by rw [hlen]; exact hk)], rfl, fun i x2 hi => ?_⟩
      cases i with
      | zero => exact ⟨_, rfl, .inl ⟨0, r.length, rfl, by simpa using hi.symm⟩⟩
      | succ i => simp at hi
    · rw [if_neg h] at hj
      obtain ⟨l, hl, rfl⟩ := tcells_inv hj
      refine ⟨_, by rw [List.getElem?_set, if_neg h]; exact hj, rfl, fun i x2 hi => ⟨x2, hi, .inr ⟨rfl, .inl ?_⟩⟩⟩
      cases i with
      | zero => exact ⟨j, 0, l, fun e => h e.symm, by simpa using hi.symm⟩
      | succ i => simp at hi
theorem Ent.trow {n p : Nat} {e : TypeId} {lens : List Nat} {cells : List (List CV)} (hc : cells = tcells p lens) (h : lk mm n = some (.row e cells)) : Ent P C σ mm σ ((n, .trow e p lens) :: mm) := fun R B g a w hs => by
  subst hc
  exact ⟨R, B, g, hs.obj (o := .trow e p lens) h (show ROw P w R B g n e (tcells p lens) from hs.ob n (.row e (tcells p lens)) h)⟩
end
end Go.Fw
end
section
set_option linter.unusedVariables false
set_option linter.unusedSimpArgs false
set_option linter.unnecessarySimpa false
namespace Go.Fw
section
variable {P : Program} {o : Oper} {α : Type} {enc : α → List PV}
theorem PRow.blk {w : World} {R B : Nat → Prop} {s : GS} {e : TypeId} {els : List (List PV)} (h : PRow P w R B s e els) {b : Nat} (hb : s = .blk b) {cur : Array Value} {e' : TypeId} (hh : w.heap[b]? = some (.cells cur e' (0, 0))) :
    e' = e ∧ (∀ cs ∈ els, cs.length = szP P e) ∧ els.length * szP P e ≤ cur.size ∧ ∀ (j k : Nat) cs x, els[j]? = some cs → cs[k]? = some x → ∃ u, cur[j * szP P e + k]? = some u ∧ RPV w R B x u := by
  rcases h with ⟨h1, _⟩ | ⟨b', cur', h1, h2, h3, h4, h5⟩
  · rw [hb] at h1; cases h1
  · rw [hb] at h1
    injection h1 with h1
    subst h1
    rw [hh] at h2
    injection h2 with h2
    injection h2 with h2 h6 h7
    subst h2
    subst h6
    exact ⟨rfl, h3, h4, h5⟩
theorem LT.tlindex {x y : Operand} {t e : TypeId} {i : Int} {p k len : Nat} {rows : List (List α)} {r : List α} {b : α} (hl : len = r.length) (ho : o.op = .indexAddr t x y) (h : elB P t = some e) (hk : rows[k]? = some r) (hi : idx r i = some b) :
    LT P o [(x, Cc (.tl p k 0 len)), (y, Iv i)] [(p, .pool e (rowsOf enc rows))] (Cc (.tpl p k (i.toNat * szP P e))) [] [] [] := .calm fun R B g w a _ hin hu => by
  subst hl
  have h0 := idx_nn hi
  have h1 := idx_lt hi
  have hy := sc_inv (in2 hin)
  have hrow := (us1 (ob := .pool e (rowsOf enc rows)) hu).2 k _ (rowsOf_get hk)
  obtain ⟨_, h2⟩ := in1 hin
  rcases h2 with ⟨_, _, h2, _⟩ | ⟨h2, _⟩ | ⟨b, cap, cur, e', k1, k2, k3, k4, k5, k6⟩
  · omega
  · omega
  · have he := (hrow.blk k1 k2).1
    subst he
    simp only [Nat.zero_mul] at k6
    exact ⟨.pointer (some ⟨b, i.toNat * szP P e', none⟩), by simp [execOp, ho, k6, hy, run_indexAt h ⟨b, 0, none⟩ r.length cap .i64 i h0 h1, add_lit], rfl, b, k1, rfl⟩
theorem LT.tlload1 {x : Operand} {t e : TypeId} {p k off j : Nat} {i : Int} {rows : List (List α)} {r : List α} {b : α} {q : PV} (ho : o.op = .load t x) (h : agB P t = some false) (hk : rows[k]? = some r) (hi : idx r i = some b) (hj : (enc b)[j]? = some q)
    (ha : off = i.toNat * szP P e + j) : LT P o [(x, Cc (.tpl p k off))] [(p, .pool e (rowsOf enc rows))] (Cc (.pv q)) [] [] [] := .calm fun R B g w a _ hin hu => by
  obtain ⟨_, bl, h2, h3⟩ := in1 hin
  rcases (us1 (ob := .pool e (rowsOf enc rows)) hu).2 k _ (rowsOf_get hk) with ⟨h4, _⟩ | ⟨b', cur, h4, h5, _, _, h8⟩
  · rw [h2] at h4; cases h4
  · rw [h2] at h4
    injection h4 with h4
    subst h4
    obtain ⟨u, hu1, hu2⟩ := h8 i.toNat j (enc b) q (by rw [List.getElem?_map, idx_get hi]; rfl) hj
    subst ha
    have hc : w.cell? ⟨bl, i.toNat * szP P e + j, none⟩ = some u := (row_cell h5 _).trans hu1
    exact ⟨u, by simp [execOp, ho, h3, run_loadAt1 h hc], hu2.oneCell, hu2⟩
theorem LT.tlstore {t e : TypeId} {p k off j s : Nat} (m : Nat) {x y : Operand} {i : Int} {rows : List (List α)} {r : List α} {b b' : α} {v : Value} {it : TypeInfo} (ho : o.op = .store t x y) (hd : o.dst = none) (hit : P.info? t = some it) (hs : szP P t = s) (hl : 1 = s) (hk : rows[k]? = some r) (hi : idx r i = some b)
    (ha : off = i.toNat * szP P e + j) (hjl : j + s ≤ (enc b).length) (hb : ow ((enc b).map CV.pv) j [CV.pv (.sc v)] = (enc b').map CV.pv) (hpm : Nat.beq p m = false) :
    LT P o [(x, Cc (.tpl p k off)), (y, Cc (.pv (.sc v)))] [(p, .pool e (rowsOf enc rows))] (.tup []) [(p, .pool e (rowsOf enc (rows.set k (r.set i.toNat b'))))] [p] [m] := by
  have h0 := LT.tstore (P := P) (o := o) (n := m) (e := e) (v := .c (.pv (.sc v))) ho hd hit hs (by simpa [svCells] using hl) hi ha hjl hb
  have h1 := LT.focus (p := p) (k := k) (us0 := []) (df0 := []) (rows := rowsOf enc rows) h0 (rowsOf_get hk) (by simp [focB, hpm, foA, foS, foC, nrC, Nat.beq_refl, Nat.ne_of_beq_eq_false hpm])
  have e1 : (rowsOf enc rows).set k ((r.set i.toNat b').map enc) = rowsOf enc (rows.set k (r.set i.toNat b')) := by simp [rowsOf, List.map_set]
  have e2 : Nat.beq m m = true := Nat.beq_refl m
  simp only [List.map_cons, List.map_nil, bkA, bkS, bkC, e2, cond_true, swN, e1] at h1
  exact h1
end
end Go.Fw
end
section
set_option linter.unusedVariables false
set_option linter.unusedSimpArgs false
set_option linter.unnecessarySimpa false
namespace Go.Fw
section
variable {P : Program} {C : Ctx} {σ : Slots} {mm : Mem} {α : Type} {enc : α → List PV}
theorem lens_set {rows : List (List α)} {k : Nat} {r r' : List α} (hk : rows[k]? = some r) (h : r'.length = r.length) : lensOf rows = lensOf (rows.set k r') := by
  refine List.ext_getElem? fun j => ?_
  have hl := (List.getElem?_eq_some_iff.1 hk).1
  simp only [lensOf, List.getElem?_map, List.getElem?_set]
  by_cases hj : k = j
  · subst hj
    rw [if_pos rfl, if_pos hl, hk, Option.map_some, Option.map_some, h]
  · rw [if_neg hj]
theorem PermO.poolR (h : ∀ a, PermPL (enc a)) {e : TypeId} (rows : List (List α)) : PermO (.pool e (rowsOf enc rows)) := fun els hels cs hcs p hp => by
  obtain ⟨r, _, rfl⟩ := List.mem_map.1 hels
  obtain ⟨a, _, rfl⟩ := List.mem_map.1 hcs
  exact (h a).spec p hp
theorem Ent.lens {n p : Nat} {e : TypeId} {lens lens' : List Nat} (he : lens = lens') (h : lk mm n = some (.trow e p lens)) : Ent P C σ mm σ ((n, .trow e p lens') :: mm) := fun R B g a w hs => by
  subst he
  exact ⟨R, B, g, hs.obj h (hs.ob n _ h)⟩
theorem ShC.ttl {sh : Mem} {p k len : Nat} {e2 : TypeId} {rows : List (List α)} {r : List α} (hl : len = r.length) (h : lk sh p = some (.pool e2 (rowsOf enc rows))) (hk : rows[k]? = some r) : ShC sh (.tl p k 0 len) (.pv (.xs false (r.map enc))) := by
  subst hl
  have := ShC.tl (k := k) h (rowsOf_get hk)
  rwa [List.length_map] at this
theorem ShC.ttrow {sh : Mem} {n p len : Nat} {e e2 : TypeId} {rows : List (List α)} {encL : List α → List PV} (hl : len = rows.length) (h1 : lk sh n = some (.trow e p (lensOf rows))) (h2 : lk sh p = some (.pool e2 (rowsOf enc rows))) (hE : ∀ r, encL r = [.xs false (r.map enc)]) : ShC sh (.loc n 0 len) (.pv (.xs false (rows.map encL))) := by
  subst hl
  have := ShC.trow h1 h2 (by simp [lensOf, rowsOf, Function.comp_def])
  rw [lensOf_len] at this
  have e1 : (rowsOf enc rows).map (fun r => [PV.xs false r]) = rows.map encL := by
    rw [rowsOf, List.map_map]
    exact List.map_congr_left fun r _ => (hE r).symm
  rwa [e1] at this
theorem Ent.poolE (p : Nat) (e2 : TypeId) (hd : C.pn.elem p = false) : Ent P C σ mm (junkSl [p] σ) ((p, .pool e2 []) :: junkM [p] mm) := fun R B g a w hs => by
  have hp1 := notin_of_elem hd
  have had : Adv R B g w [] [p] R B (upd g p (.pool [])) w := by
    refine ⟨hs.wf.upd p _ (Nat.le_refl _) (fun b hb => by cases hb) (fun i j b hi => by simp [GS.at] at hi), fun _ h => h, fun _ h => h, rfl, rfl, rfl, Nat.le_refl _, fun _ _ _ => rfl, fun q hq => upd_ne g _ (by simpa using hq), fun q hq b hb => ?_, fun q hq => by cases hq⟩
    have : q = p := by simpa using hq
    subst this
    rw [upd_same] at hb
    cases hb
  exact ⟨R, B, _, hs.step (us := []) (df := [(p, .pool e2 [])]) (W := []) (X := [p]) (d := none) (v := .tup []) (u := undef) trivial (fun _ h => by cases h) (fun q hq => by
      have : q = (p, .pool e2 []) := by simpa using hq
      subst this; exact .inl (by simp)) rfl (fun q hq => by
      have : q = p := by simpa using hq
      subst this; exact hp1) had (fun b hb => .inl hb) (fun h => by cases h) (one_ro ⟨⟨[], upd_same .., rfl⟩, fun k els hk => by simp at hk⟩)⟩
theorem Ent.poolN {n p c : Nat} {e e2 : TypeId} (hn : lk mm n = some (.row e (List.replicate c [.pv (.sc nilV)]))) (hd : (!Nat.beq n p && !C.pn.elem p) = true) :
    Ent P C σ mm (junkSl [p] σ) ((p, .pool e2 (rowsOf enc (List.replicate c ([] : List α)))) :: (n, .trow e p (lensOf (List.replicate c ([] : List α)))) :: junkM [p] mm) := fun R B g a w hs => by
  simp only [Bool.and_eq_true, Bool.not_eq_true'] at hd
  have hnp := Nat.ne_of_beq_eq_false hd.1
  have hp1 := notin_of_elem hd.2
  have hrn : ROw P w R B g n e (List.replicate c [.pv (.sc nilV)]) := hs.ob n _ hn
  have hat : ∀ j, j < c → (GS.pool (List.replicate c none)).at j = .nil := fun j hj => by simp [GS.at, hj]
  have hnb : ∀ b, ¬ (GS.pool (List.replicate c none)).has b := fun b hb => by
    have := List.eq_of_mem_replicate (show some b ∈ List.replicate c none from hb)
    cases this
  have had : Adv R B g w [n] [p] R B (upd g p (.pool (List.replicate c none))) w := by
    refine ⟨hs.wf.upd p _ (Nat.le_refl _) (fun b hb => (hnb b hb).elim) (fun i j b hi => (hnb b (GS.has_at hi)).elim), fun _ h => h, fun _ h => h, rfl, rfl, rfl, Nat.le_refl _, fun _ _ _ => rfl, fun q hq => upd_ne g _ (by simpa using hq), fun q hq b hb => ?_, fun q hq hqX b cur e' hg hh => ⟨cur, hh, rfl⟩⟩
    have : q = p := by simpa using hq
    subst this
    rw [upd_same] at hb
    exact (hnb b hb).elim
  have hgn : upd g p (.pool (List.replicate c none)) n = g n := upd_ne g _ hnp
  have hcells : ∀ j cs, (tcells p (lensOf (List.replicate c ([] : List α))))[j]? = some cs → j < c ∧ cs = [.tl p j 0 0] := fun j cs hj => by
    obtain ⟨l, hl, rfl⟩ := tcells_inv hj
    simp only [lensOf, List.map_replicate, List.length_nil, List.getElem?_replicate] at hl
    split at hl
    · rename_i h1
      injection hl with hl
      subst hl
      exact ⟨h1, rfl⟩
    · cases hl
  exact ⟨R, B, _, hs.step (us := [(n, .row e (List.replicate c [.pv (.sc nilV)]))]) (df := [(p, .pool e2 (rowsOf enc (List.replicate c ([] : List α)))), (n, .trow e p (lensOf (List.replicate c ([] : List α))))]) (W := [n]) (X := [p]) (d := none) (v := .tup []) (u := undef) ⟨hn, trivial⟩
    (fun q hq => by
      have : q = n := by simpa using hq
      subst this
      exact ⟨.inr (by simp), _, List.mem_cons_self⟩)
    (fun q hq => by
      have : q = (p, .pool e2 (rowsOf enc (List.replicate c ([] : List α)))) ∨ q = (n, .trow e p (lensOf (List.replicate c ([] : List α)))) := by simpa using hq
      rcases this with rfl | rfl
      · exact .inl (by simp)
      · exact .inr (by simp)) rfl (fun q hq => by
      have : q = p := by simpa using hq
      subst this; exact hp1) had (fun b hb => .inl hb) (fun h => by cases h) (fun q hq => by
      have : q = (p, .pool e2 (rowsOf enc (List.replicate c ([] : List α)))) ∨ q = (n, .trow e p (lensOf (List.replicate c ([] : List α)))) := by simpa using hq
      rcases this with rfl | rfl
      · refine ⟨⟨List.replicate c none, upd_same .., by simp [rowsOf]⟩, fun k els hk => ?_⟩
        show PRow P w R B ((upd g p (.pool (List.replicate c none)) p).at k) e2 els
        rw [upd_same]
        simp only [rowsOf, List.map_replicate, List.map_nil, List.getElem?_replicate] at hk
        split at hk
        · rename_i h1
          injection hk with hk
          exact .inl ⟨hat k h1, hk.symm⟩
        · cases hk
      · show ROw P w R B (upd g p (.pool (List.replicate c none))) n e (tcells p (lensOf (List.replicate c ([] : List α))))
        rcases hrn with ⟨h1, h2⟩ | ⟨b, cur, h1, h2, h3, h4, h5⟩
        · have hc0 : c = 0 := by simpa using h2
          subst hc0
          exact .inl ⟨hgn.trans h1, rfl⟩
        · refine .inr ⟨b, cur, hgn.trans h1, h2, fun cs hcs => ?_, by simpa [tcells_len, lensOf_len] using h4, fun j k cs x hj hk => ?_⟩
          · obtain ⟨j, hj⟩ := List.mem_iff_getElem?.1 hcs
            obtain ⟨hjc, rfl⟩ := hcells j cs hj
            have := h3 [.pv (.sc nilV)] (List.mem_replicate.2 ⟨by omega, rfl⟩)
            exact this
          · obtain ⟨hjc, rfl⟩ := hcells j cs hj
            cases k with
            | succ k => simp at hk
            | zero =>
              have : x = .tl p j 0 0 := by simpa using hk.symm
              subst this
              obtain ⟨u, hu, hr⟩ := h5 j 0 [.pv (.sc nilV)] (.pv (.sc nilV)) (by simp [hjc]) rfl
              refine ⟨u, hu, hr.1, .inl ⟨?_, rfl, rfl, sc_inv hr⟩⟩
              rw [upd_same]
              exact hat j hjc)⟩
end
end Go.Fw
end
section
set_option linter.unusedVariables false
set_option linter.unusedSimpArgs false
set_option linter.unnecessarySimpa false
namespace Go.Fw
section
variable {P : Program} {o : Oper} {α : Type} {enc : α → List PV}
theorem tcells_get1 {p : Nat} {lens : List Nat} {j : Nat} (h : j < lens.length) : ∃ c, (tcells p lens)[j]? = some [c] := by
  obtain ⟨l, hl⟩ : ∃ l, lens[j]? = some l := ⟨lens[j], List.getElem?_eq_getElem h⟩
  exact ⟨_, tcells_get hl⟩
theorem LT.xstore {x y : Operand} {t e : TypeId} {n p off : Nat} {i : Int} {rows : List (List α)} {r : List α} {c : CV} {it : TypeInfo} (ho : o.op = .store t x y) (hd : o.dst = none) (hit : P.info? t = some it) (hs : szP P t = 1) (hi : idx rows i = some r) (ha : off = i.toNat * szP P e) :
    LT P o [(x, Cc (.pl n off)), (y, Cc c)] [(n, .trow e p (lensOf rows))] (.tup []) [(n, .row e ((tcells p (lensOf rows)).set i.toNat [c]))] [n] [] := by
  obtain ⟨c0, h0⟩ := tcells_get1 (p := p) (lens := lensOf rows) (j := i.toNat) (by rw [lensOf_len]; exact (List.getElem?_eq_some_iff.1 (idx_get hi)).1)
  have := LT.store (P := P) (o := o) (n := n) (off := off) (e := e) (els := tcells p (lensOf rows)) (k := 0) (v := .c c) ho hd hit hs rfl h0 (by rw [ha, Nat.add_zero]) (Nat.le_refl _)
  exact LT.usT this
theorem LT.xstoreS {x y : Operand} {t e : TypeId} {n p off : Nat} {i : Int} {rows : List (List α)} {r : List α} {c c1 : CV} {it : TypeInfo} (ho : o.op = .store t x y) (hd : o.dst = none) (hit : P.info? t = some it) (hs : szP P t = 1) (hi : idx rows i = some r) (ha : off = i.toNat * szP P e) :
    LT P o [(x, Cc (.pl n off)), (y, Cc c)] [(n, .row e ((tcells p (lensOf rows)).set i.toNat [c1]))] (.tup []) [(n, .row e ((tcells p (lensOf rows)).set i.toNat [c]))] [n] [] := by
  have hl : i.toNat < (tcells p (lensOf rows)).length := by rw [tcells_len, lensOf_len]; exact (List.getElem?_eq_some_iff.1 (idx_get hi)).1
  have := LT.store (P := P) (o := o) (n := n) (off := off) (e := e) (els := (tcells p (lensOf rows)).set i.toNat [c1]) (j := i.toNat) (cs := [c1]) (k := 0) (v := .c c) ho hd hit hs rfl (by rw [List.getElem?_set, if_pos rfl, if_pos hl]) (by rw [ha, Nat.add_zero]) (Nat.le_refl _)
  rw [List.set_set] at this
  exact this
theorem LT.xindexS {x y : Operand} {t e : TypeId} {i : Int} {n len : Nat} {els : List (List CV)} {rows : List (List α)} {r : List α} (hl : len = rows.length) (ho : o.op = .indexAddr t x y) (h : elB P t = some e) (hi : idx rows i = some r) :
    LT P o [(x, Cc (.loc n 0 len)), (y, Iv i)] [(n, .row e els)] (Cc (.pl n (i.toNat * szP P e))) [] [] [] := by
  subst hl
  exact LT.indexLoc ho h (idx_nn hi) (idx_lt hi)
theorem LT.tunpool {p k m n : Nat} {ins : List (Operand × AV)} {us0 : Mem} {v : AV} {e e2 : TypeId} {r r' : List α} {rows : List (List α)}
    (h : LT P o ins ((m, .prow e2 (r.map enc)) :: us0) v [(m, .prow e2 (r'.map enc))] [m] [m]) (hk : rows[k]? = some r)
    (hc : (!Nat.beq p m && !Nat.beq n p && !Nat.beq n m && ins.all (fun q => foA p m q.2) && us0.all (fun q => ![m, p].elem q.1 && nrO [m, p] q.2)) = true) :
    LT P o (ins.map fun q => (q.1, bkA p k m q.2)) ((p, .pool e2 (rowsOf enc rows)) :: (n, .trow e p (lensOf rows)) :: us0) v [(m, .prow e2 (r'.map enc)), (p, .pool e2 (rowsOf enc (rows.set k []))), (n, .row e ((tcells p (lensOf (rows.set k []))).set k [.junk]))] [p, n] [p, m] := by
  have := LT.unpool (p := p) (k := k) (m := m) (n := n) (e := e) (rows := rowsOf enc rows) (lens := lensOf rows) (df0 := []) h (rowsOf_get hk) (by rw [hc]; rfl)
  have e1 : (rowsOf enc rows).set k [] = rowsOf enc (rows.set k []) := by simp [rowsOf, List.map_set]
  have e2 : (tcells p (lensOf (rows.set k []))).set k [CV.junk] = (tcells p (lensOf rows)).set k [CV.junk] := by
    have : lensOf (rows.set k []) = (lensOf rows).set k 0 := by simp [lensOf, List.map_set]
    rw [this, ← tcells_set, List.set_set]
  rw [e1] at this
  rw [e2]
  exact this
theorem LT.xmake {t e : TypeId} {n : Nat} {x y : Operand} {len : Int} {b : Nat} (ho : o.op = .makeSlice t x y) (he : P.underlying t = some (.slice e)) (hz : TI P e nilV 1 b) (hb : b ≤ 65536) (hl : 0 ≤ len ∧ len ≤ LIM) :
    LT P o [(x, Iv len), (y, Iv len)] [] (Cc (.loc n 0 len.toNat)) [(n, .row e (List.replicate len.toNat [.pv (.sc nilV)]))] [] [n] := by
  have := LT.makeSlice (P := P) (o := o) (n := n) (x := x) (y := y) (zc := [.pv (.sc nilV)]) ho he hz rfl rfl rfl (by decide) hb hl
  rw [List.length_replicate] at this
  have e1 : (List.replicate len.toNat [CV.pv (.sc nilV)]).map (·.map (junkC [n])) = List.replicate len.toNat [CV.pv (.sc nilV)] := by simp [List.map_replicate, junkC]
  rw [e1] at this
  exact this
end
end Go.Fw
end
section
set_option linter.unusedVariables false
set_option linter.unusedSimpArgs false
set_option linter.unnecessarySimpa false
namespace Go.Fw
section
variable {P : Program} {o : Oper}
theorem LT.makeFuncC {f : FuncId} {ops : Array Operand} (caps : List Nat) (ho : o.op = .makeFunc (.func f) #[] ops) (hlen : ops.size = caps.length) : LT P o (zipOps ops.toList (caps.map plS)) [] (Cc (.fn f caps)) [] [] [] := .calm fun R B g w a _ hin _ => by
  have hget : ∀ (k n : Nat), caps[k]? = some n → ∃ b, g n = .blk b ∧ (ops.toList.map a.eval)[k]? = some (Value.pointer (some ⟨b, 0, none⟩)) := fun k n hk => by
    have hkl : k < ops.toList.length := by rw [Array.length_toList, hlen]; exact (List.getElem?_eq_some_iff.1 hk).1
    have hm : (ops.toList[k], AV.s (plS n)) ∈ zipOps ops.toList (caps.map plS) := by
      refine List.mem_map.2 ⟨(ops.toList[k], plS n), ?_, rfl⟩
      refine List.mem_of_getElem? (i := k) ?_
      rw [List.getElem?_zip_eq_some]
      exact ⟨List.getElem?_eq_getElem hkl, by rw [List.getElem?_map, hk]; rfl⟩
    obtain ⟨_, b, h1, h2⟩ := hin _ hm
    exact ⟨b, h1, by rw [List.getElem?_map, List.getElem?_eq_getElem hkl]; exact congrArg some h2⟩
  refine ⟨.func (.func f) #[] (ops.map a.eval), by simp [execOp, ho, Instr.makeFunc], rfl, ops.toList.map a.eval, ?_, by rw [List.length_map, Array.length_toList, hlen], hget⟩
  congr 1
  apply Array.ext'
  simp
theorem LT.callC {cf : Operand} {f : FuncId} {ops : Array Operand} {ts : Array TypeId} (caps : List Nat) {xs : List SV} (ys : List SV) {us sh df : Mem} {v : AV} {W X : List Nat} (hf : Fn P f (ys ++ caps.map plS) us v df W X)
    (ho : o.op = .call { callee := .value cf, args := ops, argTypes := ts }) (hb : callB P f = true) (hsh : ShA sh xs ys) (hlen : ops.size = xs.length)
    (hside : (disL (keys sh) (W ++ X ++ keys us ++ keys df ++ caps) && subL W (keys us)) = true) (hus : JunkL (keys sh) us) : LT P o ((cf, Cc (.fn f caps)) :: zipOps ops.toList xs) (us ++ sh) v df W X :=
  LT.call hf ho hb hlen hsh hside hus.spec
end
end Go.Fw
end
section
set_option linter.unusedVariables false
set_option linter.unusedSimpArgs false
set_option linter.unnecessarySimpa false
namespace Go.Fw
inductive FrC (n : Nat) (els : List (List PV)) : CV → CV → Prop
  | same {x y : CV} (h : junkC [n] x = y) : FrC n els x y
  | fr {l : Nat} (h : l = els.length) : FrC n els (.loc n 0 l) (.pv (.xs true els))
inductive FrL (n : Nat) (els : List (List PV)) : List CV → List CV → Prop
  | nil : FrL n els [] []
  | cons {x y : CV} {xs ys : List CV} (h : FrC n els x y) (t : FrL n els xs ys) : FrL n els (x :: xs) (y :: ys)
inductive FrA (n : Nat) (els : List (List PV)) : AV → AV → Prop
  | same {x y : AV} (h : junkA [n] x = y) : FrA n els x y
  | c {x y : CV} (h : FrC n els x y) : FrA n els (.s (.c x)) (.s (.c y))
  | agg {xs ys : List CV} (h : FrL n els xs ys) : FrA n els (.s (.agg xs)) (.s (.agg ys))
inductive FrO (n : Nat) (els : List (List PV)) : Ob → Ob → Prop
  | same {x y : Ob} (h : junkO [n] x = y) : FrO n els x y
  | row {e : TypeId} {xs ys : List CV} (h : FrL n els xs ys) : FrO n els (.row e [xs]) (.row e [ys])
def FrSl (n : Nat) (els : List (List PV)) (σ : Slots) : Slots → Prop
  | [] => True
  | (t, v) :: r => (∃ x, lk σ t = some x ∧ FrA n els x v) ∧ FrSl n els σ r
def FrM (n : Nat) (els : List (List PV)) (m : Mem) : Mem → Prop
  | [] => True
  | (k, o) :: r => (Nat.beq k n = false ∧ ∃ x, lk m k = some x ∧ FrO n els x o) ∧ FrM n els m r
section
variable {P : Program} {C : Ctx} {σ σ' : Slots} {m m' : Mem} {n : Nat} {els : List (List PV)}
theorem FrSl.get : ∀ {σ' : Slots}, FrSl n els σ σ' → ∀ t v, lk σ' t = some v → ∃ x, lk σ t = some x ∧ FrA n els x v
  | [], _, t, v, h => by cases h
  | (k, v') :: r, h, t, v, hl => by
    change (bif Nat.beq k t then some v' else lk r t) = some v at hl
    cases hb : Nat.beq k t with
    | true =>
      rw [hb, cond_true] at hl
      injection hl with hl
      subst hl
      have := Nat.eq_of_beq_eq_true hb
      subst this
      exact h.1
    | false =>
      rw [hb, cond_false] at hl
      exact FrSl.get h.2 t v hl
theorem FrM.get : ∀ {m' : Mem}, FrM n els m m' → ∀ k o, lk m' k = some o → k ≠ n ∧ ∃ x, lk m k = some x ∧ FrO n els x o
  | [], _, t, v, h => by cases h
  | (k, v') :: r, h, t, v, hl => by
    change (bif Nat.beq k t then some v' else lk r t) = some v at hl
    cases hb : Nat.beq k t with
    | true =>
      rw [hb, cond_true] at hl
      injection hl with hl
      subst hl
      have := Nat.eq_of_beq_eq_true hb
      subst this
      exact ⟨Nat.ne_of_beq_eq_false h.1.1, h.1.2⟩
    | false =>
      rw [hb, cond_false] at hl
      exact FrM.get h.2 t v hl
theorem FrL.get {xs ys : List CV} (h : FrL n els xs ys) : xs.length = ys.length ∧ ∀ (k : Nat) y, ys[k]? = some y → ∃ x, xs[k]? = some x ∧ FrC n els x y := by
  induction h with
  | nil => exact ⟨rfl, fun k y h => by simp at h⟩
  | cons h _ ih =>
    refine ⟨by simp [ih.1], fun k y hk => ?_⟩
    cases k with
    | zero => simp at hk; subst hk; exact ⟨_, rfl, h⟩
    | succ k => exact ih.2 k y (by simpa using hk)
section
variable {w : World} {R B R' B' : Nat → Prop} {g g' : Nat → GS}
theorem FrC.rc (had : Adv R B g w [] [n] R' B' g' w) (hw : WF R B g w) (hv : ∀ v, RC P w R B g (.loc n 0 els.length) v → RPV w R' B' (.xs true els) v) {x y : CV} {v : Value} (h : FrC n els x y) (hx : RC P w R B g x v) : RC P w R' B' g' y v := by
  cases h with
  | same h => subst h; exact had.rc hw hx
  | fr h => subst h; exact ⟨hx.1, hv v hx⟩
theorem FrL.rl (had : Adv R B g w [] [n] R' B' g' w) (hw : WF R B g w) (hv : ∀ v, RC P w R B g (.loc n 0 els.length) v → RPV w R' B' (.xs true els) v) {xs ys : List CV} (h : FrL n els xs ys) {us : Nat → Option Value} (hx : ∀ (k : Nat) x, xs[k]? = some x → ∃ u, us k = some u ∧ RC P w R B g x u) :
    ∀ (k : Nat) y, ys[k]? = some y → ∃ u, us k = some u ∧ RC P w R' B' g' y u := fun k y hk => by
  obtain ⟨x, h1, h2⟩ := h.get.2 k y hk
  obtain ⟨u, h3, h4⟩ := hx k x h1
  exact ⟨u, h3, h2.rc had hw hv h4⟩
theorem FrA.ra (had : Adv R B g w [] [n] R' B' g' w) (hw : WF R B g w) (hv : ∀ v, RC P w R B g (.loc n 0 els.length) v → RPV w R' B' (.xs true els) v) {x y : AV} {v : Value} (h : FrA n els x y) (hx : RA P w R B g x v) : RA P w R' B' g' y v := by
  cases h with
  | same h => subst h; exact had.ra hw hx
  | c h => exact FrC.rc had hw hv h hx
  | agg h =>
    obtain ⟨vs, h1, h2, h3⟩ := hx
    exact ⟨vs, h1, h2.trans h.get.1, FrL.rl had hw hv h h3⟩
theorem FrO.ro (had : Adv R B g w [] [n] R' B' g' w) (hw : WF R B g w) (hv : ∀ v, RC P w R B g (.loc n 0 els.length) v → RPV w R' B' (.xs true els) v) {k : Nat} (hk : k ≠ n) {x y : Ob} (h : FrO n els x y) (hx : RO P w R B g k x) : RO P w R' B' g' k y := by
  cases h with
  | same h => subst h; exact had.ro hw (by simpa using hk) (by simp) hx
  | @row e xs ys h =>
    have hg : g' k = g k := had.names k (by simpa using hk)
    rcases hx with ⟨h1, h2⟩ | ⟨b, cur, h1, h2, h3, h4, h5⟩
    · cases h2
    · refine .inr ⟨b, cur, hg.trans h1, h2, fun cs hcs => ?_, h4, fun j i cs y hj hi => ?_⟩
      · have : cs = ys := by simpa using hcs
        subst this
        rw [← h.get.1]
        exact h3 xs (by simp)
      · cases j with
        | succ j => simp at hj
        | zero =>
          have : ys = cs := by simpa using hj
          subst this
          exact FrL.rl had hw hv h (us := fun i => cur[0 * szP P e + i]?) (fun i x hi => h5 0 i xs x rfl hi) i y hi
end
variable {α : Type} {enc : α → List PV}
end
end Go.Fw
end
section
set_option linter.unusedVariables false
set_option linter.unusedSimpArgs false
set_option linter.unnecessarySimpa false
namespace Go.Fw
section
variable {P : Program} {w : World} {R B : Nat → Prop} {g : Nat → GS}
variable {o : Oper} {α : Type} {enc : α → List PV}
def sidx (s : ByteArray) (i : Int) : Option Int := if 0 ≤ i then (s[i.toNat]?).map fun b => (b.toNat : Int) else none
theorem LT.indexStr {x y : Operand} {t : TypeId} {s : ByteArray} {i n : Int} {k : IntKind} (ho : o.op = .index t x y) (ht : P.underlying t = some .string) (h : sidx s i = some n) : LT P o [(x, Sv (.string s)), (y, Sv (.int k i))] [] (Sv (.int .u8 n)) [] [] [] := .calm fun R B g w a _ hi _ => by
  unfold sidx at h
  by_cases h0 : 0 ≤ i
  · rw [if_pos h0] at h
    cases hb : s[i.toNat]? with
    | none => rw [hb] at h; cases h
    | some b =>
      rw [hb] at h
      injection h with h
      subst h
      exact ⟨.int .u8 b.toNat, by simp [execOp, ho, sc_inv (in1 hi), sc_inv (in2 hi), Instr.index, asIntOf, run_underlying ht, h0, hb], sc_mk rfl⟩
  · rw [if_neg h0] at h; cases h
end
end Go.Fw
end
section
set_option linter.unusedVariables false
set_option linter.unusedSimpArgs false
set_option linter.unnecessarySimpa false
namespace Go.Fw
abbrev xF {α : Type} (enc : α → List PV) (l : List α) : CV := .pv (.xs false (l.map enc))
abbrev xT {α : Type} (enc : α → List PV) (l : List α) : CV := .pv (.xs true (l.map enc))
abbrev lo (n len : Nat) : CV := .loc n 0 len
abbrev pR {α : Type} (e : TypeId) (enc : α → List PV) (l : List α) : Ob := .prow e (l.map enc)
section
variable {P : Program} {C : Ctx} {σ : Slots} {m : Mem} {is : List It} {τ υ : Type} {M : Option τ} {K : τ → Post} {ops : Array Oper} {l : List Oper} {done : List Ct} {rest : List Oper} {o : Oper}
theorem On (h : AWR P C is σ m M K) : AOR P C ops [] is σ m M K := AOR.nil h
theorem Ob' {x : Option υ} {f : υ → Option τ} (h : ∀ u, x = some u → AOR P C ops rest is σ m (f u) K) : AOR P C ops rest is σ m (x.bind f) K := AOR.bind h
theorem Ws {x y : Code} (h : AWR P C (.code x :: .code y :: is) σ m M K) : AWR P C (.code (.seq x y) :: is) σ m M K := AWR.seq h
theorem Wr {id : Nat} {l : List Oper} (h : AOR P C l.toArray l is σ m M K) : AWR P C (.code (.region id l.toArray false) :: is) σ m M K := AWR.region h
theorem Ok {j : Nat} {want : Bool} {d : Tmp} {c : Bool} (hg : o.guard = some (j, want)) (h1 : (ops[j]?).bind (·.dst) = some d) (h2 : lk σ d = some (Bv c)) (h3 : (c == want) = false) (hd : dstOk C.N o.dst = true) (h : AOR P C ops rest is (setD σ o.dst (.tup [])) m M K) : AOR P C ops (o :: rest) is σ m M K :=
  AOR.skip (by unfold GuardIs; rw [hg]; exact ⟨d, h1, .inl ⟨c, h2, h3.symm⟩⟩) hd h
theorem Oj {j : Nat} {want : Bool} {d : Tmp} (hg : o.guard = some (j, want)) (h1 : (ops[j]?).bind (·.dst) = some d) (h2 : lk σ d = some (.tup [])) (hd : dstOk C.N o.dst = true) (h : AOR P C ops rest is (setD σ o.dst (.tup [])) m M K) : AOR P C ops (o :: rest) is σ m M K :=
  AOR.skip (by unfold GuardIs; rw [hg]; exact ⟨d, h1, .inr ⟨h2, rfl⟩⟩) hd h
theorem Op00   {v : AV} (hlt : LT P o [] [] v [] [] [])   (hg : GuardIs ops σ o true) (hd : dstOk C.N o.dst = true) (h : AOR P C ops rest is (setD σ o.dst v) m M K) : AOR P C ops (o :: rest) is σ m M K := AOR.pure hlt trivial trivial hg hd h
theorem Os00   {v : AV} {df : Mem} {W X : List Nat} (hlt : LT P o [] [] v df W X)   (hg : GuardIs ops σ o true) (hs : (dstOk C.N o.dst && subL W (X ++ keys df) && subL W (keys ([] : Mem)) && subL (keys df) (X ++ W) && disL X C.pn) = true) (h : AOR P C ops rest is (setD (junkSl X σ) o.dst v) (df ++ junkM X m) M K) : AOR P C ops (o :: rest) is σ m M K := AOR.step hlt trivial trivial hg hs h
theorem Ds00   {v : AV} {df : Mem} {W X : List Nat} (hlt : LT P o [] [] v df W X)   (hg : GuardIs l.toArray σ o true) (hs : (dstOk C.N o.dst && subL W (X ++ keys df) && subL W (keys ([] : Mem)) && subL (keys df) (X ++ W) && disL X C.pn) = true) (h : AOD P C l (⟨[], [], v, df, W, X, true⟩ :: done) rest is (setD (junkSl X σ) o.dst v) (df ++ junkM X m) M K) : AOD P C l done (o :: rest) is σ m M K := AOD.step hlt trivial trivial hg hs h
theorem Op10 {x0 : Operand} {v0 : AV}  {v : AV} (hlt : LT P o [(x0, v0)] [] v [] [] []) (e0 : EvO σ x0 v0)  (hg : GuardIs ops σ o true) (hd : dstOk C.N o.dst = true) (h : AOR P C ops rest is (setD σ o.dst v) m M K) : AOR P C ops (o :: rest) is σ m M K := AOR.pure hlt ⟨e0, trivial⟩ trivial hg hd h
theorem Os10 {x0 : Operand} {v0 : AV}  {v : AV} {df : Mem} {W X : List Nat} (hlt : LT P o [(x0, v0)] [] v df W X) (e0 : EvO σ x0 v0)  (hg : GuardIs ops σ o true) (hs : (dstOk C.N o.dst && subL W (X ++ keys df) && subL W (keys ([] : Mem)) && subL (keys df) (X ++ W) && disL X C.pn) = true) (h : AOR P C ops rest is (setD (junkSl X σ) o.dst v) (df ++ junkM X m) M K) : AOR P C ops (o :: rest) is σ m M K := AOR.step hlt ⟨e0, trivial⟩ trivial hg hs h
theorem Dp10 {x0 : Operand} {v0 : AV}  {v : AV} (hlt : LT P o [(x0, v0)] [] v [] [] []) (e0 : EvO σ x0 v0)  (hg : GuardIs l.toArray σ o true) (hd : dstOk C.N o.dst = true) (h : AOD P C l (⟨[(x0, v0)], [], v, [], [], [], true⟩ :: done) rest is (setD σ o.dst v) m M K) : AOD P C l done (o :: rest) is σ m M K := AOD.pure hlt ⟨e0, trivial⟩ trivial hg hd h
theorem Ds10 {x0 : Operand} {v0 : AV}  {v : AV} {df : Mem} {W X : List Nat} (hlt : LT P o [(x0, v0)] [] v df W X) (e0 : EvO σ x0 v0)  (hg : GuardIs l.toArray σ o true) (hs : (dstOk C.N o.dst && subL W (X ++ keys df) && subL W (keys ([] : Mem)) && subL (keys df) (X ++ W) && disL X C.pn) = true) (h : AOD P C l (⟨[(x0, v0)], [], v, df, W, X, true⟩ :: done) rest is (setD (junkSl X σ) o.dst v) (df ++ junkM X m) M K) : AOD P C l done (o :: rest) is σ m M K := AOD.step hlt ⟨e0, trivial⟩ trivial hg hs h
theorem Op11 {x0 : Operand} {v0 : AV} {n0 : Nat} {o0 : Ob} {v : AV} (hlt : LT P o [(x0, v0)] [(n0, o0)] v [] [] []) (e0 : EvO σ x0 v0) (l0 : lk m n0 = some o0) (hg : GuardIs ops σ o true) (hd : dstOk C.N o.dst = true) (h : AOR P C ops rest is (setD σ o.dst v) m M K) : AOR P C ops (o :: rest) is σ m M K := AOR.pure hlt ⟨e0, trivial⟩ ⟨l0, trivial⟩ hg hd h
theorem Dp11 {x0 : Operand} {v0 : AV} {n0 : Nat} {o0 : Ob} {v : AV} (hlt : LT P o [(x0, v0)] [(n0, o0)] v [] [] []) (e0 : EvO σ x0 v0) (l0 : lk m n0 = some o0) (hg : GuardIs l.toArray σ o true) (hd : dstOk C.N o.dst = true) (h : AOD P C l (⟨[(x0, v0)], [(n0, o0)], v, [], [], [], true⟩ :: done) rest is (setD σ o.dst v) m M K) : AOD P C l done (o :: rest) is σ m M K := AOD.pure hlt ⟨e0, trivial⟩ ⟨l0, trivial⟩ hg hd h
theorem Op20 {x0 : Operand} {v0 : AV} {x1 : Operand} {v1 : AV}  {v : AV} (hlt : LT P o [(x0, v0), (x1, v1)] [] v [] [] []) (e0 : EvO σ x0 v0) (e1 : EvO σ x1 v1)  (hg : GuardIs ops σ o true) (hd : dstOk C.N o.dst = true) (h : AOR P C ops rest is (setD σ o.dst v) m M K) : AOR P C ops (o :: rest) is σ m M K := AOR.pure hlt ⟨e0, e1, trivial⟩ trivial hg hd h
theorem Os20 {x0 : Operand} {v0 : AV} {x1 : Operand} {v1 : AV}  {v : AV} {df : Mem} {W X : List Nat} (hlt : LT P o [(x0, v0), (x1, v1)] [] v df W X) (e0 : EvO σ x0 v0) (e1 : EvO σ x1 v1)  (hg : GuardIs ops σ o true) (hs : (dstOk C.N o.dst && subL W (X ++ keys df) && subL W (keys ([] : Mem)) && subL (keys df) (X ++ W) && disL X C.pn) = true) (h : AOR P C ops rest is (setD (junkSl X σ) o.dst v) (df ++ junkM X m) M K) : AOR P C ops (o :: rest) is σ m M K := AOR.step hlt ⟨e0, e1, trivial⟩ trivial hg hs h
theorem Dp20 {x0 : Operand} {v0 : AV} {x1 : Operand} {v1 : AV}  {v : AV} (hlt : LT P o [(x0, v0), (x1, v1)] [] v [] [] []) (e0 : EvO σ x0 v0) (e1 : EvO σ x1 v1)  (hg : GuardIs l.toArray σ o true) (hd : dstOk C.N o.dst = true) (h : AOD P C l (⟨[(x0, v0), (x1, v1)], [], v, [], [], [], true⟩ :: done) rest is (setD σ o.dst v) m M K) : AOD P C l done (o :: rest) is σ m M K := AOD.pure hlt ⟨e0, e1, trivial⟩ trivial hg hd h
theorem Ds20 {x0 : Operand} {v0 : AV} {x1 : Operand} {v1 : AV}  {v : AV} {df : Mem} {W X : List Nat} (hlt : LT P o [(x0, v0), (x1, v1)] [] v df W X) (e0 : EvO σ x0 v0) (e1 : EvO σ x1 v1)  (hg : GuardIs l.toArray σ o true) (hs : (dstOk C.N o.dst && subL W (X ++ keys df) && subL W (keys ([] : Mem)) && subL (keys df) (X ++ W) && disL X C.pn) = true) (h : AOD P C l (⟨[(x0, v0), (x1, v1)], [], v, df, W, X, true⟩ :: done) rest is (setD (junkSl X σ) o.dst v) (df ++ junkM X m) M K) : AOD P C l done (o :: rest) is σ m M K := AOD.step hlt ⟨e0, e1, trivial⟩ trivial hg hs h
theorem Op21 {x0 : Operand} {v0 : AV} {x1 : Operand} {v1 : AV} {n0 : Nat} {o0 : Ob} {v : AV} (hlt : LT P o [(x0, v0), (x1, v1)] [(n0, o0)] v [] [] []) (e0 : EvO σ x0 v0) (e1 : EvO σ x1 v1) (l0 : lk m n0 = some o0) (hg : GuardIs ops σ o true) (hd : dstOk C.N o.dst = true) (h : AOR P C ops rest is (setD σ o.dst v) m M K) : AOR P C ops (o :: rest) is σ m M K := AOR.pure hlt ⟨e0, e1, trivial⟩ ⟨l0, trivial⟩ hg hd h
theorem Os21 {x0 : Operand} {v0 : AV} {x1 : Operand} {v1 : AV} {n0 : Nat} {o0 : Ob} {v : AV} {df : Mem} {W X : List Nat} (hlt : LT P o [(x0, v0), (x1, v1)] [(n0, o0)] v df W X) (e0 : EvO σ x0 v0) (e1 : EvO σ x1 v1) (l0 : lk m n0 = some o0) (hg : GuardIs ops σ o true) (hs : (dstOk C.N o.dst && subL W (X ++ keys df) && subL W (keys [(n0, o0)]) && subL (keys df) (X ++ W) && disL X C.pn) = true) (h : AOR P C ops rest is (setD (junkSl X σ) o.dst v) (df ++ junkM X m) M K) : AOR P C ops (o :: rest) is σ m M K := AOR.step hlt ⟨e0, e1, trivial⟩ ⟨l0, trivial⟩ hg hs h
theorem Dp21 {x0 : Operand} {v0 : AV} {x1 : Operand} {v1 : AV} {n0 : Nat} {o0 : Ob} {v : AV} (hlt : LT P o [(x0, v0), (x1, v1)] [(n0, o0)] v [] [] []) (e0 : EvO σ x0 v0) (e1 : EvO σ x1 v1) (l0 : lk m n0 = some o0) (hg : GuardIs l.toArray σ o true) (hd : dstOk C.N o.dst = true) (h : AOD P C l (⟨[(x0, v0), (x1, v1)], [(n0, o0)], v, [], [], [], true⟩ :: done) rest is (setD σ o.dst v) m M K) : AOD P C l done (o :: rest) is σ m M K := AOD.pure hlt ⟨e0, e1, trivial⟩ ⟨l0, trivial⟩ hg hd h
theorem Ds21 {x0 : Operand} {v0 : AV} {x1 : Operand} {v1 : AV} {n0 : Nat} {o0 : Ob} {v : AV} {df : Mem} {W X : List Nat} (hlt : LT P o [(x0, v0), (x1, v1)] [(n0, o0)] v df W X) (e0 : EvO σ x0 v0) (e1 : EvO σ x1 v1) (l0 : lk m n0 = some o0) (hg : GuardIs l.toArray σ o true) (hs : (dstOk C.N o.dst && subL W (X ++ keys df) && subL W (keys [(n0, o0)]) && subL (keys df) (X ++ W) && disL X C.pn) = true) (h : AOD P C l (⟨[(x0, v0), (x1, v1)], [(n0, o0)], v, df, W, X, true⟩ :: done) rest is (setD (junkSl X σ) o.dst v) (df ++ junkM X m) M K) : AOD P C l done (o :: rest) is σ m M K := AOD.step hlt ⟨e0, e1, trivial⟩ ⟨l0, trivial⟩ hg hs h
theorem Os22 {x0 : Operand} {v0 : AV} {x1 : Operand} {v1 : AV} {n0 : Nat} {o0 : Ob} {n1 : Nat} {o1 : Ob} {v : AV} {df : Mem} {W X : List Nat} (hlt : LT P o [(x0, v0), (x1, v1)] [(n0, o0), (n1, o1)] v df W X) (e0 : EvO σ x0 v0) (e1 : EvO σ x1 v1) (l0 : lk m n0 = some o0) (l1 : lk m n1 = some o1) (hg : GuardIs ops σ o true) (hs : (dstOk C.N o.dst && subL W (X ++ keys df) && subL W (keys [(n0, o0), (n1, o1)]) && subL (keys df) (X ++ W) && disL X C.pn) = true) (h : AOR P C ops rest is (setD (junkSl X σ) o.dst v) (df ++ junkM X m) M K) : AOR P C ops (o :: rest) is σ m M K := AOR.step hlt ⟨e0, e1, trivial⟩ ⟨l0, l1, trivial⟩ hg hs h
theorem Ds22 {x0 : Operand} {v0 : AV} {x1 : Operand} {v1 : AV} {n0 : Nat} {o0 : Ob} {n1 : Nat} {o1 : Ob} {v : AV} {df : Mem} {W X : List Nat} (hlt : LT P o [(x0, v0), (x1, v1)] [(n0, o0), (n1, o1)] v df W X) (e0 : EvO σ x0 v0) (e1 : EvO σ x1 v1) (l0 : lk m n0 = some o0) (l1 : lk m n1 = some o1) (hg : GuardIs l.toArray σ o true) (hs : (dstOk C.N o.dst && subL W (X ++ keys df) && subL W (keys [(n0, o0), (n1, o1)]) && subL (keys df) (X ++ W) && disL X C.pn) = true) (h : AOD P C l (⟨[(x0, v0), (x1, v1)], [(n0, o0), (n1, o1)], v, df, W, X, true⟩ :: done) rest is (setD (junkSl X σ) o.dst v) (df ++ junkM X m) M K) : AOD P C l done (o :: rest) is σ m M K := AOD.step hlt ⟨e0, e1, trivial⟩ ⟨l0, l1, trivial⟩ hg hs h
theorem Op30 {x0 : Operand} {v0 : AV} {x1 : Operand} {v1 : AV} {x2 : Operand} {v2 : AV}  {v : AV} (hlt : LT P o [(x0, v0), (x1, v1), (x2, v2)] [] v [] [] []) (e0 : EvO σ x0 v0) (e1 : EvO σ x1 v1) (e2 : EvO σ x2 v2)  (hg : GuardIs ops σ o true) (hd : dstOk C.N o.dst = true) (h : AOR P C ops rest is (setD σ o.dst v) m M K) : AOR P C ops (o :: rest) is σ m M K := AOR.pure hlt ⟨e0, e1, e2, trivial⟩ trivial hg hd h
theorem Dp30 {x0 : Operand} {v0 : AV} {x1 : Operand} {v1 : AV} {x2 : Operand} {v2 : AV}  {v : AV} (hlt : LT P o [(x0, v0), (x1, v1), (x2, v2)] [] v [] [] []) (e0 : EvO σ x0 v0) (e1 : EvO σ x1 v1) (e2 : EvO σ x2 v2)  (hg : GuardIs l.toArray σ o true) (hd : dstOk C.N o.dst = true) (h : AOD P C l (⟨[(x0, v0), (x1, v1), (x2, v2)], [], v, [], [], [], true⟩ :: done) rest is (setD σ o.dst v) m M K) : AOD P C l done (o :: rest) is σ m M K := AOD.pure hlt ⟨e0, e1, e2, trivial⟩ trivial hg hd h
theorem Os31 {x0 : Operand} {v0 : AV} {x1 : Operand} {v1 : AV} {x2 : Operand} {v2 : AV} {n0 : Nat} {o0 : Ob} {v : AV} {df : Mem} {W X : List Nat} (hlt : LT P o [(x0, v0), (x1, v1), (x2, v2)] [(n0, o0)] v df W X) (e0 : EvO σ x0 v0) (e1 : EvO σ x1 v1) (e2 : EvO σ x2 v2) (l0 : lk m n0 = some o0) (hg : GuardIs ops σ o true) (hs : (dstOk C.N o.dst && subL W (X ++ keys df) && subL W (keys [(n0, o0)]) && subL (keys df) (X ++ W) && disL X C.pn) = true) (h : AOR P C ops rest is (setD (junkSl X σ) o.dst v) (df ++ junkM X m) M K) : AOR P C ops (o :: rest) is σ m M K := AOR.step hlt ⟨e0, e1, e2, trivial⟩ ⟨l0, trivial⟩ hg hs h
theorem Os40 {x0 : Operand} {v0 : AV} {x1 : Operand} {v1 : AV} {x2 : Operand} {v2 : AV} {x3 : Operand} {v3 : AV}  {v : AV} {df : Mem} {W X : List Nat} (hlt : LT P o [(x0, v0), (x1, v1), (x2, v2), (x3, v3)] [] v df W X) (e0 : EvO σ x0 v0) (e1 : EvO σ x1 v1) (e2 : EvO σ x2 v2) (e3 : EvO σ x3 v3)  (hg : GuardIs ops σ o true) (hs : (dstOk C.N o.dst && subL W (X ++ keys df) && subL W (keys ([] : Mem)) && subL (keys df) (X ++ W) && disL X C.pn) = true) (h : AOR P C ops rest is (setD (junkSl X σ) o.dst v) (df ++ junkM X m) M K) : AOR P C ops (o :: rest) is σ m M K := AOR.step hlt ⟨e0, e1, e2, e3, trivial⟩ trivial hg hs h
theorem AWR.loop0 {body : Code} (h : AWR P C [.code body] σ m M fun t e σ' m' => e = .ret ∧ K t .ret σ' m') : AWR P C (.code (.loop body) :: is) σ m M K := fun t ht => by
  have key := AWR.loop (P := P) (C := C) (is := is) (σ := σ) (m := m) (K := K) (f := fun u => some u) (n := 1) (s := ()) (body := body) (fun _ : Unit => M.map (fun u => (.inr u : Unit ⊕ τ))) (fun _ => (σ, m)) (fun u e σ' m' => e = .ret ∧ K u .ret σ' m') (fun _ => fun o ho => by
    cases hM : M with
    | none => rw [hM] at ho; cases ho
    | some u =>
      rw [hM] at ho
      injection ho with ho
      subst ho
      intro R B g a w hs
      refine wp_mono (h u hM R B g a w hs) fun e a w he => ?_
      obtain ⟨σ', m', R', B', g', hs', hp⟩ := he
      exact ⟨σ', m', R', B', g', hs', by rw [hp.1]; exact fun h => (by cases h), hp⟩) Ent.refl (fun u e σ' m' _ hlv t ht => by
    obtain ⟨rfl, hp⟩ := hlv
    injection ht with ht
    subst ht
    exact AWE.ret_end hp)
  refine key t ?_
  rw [ht]
  rfl
theorem mv (v : AV) {x : Operand} (ho : o.op = .move x) (e : EvO σ x v) (hg : GuardIs ops σ o true) (hd : dstOk C.N o.dst = true) (h : AOR P C ops rest is (setD σ o.dst v) m M K) : AOR P C ops (o :: rest) is σ m M K := AOR.pure (LT.move ho) ⟨e, trivial⟩ trivial hg hd h
theorem asg (v : AV) {x : Operand} (ho : o.op = .assign x) (e : EvO σ x v) (hg : GuardIs ops σ o true) (hd : dstOk C.N o.dst = true) (h : AOR P C ops rest is (setD σ o.dst v) m M K) : AOR P C ops (o :: rest) is σ m M K := AOR.pure (LT.assign ho) ⟨e, trivial⟩ trivial hg hd h
theorem en (σ' : Slots) (m' : Mem) (h1 : SubS σ' σ) (h2 : SubM m' m) (k : AWR P C is σ' m' M K) : AWR P C is σ m M K := AWR.ent (Ent.of h1 h2) k
end
end Go.Fw
end
section
set_option linter.unusedVariables false
set_option linter.unusedSimpArgs false
set_option linter.unnecessarySimpa false
namespace Go.Fw
section
variable {P : Program} {C : Ctx} {σ : Slots} {mm : Mem} {o : Oper} {α : Type} {enc : α → List PV}
theorem LT.tlslice {x y : Operand} {t e : TypeId} {p k len : Nat} {i : Int} {rows : List (List α)} {r : List α} (hl : len = r.length) (ho : o.op = .slice t x none (some y) none) (ht : P.underlying t = some (.slice e)) (hi2 : (P.info? e).isSome = true)
    (hk : rows[k]? = some r) (h0 : 0 ≤ i) (h2 : i.toNat ≤ r.length) :
    LT P o [(x, Cc (.tl p k 0 len)), (y, Iv i)] [(p, .pool e (rowsOf enc rows))] (Cc (.tl p k 0 i.toNat)) [] [] [] := .calm fun R B g w a hw hi3 hu => by
  subst hl
  obtain ⟨it, hit⟩ := Option.isSome_iff_exists.1 hi2
  obtain ⟨_, hv⟩ := in1 hi3
  have hy := sc_inv (in2 hi3)
  have eh : (some (a.eval y)) = some (.int .i64 ((i.toNat : Nat) : Int)) ∨ ((some (a.eval y)) = none ∧ i.toNat = r.length) := .inl (by rw [hy, Int.toNat_of_nonneg h0])
  obtain ⟨_, hrows⟩ := us1 hu
  have hrow := hrows k _ (rowsOf_get hk)
  rcases hv with ⟨k1, _, k3, k4⟩ | ⟨_, k2, _⟩ | ⟨b, cap, cur, e', k1, k2, k3, k4, k5, k6⟩
  · have hh0 : i.toNat = 0 := by omega
    rw [k3] at eh
    rw [hh0] at eh
    have hr := run_slice (P := P) ht hit (A := none) (len := 0) (cap := 0) (l := 0) (h := 0) (.inr ⟨rfl, rfl⟩) eh (Nat.le_refl _) (Nat.le_refl _) (Nat.le_refl _) w
    refine ⟨_, by simp only [execOp, ho, k4, Sem.run_bind, Option.map_none, Option.map_some, hr, Result.andThen_ok, Sem.run_pure]; rfl, rfl, .inl ⟨k1, rfl, hh0, by simp⟩⟩
  · exact absurd rfl k2
  · have hee : e' = e := by
      rcases hrow with ⟨h3, _⟩ | ⟨b', cur', h3, h4, _⟩
      · rw [k1] at h3; cases h3
      · rw [k1] at h3
        injection h3 with h3
        subst h3
        rw [k2] at h4
        injection h4 with h4
        injection h4
    subst hee
    have hr := run_slice (P := P) ht hit (A := some ⟨b, 0 * szP P e', none⟩) (lo := none) (l := 0) (.inr ⟨rfl, rfl⟩) eh (Nat.zero_le _) h2 k3 w
    refine ⟨Value.slice (if cap = 0 then (some (Addr.mk b (0 * szP P e') none)) else Option.map (fun z : Addr => z.add (0 * szP P e')) (some (Addr.mk b (0 * szP P e') none))) (i.toNat - 0) (cap - 0), by simp only [execOp, ho, k6, Sem.run_bind, hr, Result.andThen_ok, Sem.run_pure, Option.map_none, Option.map_some], rfl, ?_⟩
    refine .inr (.inr ⟨b, cap, cur, e', k1, k2, by omega, by omega, k5, ?_⟩)
    split
    · simp
    · simp [add_lit]
theorem Ent.tcut {n p k m : Nat} {e e2 : TypeId} {rows : List (List α)} {r : List α} (hk : rows[k]? = some r) (hm : m ≤ r.length) (hp : lk mm p = some (.pool e2 (rowsOf enc rows)))
    (hn : lk mm n = some (.row e ((tcells p (lensOf rows)).set k [.tl p k 0 m]))) : Ent P C σ mm σ ((p, .pool e2 (rowsOf enc (rows.set k (r.take m)))) :: (n, .trow e p (lensOf (rows.set k (r.take m)))) :: mm) := fun R B g a w hs => by
  have hcells : (tcells p (lensOf rows)).set k [.tl p k 0 m] = tcells p (lensOf (rows.set k (r.take m))) := by
    rw [tcells_set]
    simp [lensOf, List.map_set, Nat.min_eq_left hm]
  rw [hcells] at hn
  refine ⟨R, B, g, { hs with ob := fun q ob hq => ?_, ow := fun q ob b hq hg => ?_ }⟩
  · change (bif Nat.beq p q then some _ else (bif Nat.beq n q then some _ else lk mm q)) = some ob at hq
    cases hb : Nat.beq p q with
    | true =>
      rw [hb, cond_true] at hq
      injection hq with hq
      subst hq
      have := Nat.eq_of_beq_eq_true hb
      subst this
      obtain ⟨⟨bs, h1, h2⟩, h3⟩ := hs.ob p _ hp
      refine ⟨⟨bs, h1, by rw [h2]; simp [rowsOf]⟩, fun j els hj => ?_⟩
      have e1 : rowsOf enc (rows.set k (r.take m)) = (rowsOf enc rows).set k ((r.take m).map enc) := by simp [rowsOf, List.map_set]
      rw [e1, List.getElem?_set] at hj
      by_cases hkj : k = j
      · subst hkj
        rw [if_pos rfl] at hj
        split at hj
        · injection hj with hj
          subst hj
          rcases h3 k _ (rowsOf_get hk) with ⟨h4, h5⟩ | ⟨b, cur, h4, h5, h6, h7, h8⟩
          · have : r = [] := by simpa using h5
            subst this
            exact .inl ⟨h4, by simp⟩
          · refine .inr ⟨b, cur, h4, h5, fun cs hcs => ?_, ?_, fun i c cs x hi hc => ?_⟩
            · obtain ⟨a0, ha, rfl⟩ := List.mem_map.1 hcs
              exact h6 _ (List.mem_map.2 ⟨a0, List.mem_of_mem_take ha, rfl⟩)
            · refine Nat.le_trans (Nat.mul_le_mul_right _ ?_) h7
              simp
              omega
            · refine h8 i c cs x ?_ hc
              rw [List.getElem?_map] at hi ⊢
              rw [List.getElem?_take] at hi
              split at hi
              · exact hi
              · cases hi
        · cases hj
      · rw [if_neg hkj] at hj
        exact h3 j els hj
    | false =>
      rw [hb, cond_false] at hq
      cases hb2 : Nat.beq n q with
      | true =>
        rw [hb2, cond_true] at hq
        injection hq with hq
        subst hq
        have := Nat.eq_of_beq_eq_true hb2
        subst this
        exact (hs.ob n (.row e _) hn : ROw P w R B g n e _)
      | false =>
        rw [hb2, cond_false] at hq
        exact hs.ob q ob hq
  · change (bif Nat.beq p q then some _ else (bif Nat.beq n q then some _ else lk mm q)) = some ob at hq
    cases hb : Nat.beq p q with
    | true =>
      have := Nat.eq_of_beq_eq_true hb
      subst this
      exact hs.ow p _ b hp hg
    | false =>
      rw [hb, cond_false] at hq
      cases hb2 : Nat.beq n q with
      | true =>
        have := Nat.eq_of_beq_eq_true hb2
        subst this
        exact hs.ow n _ b hn hg
      | false =>
        rw [hb2, cond_false] at hq
        exact hs.ow q ob b hq hg
end
end Go.Fw
end
section
set_option linter.unusedVariables false
set_option linter.unusedSimpArgs false
set_option linter.unnecessarySimpa false
namespace Go.Fw
section
variable {P : Program} {o : Oper} {t t' : TypeId} {x y : Operand} {k k' : IntKind} {m n : Int}
theorem LT.shrU (ho : o.op = .binOp .shr t x y t') (hn : 0 ≤ n) : LT P o [(x, Sv (.int .u64 m)), (y, Sv (.int k' n))] [] (Sv (.int .u64 (shrI m n))) [] [] [] := .bin ho rfl (by
  rw [binOp_shr]; simp [Op.shift, shrI, IntKind.bits]; omega)
end
end Go.Fw
end
