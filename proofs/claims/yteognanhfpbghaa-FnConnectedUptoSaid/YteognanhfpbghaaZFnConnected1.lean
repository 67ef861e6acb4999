/- Parts of a proof that a law of the program holds: what the program computes, and why that is right. -/
import Derived.KernelRfl
import Derived.MapKept
import Derived.Carry
import Derived.ChangeMaps5
import Derived.Test.YteognanhfpbghaaZFnConnected0
section
set_option linter.unusedVariables false
set_option linter.unusedSimpArgs false
set_option linter.unnecessarySimpa false
namespace Go.Fw
def idx {α : Type} (l : List α) (i : Int) : Option α := if 0 ≤ i then l[i.toNat]? else none
def lim (n : Nat) : Option Unit := if n ≤ LIM then some () else none
def lenOk (n : Int) : Option Unit := if 0 ≤ n ∧ n ≤ 2147483648 then some () else none
def nz (n : Int) : Option Unit := if n ≠ 0 then some () else none
def same (a b : Nat) : Option Unit := if a = b then some () else none
def nn (n : Int) : Option Unit := if 0 ≤ n then some () else none
def BIG : Nat := 18446744073709551616
theorem idx_nn {α : Type} {l : List α} {i : Int} {x : α} (h : idx l i = some x) : 0 ≤ i := by
  unfold idx at h; split at h
  · assumption
  · cases h
theorem idx_get {α : Type} {l : List α} {i : Int} {x : α} (h : idx l i = some x) : l[i.toNat]? = some x := by
  unfold idx at h; split at h
  · assumption
  · cases h
theorem idx_lt {α : Type} {l : List α} {i : Int} {x : α} (h : idx l i = some x) : i < l.length := by
  have h0 := idx_nn h
  have h1 := (List.getElem?_eq_some_iff.1 (idx_get h)).1
  omega
theorem lim_le {n : Nat} {u : Unit} (h : lim n = some u) : n ≤ LIM := by
  unfold lim at h; split at h
  · assumption
  · cases h
theorem lenOk_le {n : Int} {u : Unit} (h : lenOk n = some u) : 0 ≤ n ∧ n ≤ LIM := by
  unfold lenOk at h; split at h
  · assumption
  · cases h
theorem nz_ne {n : Int} {u : Unit} (h : nz n = some u) : n ≠ 0 := by
  unfold nz at h; split at h
  · assumption
  · cases h
theorem same_eq {a b : Nat} {u : Unit} (h : same a b = some u) : a = b := by
  unfold same at h; split at h
  · assumption
  · cases h
theorem nn_le {n : Int} {u : Unit} (h : nn n = some u) : 0 ≤ n := by
  unfold nn at h; split at h
  · assumption
  · cases h
section
variable {P : Program} {C : Ctx} {σ σ' : Slots} {m m' : Mem} {is : List It} {τ υ : Type} {M : Option τ} {K : τ → Post}
def SubS (σ' σ : Slots) : Prop := match σ' with
  | [] => True
  | (t, v) :: r => lk σ t = some v ∧ SubS r σ
def SubM (m' m : Mem) : Prop := match m' with
  | [] => True
  | (n, o) :: r => lk m n = some o ∧ SubM r m
theorem SubS.spec : ∀ {σ' : Slots}, SubS σ' σ → ∀ t v, lk σ' t = some v → lk σ t = some v
  | [], _, _, _, h => by cases h
  | (k, x) :: r, hs, t, v, h => by
    change (bif Nat.beq k t then some x else lk r t) = some v at h
    cases hb : Nat.beq k t with
    | true =>
      rw [hb, cond_true] at h
      injection h with h
      have := Nat.eq_of_beq_eq_true hb
      subst this
      subst h
      exact hs.1
    | false =>
      rw [hb, cond_false] at h
      exact SubS.spec hs.2 t v h
theorem SubM.spec : ∀ {m' : Mem}, SubM m' m → ∀ t v, lk m' t = some v → lk m t = some v
  | [], _, _, _, h => by cases h
  | (k, x) :: r, hs, t, v, h => by
    change (bif Nat.beq k t then some x else lk r t) = some v at h
    cases hb : Nat.beq k t with
    | true =>
      rw [hb, cond_true] at h
      injection h with h
      have := Nat.eq_of_beq_eq_true hb
      subst this
      subst h
      exact hs.1
    | false =>
      rw [hb, cond_false] at h
      exact SubM.spec hs.2 t v h
theorem Ent.of (h1 : SubS σ' σ) (h2 : SubM m' m) : Ent P C σ m σ' m' := fun R B g _ _ hs => ⟨R, B, g, hs.weak (SubS.spec h1) (SubM.spec h2)⟩
theorem Ent.refl : Ent P C σ m σ m := fun R B g _ _ hs => ⟨R, B, g, hs⟩
theorem Ent.trans {σ2 : Slots} {m2 : Mem} (h : Ent P C σ m σ' m') (k : Ent P C σ' m' σ2 m2) : Ent P C σ m σ2 m2 := fun R B g a w hs => by
  obtain ⟨R', B', g', hs'⟩ := h R B g a w hs
  exact k R' B' g' a w hs'
theorem AOR.ent {ops : Array Oper} {rest : List Oper} (h : Ent P C σ m σ' m') (k : AOR P C ops rest is σ' m' M K) : AOR P C ops rest is σ m M K := fun t ht R B g a w hs => by
  obtain ⟨R', B', g', hs'⟩ := h R B g a w hs
  exact k t ht R' B' g' a w hs'
def KL {σs β ρ : Type} (P : Program) (C : Ctx) (id : Nat) (S : σs → Slots × Mem) (Sb : β → Slots × Mem) (Kr : ρ → Post) : σs ⊕ (β ⊕ ρ) → Post := fun o e σ m => match o with
  | .inl s => e = .normal ∧ Ent P C σ m (S s).1 (S s).2
  | .inr (.inl b) => e = .exit id ∧ Ent P C σ m (Sb b).1 (Sb b).2
  | .inr (.inr r) => e = .ret ∧ Kr r .ret σ m
theorem AWR.loopR {σs β ρ : Type} {body : Code} {id : Nat} (bm : σs → Option (σs ⊕ (β ⊕ ρ))) (S : σs → Slots × Mem) (Sb : β → Slots × Mem) (Kr : ρ → Post) {f : β → Option τ} {gr : ρ → Option τ} {n : Nat} {s : σs}
    (hb : ∀ s, AWR P C [.code body] (S s).1 (S s).2 (bm s) (KL P C id S Sb Kr)) (h0 : Ent P C σ m (S s).1 (S s).2) (hid : hasBlk id is = true)
    (hl : ∀ b, loopM bm n s = some (.inl b) → AWR P C (dropTo id is) (Sb b).1 (Sb b).2 (f b) K) (hr : ∀ r t σ m, gr r = some t → Kr r .ret σ m → K t .ret σ m) :
    AWR P C (.code (.loop body) :: is) σ m ((loopM bm n s).bind (Sum.elim f gr)) K :=
  AWR.loop (Lv := fun o e σ m => match o with | .inl b => e = .exit id ∧ Ent P C σ m (Sb b).1 (Sb b).2 | .inr r => e = .ret ∧ Kr r .ret σ m) bm S
    (fun s t ht R B g a w hs => wp_mono (hb s t ht R B g a w hs) fun e a w he => by
      obtain ⟨σ', m', R', B', g', hs', hp⟩ := he
      refine ⟨σ', m', R', B', g', hs', ?_⟩
      rcases t with s' | b | r
      · exact hp
      · obtain ⟨rfl, hp⟩ := hp
        exact ⟨by simp, rfl, hp⟩
      · obtain ⟨rfl, hp⟩ := hp
        exact ⟨by simp, rfl, hp⟩) h0 (fun u e σ' m' hu hlv t ht => by
      rcases u with b | r
      · obtain ⟨rfl, hp⟩ := hlv
        exact AWE.exit_to hid (AWE.ent hp (hl b hu t ht))
      · obtain ⟨rfl, hp⟩ := hlv
        exact AWE.ret_end (hr r t σ' m' ht hp))
def KL1 {σs β : Type} (P : Program) (C : Ctx) (id : Nat) (S : σs → Slots × Mem) (Sb : β → Slots × Mem) : σs ⊕ β → Post := fun o e σ m => match o with
  | .inl s => e = .normal ∧ Ent P C σ m (S s).1 (S s).2
  | .inr b => e = .exit id ∧ Ent P C σ m (Sb b).1 (Sb b).2
theorem AWR.loop1 {σs β : Type} {body : Code} {id : Nat} (bm : σs → Option (σs ⊕ β)) (S : σs → Slots × Mem) (Sb : β → Slots × Mem) {f : β → Option τ} {n : Nat} {s : σs}
    (hb : ∀ s, AWR P C [.code body] (S s).1 (S s).2 (bm s) (KL1 P C id S Sb)) (h0 : Ent P C σ m (S s).1 (S s).2) (hid : hasBlk id is = true)
    (hl : ∀ b, loopM bm n s = some b → AWR P C (dropTo id is) (Sb b).1 (Sb b).2 (f b) K) : AWR P C (.code (.loop body) :: is) σ m ((loopM bm n s).bind f) K :=
  AWR.loop (Lv := fun b e σ m => e = .exit id ∧ Ent P C σ m (Sb b).1 (Sb b).2) bm S
    (fun s t ht R B g a w hs => wp_mono (hb s t ht R B g a w hs) fun e a w he => by
      obtain ⟨σ', m', R', B', g', hs', hp⟩ := he
      refine ⟨σ', m', R', B', g', hs', ?_⟩
      rcases t with s' | b
      · exact hp
      · obtain ⟨rfl, hp⟩ := hp
        exact ⟨by simp, rfl, hp⟩) h0 (fun u e σ' m' hu hlv t ht => by
      obtain ⟨rfl, hp⟩ := hlv
      exact AWE.exit_to hid (AWE.ent hp (hl u hu t ht)))
def KJ (P : Program) (C : Ctx) (S : υ → Slots × Mem) : υ → Post := fun u e σ m => e = .normal ∧ Ent P C σ m (S u).1 (S u).2
theorem AWR.joinK {c : Code} {M1 : Option υ} {f : υ → Option τ} (S : υ → Slots × Mem) (h1 : AWR P C [.code c] σ m M1 (KJ P C S)) (h2 : ∀ t, M1 = some t → AWR P C is (S t).1 (S t).2 (f t) K) : AWR P C (.code c :: is) σ m (M1.bind f) K :=
  AWR.join S h1 h2
theorem AWE.exit_end {id : Nat} {Q : Post} : ∀ {is : List It}, hasBlk id is = false → Q (.exit id) σ m → AWE P C is (.exit id) σ m Q
  | [], _, h => AWE.nil h
  | .code c :: is, hb, h => AWE.exit_code (AWE.exit_end (is := is) hb h)
  | .blk i :: is, hb, h => by
    unfold hasBlk at hb
    rw [Bool.or_eq_false_iff] at hb
    exact AWE.exit_miss (Ne.symm (Nat.ne_of_beq_eq_false hb.1)) (AWE.exit_end (is := is) hb.2 h)
theorem AWR.exit_end {id : Nat} {t : τ} (hb : hasBlk id is = false) (h : K t (.exit id) σ m) : AWR P C (.code (.exit id) :: is) σ m (some t) K := AWR.exit_out (AWE.exit_end hb h)
def FPost {ρ : Type} (P : Program) (res : List ResultVar) (us : Mem) (X : List Nat) (rs : ρ → List SV) (dfs : ρ → Mem) : ρ → Post := fun t e σ m =>
  (e = .normal ∨ e = .ret) ∧ RvL P σ m res (rs t) ∧ LkL m (dfs t) ∧ subL (keys us) (keys (dfs t)) = true ∧ subL X (keys (dfs t)) = true ∧ PermA (resA (rs t)) ∧ (∀ p ∈ dfs t, PermO p.2) ∧ okA (keys us ++ X) (resA (rs t)) = true ∧
    (dfs t).all (fun p => (keys us ++ X).elem p.1 && okO (keys us ++ X) p.2) = true
def PermPL : List PV → Prop
  | [] => True
  | p :: r => PermP p ∧ PermPL r
theorem PermPL.spec : ∀ {l : List PV}, PermPL l → ∀ p ∈ l, PermP p
  | [], _, p, hp => by cases hp
  | q :: r, h, p, hp => by
    cases hp with
    | head => exact h.1
    | tail _ hp => exact PermPL.spec h.2 p hp
def PermCL : List CV → Prop
  | [] => True
  | p :: r => PermC p ∧ PermCL r
theorem PermCL.spec : ∀ {l : List CV}, PermCL l → ∀ p ∈ l, PermC p
  | [], _, p, hp => by cases hp
  | q :: r, h, p, hp => by
    cases hp with
    | head => exact h.1
    | tail _ hp => exact PermCL.spec h.2 p hp
def PermSV : SV → Prop
  | .c x => PermC x
  | .agg cs => PermCL cs
theorem PermSV.spec {x : SV} (h : PermSV x) : PermS x := by
  cases x with
  | c x => exact h
  | agg cs => exact PermCL.spec h
def PermSL : List SV → Prop
  | [] => True
  | x :: r => PermSV x ∧ PermSL r
theorem PermSL.spec : ∀ {l : List SV}, PermSL l → ∀ p ∈ l, PermS p
  | [], _, p, hp => by cases hp
  | q :: r, h, p, hp => by
    cases hp with
    | head => exact h.1.spec
    | tail _ hp => exact PermSL.spec h.2 p hp
theorem PermSL.res {l : List SV} (h : PermSL l) : PermA (resA l) := by
  match l, h with
  | [], _ => intro x hx; cases hx
  | [x], h => exact h.1.spec
  | x :: y :: r, h => exact PermSL.spec h
def PermL : Mem → Prop
  | [] => True
  | (_, o) :: r => PermO o ∧ PermL r
theorem PermL.spec : ∀ {df : Mem}, PermL df → ∀ p ∈ df, PermO p.2
  | [], _, p, hp => by cases hp
  | (n, o) :: r, h, p, hp => by
    cases hp with
    | head => exact h.1
    | tail _ hp => exact PermL.spec h.2 p hp
theorem PermO.prow' {α : Type} {enc : α → List PV} {e : TypeId} {xs : List α} (h : ∀ a, PermPL (enc a)) : PermO (.prow e (xs.map enc)) := fun cs hcs p hp => by
  obtain ⟨a, _, rfl⟩ := List.mem_map.1 hcs
  exact (h a).spec p hp
theorem permC_xs {α : Type} {enc : α → List PV} {xs : List α} (h : ∀ a, PermPL (enc a)) : PermC (.pv (.xs true (xs.map enc))) := PermP.xs fun cs hcs p hp => by
  obtain ⟨a, _, rfl⟩ := List.mem_map.1 hcs
  exact (h a).spec p hp
theorem infS {t : TypeId} (h : (P.info? t).isSome = true) : P.info? t = some ((P.info? t).get h) := (Option.some_get h).symm
theorem FPost.mk {ρ : Type} {res : List ResultVar} {us : Mem} {X : List Nat} {rs : ρ → List SV} {dfs : ρ → Mem} {t : ρ} {e : Exit} (he : e = .normal ∨ e = .ret) (h1 : RvL P σ m res (rs t)) (h2 : LkL m (dfs t))
    (hside : (subL (keys us) (keys (dfs t)) && subL X (keys (dfs t)) && okA (keys us ++ X) (resA (rs t)) && (dfs t).all (fun p => (keys us ++ X).elem p.1 && okO (keys us ++ X) p.2)) = true) (h3 : PermSL (rs t)) (h4 : PermL (dfs t)) :
    FPost P res us X rs dfs t e σ m := by
  simp only [Bool.and_eq_true] at hside
  obtain ⟨⟨⟨a1, a2⟩, a3⟩, a4⟩ := hside
  exact ⟨he, h1, h2, a1, a2, h3.res, h4.spec, a3, a4⟩
theorem FPost.ret {ρ : Type} {res : List ResultVar} {us : Mem} {X : List Nat} {rs : ρ → List SV} {dfs : ρ → Mem} {t : ρ} {e : Exit} {σ : Slots} {m : Mem} (h : FPost P res us X rs dfs t .ret σ m) : FPost P res us X rs dfs t .ret σ m := h
theorem Fn.of {f : FuncId} {fn : Func} {c : Code} {args : List SV} {us : Mem} {pn X : List Nat} {N : Nat} {ρ : Type} {M : Option ρ} {rs : ρ → List SV} {dfs : ρ → Mem} (hf : P.funcs[f]? = some fn) (hb : fn.body = some c) (hN : fn.ntmps = N)
    (hargs : args.length ≤ N) (hside : (subL (keys us) (pn ++ X) && disL X pn && subL pn (keys us)) = true)
    (h : ∀ w0 U0 R0 g0, AWR P ⟨w0, U0, R0, g0, N, pn⟩ [.code c] (argSl 0 args) us M (FPost P fn.results.toList us X rs dfs)) : ∀ t, M = some t → Fn P f args us (resA (rs t)) (dfs t) (keys us) X :=
  Fn.of_body (df := []) hf hb hN hargs hside fun w0 U0 R0 g0 _ => h w0 U0 R0 g0
theorem Fn.ofU {f : FuncId} {fn : Func} {c : Code} {args : List SV} {us : Mem} {pn X : List Nat} {N : Nat} {ρ : Type} {M : Option ρ} {rs : ρ → List SV} {dfs : ρ → Mem} (hf : P.funcs[f]? = some fn) (hb : fn.body = some c) (hN : fn.ntmps = N)
    (hargs : args.length ≤ N) (hside : (subL (keys us) (pn ++ X) && disL X pn && subL pn (keys us)) = true)
    (h : ∀ w0 U0 R0 g0, (∀ b, U0 b → ∃ n ∈ keys us, (g0 n).has b) → AWR P ⟨w0, U0, R0, g0, N, pn⟩ [.code c] (argSl 0 args) us M (FPost P fn.results.toList us X rs dfs)) : ∀ t, M = some t → Fn P f args us (resA (rs t)) (dfs t) (keys us) X :=
  Fn.of_body (df := []) hf hb hN hargs hside h
end
def rn (ρ : List (Nat × Nat)) (n : Nat) : Nat := (lk ρ n).getD 0
def rnC (ρ : List (Nat × Nat)) : CV → CV
  | .loc n o l => .loc (rn ρ n) o l
  | .pl n o => .pl (rn ρ n) o
  | .fn f caps => .fn f (caps.map (rn ρ))
  | .mref n => .mref (rn ρ n)
  | .tl p k o l => .tl (rn ρ p) k o l
  | .tpl p k o => .tpl (rn ρ p) k o
  | x => x
def rnS (ρ : List (Nat × Nat)) : SV → SV
  | .c x => .c (rnC ρ x)
  | .agg cs => .agg (cs.map (rnC ρ))
def rnA (ρ : List (Nat × Nat)) : AV → AV
  | .s x => .s (rnS ρ x)
  | .tup xs => .tup (xs.map (rnS ρ))
def rnO (ρ : List (Nat × Nat)) : Ob → Ob
  | .row e els => .row e (els.map (·.map (rnC ρ)))
  | .prow e els => .prow e els
  | .mp es => .mp es
  | .pool e rows => .pool e rows
  | .trow e p lens => .trow e (rn ρ p) lens
  | .unk => .unk
def rnM (ρ : List (Nat × Nat)) (m : Mem) : Mem := m.map fun p => (rn ρ p.1, rnO ρ p.2)
section
variable {P : Program} {w : World} {R B : Nat → Prop} {g g' : Nat → GS} {ρ : List (Nat × Nat)}
theorem RC.rn {x : CV} {v : Value} (hz : okC (keys ρ) x = true) (hg : ∀ n ∈ keys ρ, g' (rn ρ n) = g n) (h : RC P w R B g x v) : RC P w R B g' (rnC ρ x) v := by
  refine ⟨h.1, ?_⟩
  have h2 := h.2
  cases x with
  | pv p => exact h2
  | px q cells => exact h2
  | loc n off len =>
    have hn := hg n (List.mem_of_elem_eq_true hz)
    rcases h2 with ⟨h3, h4⟩ | h3 | ⟨b, cap, cur, e, h3, h4⟩
    · exact .inl ⟨hn.trans h3, h4⟩
    · exact .inr (.inl h3)
    · exact .inr (.inr ⟨b, cap, cur, e, hn.trans h3, h4⟩)
  | pl n off =>
    obtain ⟨b, h3, h4⟩ := h2
    exact ⟨b, (hg n (List.mem_of_elem_eq_true hz)).trans h3, h4⟩
  | fn f caps =>
    obtain ⟨vs, h3, h4, h5⟩ := h2
    refine ⟨vs, h3, by simpa using h4, fun k n hk => ?_⟩
    rw [List.getElem?_map] at hk
    cases hc : caps[k]? with
    | none => rw [hc] at hk; cases hk
    | some n0 =>
      rw [hc] at hk
      injection hk with hk
      subst hk
      obtain ⟨b, h6, h7⟩ := h5 k n0 hc
      exact ⟨b, (hg n0 (List.mem_of_elem_eq_true (List.all_eq_true.1 hz n0 (List.mem_of_getElem? hc)))).trans h6, h7⟩
  | mref n =>
    obtain ⟨b, h3, h4⟩ := h2
    exact ⟨b, (hg n (List.mem_of_elem_eq_true hz)).trans h3, h4⟩
  | tl p k off len =>
    have hn := hg p (List.mem_of_elem_eq_true hz)
    rcases h2 with ⟨h3, h4⟩ | h3 | ⟨b, cap, cur, e, h3, h4⟩
    · exact .inl ⟨by rw [hn]; exact h3, h4⟩
    · exact .inr (.inl h3)
    · exact .inr (.inr ⟨b, cap, cur, e, by rw [hn]; exact h3, h4⟩)
  | tpl p k off =>
    obtain ⟨b, h3, h4⟩ := h2
    exact ⟨b, by rw [hg p (List.mem_of_elem_eq_true hz)]; exact h3, h4⟩
  | junk => trivial
theorem cells_rn {xs : List CV} {vs : List Value} (hz : xs.all (okC (keys ρ)) = true) (hg : ∀ n ∈ keys ρ, g' (Fw.rn ρ n) = g n) (h : ∀ (k : Nat) x, xs[k]? = some x → ∃ u, vs[k]? = some u ∧ RC P w R B g x u) :
    ∀ (k : Nat) x, (xs.map (rnC ρ))[k]? = some x → ∃ u, vs[k]? = some u ∧ RC P w R B g' x u := fun k x hk => by
  rw [List.getElem?_map] at hk
  cases hc : xs[k]? with
  | none => rw [hc] at hk; cases hk
  | some y =>
    rw [hc] at hk
    injection hk with hk
    subst hk
    obtain ⟨u, h4, h5⟩ := h k y hc
    exact ⟨u, h4, h5.rn (List.all_eq_true.1 hz y (List.mem_of_getElem? hc)) hg⟩
theorem RS.rn {x : SV} {v : Value} (hz : okS (keys ρ) x = true) (hg : ∀ n ∈ keys ρ, g' (Fw.rn ρ n) = g n) (h : RS P w R B g x v) : RS P w R B g' (rnS ρ x) v := by
  cases x with
  | c x => exact RC.rn hz hg h
  | agg cs =>
    obtain ⟨vs, h1, h2, h3⟩ := h
    exact ⟨vs, h1, by simpa using h2, cells_rn hz hg h3⟩
theorem RA.rn {x : AV} {v : Value} (hz : okA (keys ρ) x = true) (hg : ∀ n ∈ keys ρ, g' (Fw.rn ρ n) = g n) (h : RA P w R B g x v) : RA P w R B g' (rnA ρ x) v := by
  cases x with
  | s x => exact RS.rn hz hg h
  | tup xs =>
    obtain ⟨vs, h1, h2, h3⟩ := h
    refine ⟨vs, h1, by simpa using h2, fun k x hk => ?_⟩
    rw [List.getElem?_map] at hk
    cases hc : xs[k]? with
    | none => rw [hc] at hk; cases hk
    | some y =>
      rw [hc] at hk
      injection hk with hk
      subst hk
      obtain ⟨u, h4, h5⟩ := h3 k y hc
      exact ⟨u, h4, h5.rn (List.all_eq_true.1 hz y (List.mem_of_getElem? hc)) hg⟩
theorem pvs_rn (ρ : List (Nat × Nat)) (els : List (List PV)) : (pvs els).map (·.map (rnC ρ)) = pvs els := by simp [pvs, rnC, Function.comp_def]
theorem tcells_rn (ρ : List (Nat × Nat)) (p : Nat) (lens : List Nat) : (tcells p lens).map (·.map (rnC ρ)) = tcells (Fw.rn ρ p) lens := by
  refine List.ext_getElem? fun j => ?_
  simp only [tcells, List.getElem?_map, List.getElem?_mapIdx, Option.map_map]
  cases lens[j]? <;> simp [rnC]
theorem tcells_ok {zs : List Nat} {e : TypeId} {p : Nat} {lens : List Nat} (hz : okO zs (.trow e p lens) = true) : (tcells p lens).all (·.all (okC zs)) = true :=
  List.all_eq_true.2 fun cs hcs => by
    obtain ⟨j, l, rfl⟩ := mem_tcells hcs
    simpa [okC, okO] using hz
theorem ROw.rn {n : Nat} {e : TypeId} {els : List (List CV)} (hn : n ∈ keys ρ) (hz : els.all (·.all (okC (keys ρ))) = true) (hg : ∀ n ∈ keys ρ, g' (Fw.rn ρ n) = g n) (h : ROw P w R B g n e els) : ROw P w R B g' (Fw.rn ρ n) e (els.map (·.map (rnC ρ))) := by
  rcases h with ⟨h1, h2⟩ | ⟨b, cur, h1, h2, h3, h4, h5⟩
  · exact .inl ⟨(hg n hn).trans h1, by simp [h2]⟩
  · refine .inr ⟨b, cur, (hg n hn).trans h1, h2, fun cs hcs => ?_, by simpa using h4, fun j k cs x hj hk => ?_⟩
    · obtain ⟨c0, hc0, rfl⟩ := List.mem_map.1 hcs
      simpa using h3 c0 hc0
    · rw [List.getElem?_map] at hj
      cases hc : els[j]? with
      | none => rw [hc] at hj; cases hj
      | some cs0 =>
        rw [hc] at hj
        injection hj with hj
        subst hj
        rw [List.getElem?_map] at hk
        cases hc2 : cs0[k]? with
        | none => rw [hc2] at hk; cases hk
        | some y =>
          rw [hc2] at hk
          injection hk with hk
          subst hk
          obtain ⟨u, h6, h7⟩ := h5 j k cs0 y hc hc2
          exact ⟨u, h6, h7.rn (List.all_eq_true.1 (List.all_eq_true.1 hz cs0 (List.mem_of_getElem? hc)) y (List.mem_of_getElem? hc2)) hg⟩
theorem RO.rn {n : Nat} {o : Ob} (hn : n ∈ keys ρ) (hz : okO (keys ρ) o = true) (hg : ∀ n ∈ keys ρ, g' (Fw.rn ρ n) = g n) (h : RO P w R B g n o) : RO P w R B g' (Fw.rn ρ n) (rnO ρ o) := by
  cases o with
  | row e els => exact ROw.rn hn hz hg h
  | prow e els =>
    have := ROw.rn hn (by simp [pvs, List.all_eq_true, okC]) hg (els := pvs els) h
    rwa [pvs_rn] at this
  | mp es =>
    obtain ⟨b, ents, clock, h1, h2⟩ := h
    exact ⟨b, ents, clock, (hg n hn).trans h1, h2⟩
  | pool e rows =>
    obtain ⟨⟨bs, h1, h2⟩, h3⟩ := h
    exact ⟨⟨bs, (hg n hn).trans h1, h2⟩, by rw [hg n hn]; exact h3⟩
  | trow e p lens =>
    have := ROw.rn hn (tcells_ok hz) hg (els := tcells p lens) h
    rwa [tcells_rn] at this
  | unk => trivial
theorem rn_mem {n : Nat} (h : n ∈ keys ρ) : ∃ k, lk ρ n = some k ∧ (n, k) ∈ ρ := by
  induction ρ with
  | nil => simp [keys] at h
  | cons p r ih =>
    obtain ⟨a, b⟩ := p
    show ∃ k, (bif Nat.beq a n then some b else lk r n) = some k ∧ _
    cases hb : Nat.beq a n with
    | true => have := Nat.eq_of_beq_eq_true hb; subst this; exact ⟨b, rfl, List.mem_cons_self⟩
    | false =>
      have hne := Nat.ne_of_beq_eq_false hb
      have : n ∈ keys r := by
        simp [keys] at h
        rcases h with h | h
        · exact absurd h.symm hne
        · exact List.mem_map.2 (by simpa using h)
      obtain ⟨k, h1, h2⟩ := ih this
      exact ⟨k, h1, List.mem_cons_of_mem _ h2⟩
def nodup : List Nat → Bool
  | [] => true
  | n :: r => !r.elem n && nodup r
theorem nodup_inj : ∀ {ρ : List (Nat × Nat)}, nodup (ρ.map (·.2)) = true → ∀ p q, p ∈ ρ → q ∈ ρ → p.2 = q.2 → p = q
  | [], _, _, _, h, _, _ => by cases h
  | x :: r, hn, p, q, hp, hq, he => by
    unfold nodup at hn
    simp only [List.map_cons, Bool.and_eq_true, Bool.not_eq_true'] at hn
    have hx := notin_of_elem hn.1
    cases hp with
    | head =>
      cases hq with
      | head => rfl
      | tail _ hq => exact absurd (List.mem_map.2 ⟨q, hq, he.symm⟩) hx
    | tail _ hp =>
      cases hq with
      | head => exact absurd (List.mem_map.2 ⟨p, hp, he⟩) hx
      | tail _ hq => exact nodup_inj hn.2 p q hp hq he
theorem rn_inj (hn : nodup (ρ.map (·.2)) = true) {n k : Nat} (h1 : n ∈ keys ρ) (h2 : k ∈ keys ρ) (h : rn ρ n = rn ρ k) : n = k := by
  obtain ⟨a, ha, hma⟩ := rn_mem h1
  obtain ⟨b, hb, hmb⟩ := rn_mem h2
  unfold rn at h
  rw [ha, hb] at h
  have := nodup_inj hn _ _ hma hmb h
  injection this
theorem RC.un {x : CV} {v : Value} (hz : okC (keys ρ) x = true) (hg : ∀ n ∈ keys ρ, g' n = g (Fw.rn ρ n)) (h : RC P w R B g (rnC ρ x) v) : RC P w R B g' x v := by
  refine ⟨h.1, ?_⟩
  have h2 := h.2
  cases x with
  | pv p => exact h2
  | px q cells => exact h2
  | loc n off len =>
    have hn := hg n (List.mem_of_elem_eq_true hz)
    rcases h2 with ⟨h3, h4⟩ | h3 | ⟨b, cap, cur, e, h3, h4⟩
    · exact .inl ⟨hn.trans h3, h4⟩
    · exact .inr (.inl h3)
    · exact .inr (.inr ⟨b, cap, cur, e, hn.trans h3, h4⟩)
  | pl n off =>
    obtain ⟨b, h3, h4⟩ := h2
    exact ⟨b, (hg n (List.mem_of_elem_eq_true hz)).trans h3, h4⟩
  | fn f caps =>
    obtain ⟨vs, h3, h4, h5⟩ := h2
    refine ⟨vs, h3, by simpa using h4, fun k n hk => ?_⟩
    obtain ⟨b, h6, h7⟩ := h5 k (Fw.rn ρ n) (by rw [List.getElem?_map, hk]; rfl)
    exact ⟨b, (hg n (List.mem_of_elem_eq_true (List.all_eq_true.1 hz n (List.mem_of_getElem? hk)))).trans h6, h7⟩
  | mref n =>
    obtain ⟨b, h3, h4⟩ := h2
    exact ⟨b, (hg n (List.mem_of_elem_eq_true hz)).trans h3, h4⟩
  | tl p k off len =>
    have hn := hg p (List.mem_of_elem_eq_true hz)
    rcases h2 with ⟨h3, h4⟩ | h3 | ⟨b, cap, cur, e, h3, h4⟩
    · exact .inl ⟨by rw [hn]; exact h3, h4⟩
    · exact .inr (.inl h3)
    · exact .inr (.inr ⟨b, cap, cur, e, by rw [hn]; exact h3, h4⟩)
  | tpl p k off =>
    obtain ⟨b, h3, h4⟩ := h2
    exact ⟨b, by rw [hg p (List.mem_of_elem_eq_true hz)]; exact h3, h4⟩
  | junk => trivial
theorem cells_un {xs : List CV} {vs : List Value} (hz : xs.all (okC (keys ρ)) = true) (hg : ∀ n ∈ keys ρ, g' n = g (Fw.rn ρ n)) (h : ∀ (k : Nat) x, (xs.map (rnC ρ))[k]? = some x → ∃ u, vs[k]? = some u ∧ RC P w R B g x u) :
    ∀ (k : Nat) x, xs[k]? = some x → ∃ u, vs[k]? = some u ∧ RC P w R B g' x u := fun k x hk => by
  obtain ⟨u, h4, h5⟩ := h k (rnC ρ x) (by rw [List.getElem?_map, hk]; rfl)
  exact ⟨u, h4, h5.un (List.all_eq_true.1 hz x (List.mem_of_getElem? hk)) hg⟩
theorem RS.un {x : SV} {v : Value} (hz : okS (keys ρ) x = true) (hg : ∀ n ∈ keys ρ, g' n = g (Fw.rn ρ n)) (h : RS P w R B g (rnS ρ x) v) : RS P w R B g' x v := by
  cases x with
  | c x => exact RC.un hz hg h
  | agg cs =>
    obtain ⟨vs, h1, h2, h3⟩ := h
    exact ⟨vs, h1, by simpa using h2, cells_un hz hg h3⟩
theorem ROw.un {n : Nat} {e : TypeId} {els : List (List CV)} (hn : n ∈ keys ρ) (hz : els.all (·.all (okC (keys ρ))) = true) (hg : ∀ n ∈ keys ρ, g' n = g (Fw.rn ρ n)) (h : ROw P w R B g (Fw.rn ρ n) e (els.map (·.map (rnC ρ)))) : ROw P w R B g' n e els := by
  rcases h with ⟨h1, h2⟩ | ⟨b, cur, h1, h2, h3, h4, h5⟩
  · exact .inl ⟨(hg n hn).trans h1, by simpa using h2⟩
  · refine .inr ⟨b, cur, (hg n hn).trans h1, h2, fun cs hcs => ?_, by simpa using h4, fun j k cs x hj hk => ?_⟩
    · have := h3 (cs.map (rnC ρ)) (List.mem_map.2 ⟨cs, hcs, rfl⟩)
      simpa using this
    · obtain ⟨u, h6, h7⟩ := h5 j k (cs.map (rnC ρ)) (rnC ρ x) (by rw [List.getElem?_map, hj]; rfl) (by rw [List.getElem?_map, hk]; rfl)
      exact ⟨u, h6, h7.un (List.all_eq_true.1 (List.all_eq_true.1 hz cs (List.mem_of_getElem? hj)) x (List.mem_of_getElem? hk)) hg⟩
theorem RO.un {n : Nat} {o : Ob} (hn : n ∈ keys ρ) (hz : okO (keys ρ) o = true) (hg : ∀ n ∈ keys ρ, g' n = g (Fw.rn ρ n)) (h : RO P w R B g (Fw.rn ρ n) (rnO ρ o)) : RO P w R B g' n o := by
  cases o with
  | row e els => exact ROw.un hn hz hg h
  | prow e els => exact ROw.un hn (by simp [pvs, List.all_eq_true, okC]) hg (els := pvs els) (by rw [pvs_rn]; exact h)
  | mp es =>
    obtain ⟨b, ents, clock, h1, h2⟩ := h
    exact ⟨b, ents, clock, (hg n hn).trans h1, h2⟩
  | pool e rows =>
    obtain ⟨⟨bs, h1, h2⟩, h3⟩ := h
    exact ⟨⟨bs, (hg n hn).trans h1, h2⟩, by rw [hg n hn]; exact h3⟩
  | trow e p lens => exact ROw.un hn (tcells_ok hz) hg (els := tcells p lens) (by rw [tcells_rn]; exact h)
  | unk => trivial
theorem Fn.ren {f : FuncId} {args : List SV} {us df : Mem} {v : AV} {W X : List Nat} (ρ : List (Nat × Nat)) (h : Fn P f args us v df W X)
    (hc : (nodup (ρ.map (·.2)) && args.all (okS (keys ρ)) && us.all (fun p => (keys ρ).elem p.1 && okO (keys ρ) p.2) && okA (keys ρ) v && df.all (fun p => (keys ρ).elem p.1 && okO (keys ρ) p.2) && subL W (keys ρ) && subL X (keys ρ)) = true) :
    Fn P f (args.map (rnS ρ)) (rnM ρ us) (rnA ρ v) (rnM ρ df) (W.map (rn ρ)) (X.map (rn ρ)) := by
  simp only [Bool.and_eq_true] at hc
  obtain ⟨⟨⟨⟨⟨⟨hnd, hargs⟩, hus⟩, hv⟩, hdf⟩, hW⟩, hX⟩ := hc
  have hWk := subL_spec hW
  have hXk := subL_spec hX
  intro R B g w vs hw hlen hvs hust
  classical
  let gc : Nat → GS := fun n => if n ∈ keys ρ then g (rn ρ n) else .dead
  have hgc : ∀ n ∈ keys ρ, gc n = g (rn ρ n) := fun n hn => if_pos hn
  have hgd : ∀ n, gc n ≠ .dead → n ∈ keys ρ := fun n h => by
    by_cases hn : n ∈ keys ρ
    · exact hn
    · exact absurd (if_neg hn) h
  have hgk : ∀ n b, (gc n).has b → n ∈ keys ρ := fun n b h => hgd n fun e => by rw [e] at h; exact h
  have hwc : WF R B gc w := ⟨hw.rb, hw.lt, fun n b hg => by
    have hn := hgk n b hg
    rw [hgc n hn] at hg
    exact hw.ownH _ b hg, fun n k b h1 h2 => by
    have hn := hgk n b h1
    have hk := hgk k b h2
    rw [hgc n hn] at h1
    rw [hgc k hk] at h2
    exact rn_inj hnd hn hk (hw.injH _ _ b h1 h2), fun n j k b h1 h2 => by
    have hn := hgd n fun e => by rw [e] at h1; cases h1
    rw [hgc n hn] at h1 h2
    exact hw.nd _ j k b h1 h2⟩
  refine (h R B gc w vs hwc (by simpa using hlen) (fun k x hk => ?_) (fun p hp => ?_)).mono fun e w' hp => ?_
  · obtain ⟨u, h1, h2⟩ := hvs k (rnS ρ x) (by rw [List.getElem?_map, hk]; rfl)
    exact ⟨u, h1, h2.un (List.all_eq_true.1 hargs x (List.mem_of_getElem? hk)) hgc⟩
  · have h1 := List.all_eq_true.1 hus p hp
    simp only [Bool.and_eq_true] at h1
    exact RO.un (List.mem_of_elem_eq_true h1.1) h1.2 hgc (hust (rn ρ p.1, rnO ρ p.2) (List.mem_map.2 ⟨p, hp, rfl⟩))
  · obtain ⟨u, R', B', g', rfl, had, hR, hvv, hdfv⟩ := hp
    let g2 : Nat → GS := fun n => if h : ∃ k, k ∈ keys ρ ∧ rn ρ k = n then g' h.choose else g n
    have hin : ∀ k ∈ keys ρ, g2 (rn ρ k) = g' k := fun k hk => by
      have hex : ∃ j, j ∈ keys ρ ∧ rn ρ j = rn ρ k := ⟨k, hk, rfl⟩
      show (if h : ∃ j, j ∈ keys ρ ∧ rn ρ j = rn ρ k then g' h.choose else g (rn ρ k)) = g' k
      rw [dif_pos hex]
      have := hex.choose_spec
      rw [rn_inj hnd this.1 hk this.2]
    have hout : ∀ n, (¬ ∃ k, k ∈ keys ρ ∧ rn ρ k = n) → g2 n = g n := fun n hn => dif_neg hn
    have hRsz : ∀ b, R' b → b < w'.heap.size := fun b hb => had.wf.lt b (had.wf.rb b hb)
    have hcross : ∀ n k b, (¬ ∃ k, k ∈ keys ρ ∧ rn ρ k = n) → k ∈ keys ρ → (g n).has b → (g' k).has b → False := fun n k b hn hk h1 h2 => by
      by_cases hkX : k ∈ X
      · rcases had.fresh k hkX b h2 with h3 | ⟨m, hm, h3⟩
        · exact absurd (hw.ownH n b h1).2 (by omega)
        · rw [hgc m (hWk m hm)] at h3
          exact hn ⟨m, hWk m hm, hw.injH _ _ b h3 h1⟩
      · rw [had.names k hkX, hgc k hk] at h2
        exact hn ⟨k, hk, hw.injH _ _ b h2 h1⟩
    have hwf : WF R' (fun b => B b ∨ R' b) g2 w' := by
      refine ⟨fun b hb => .inr hb, fun b hb => hb.elim (fun hb => Nat.lt_of_lt_of_le (hw.lt b hb) had.size) (hRsz b), fun n b hg => ?_, fun n k b hn hk => ?_, fun n i j b hi hj => ?_⟩
      · by_cases hn : ∃ k, k ∈ keys ρ ∧ rn ρ k = n
        · obtain ⟨k, hk, rfl⟩ := hn
          rw [hin k hk] at hg
          have h1 := had.wf.ownH k b hg
          exact ⟨fun hB => h1.1 (hB.elim (had.b b) (had.wf.rb b)), h1.2⟩
        · rw [hout n hn] at hg
          have h1 := hw.ownH n b hg
          refine ⟨fun hB => ?_, Nat.lt_of_lt_of_le h1.2 had.size⟩
          rcases hB with hB | hB
          · exact h1.1 hB
          · rcases hR b hB with h2 | h2
            · exact h1.1 (hw.rb b h2)
            · exact absurd h1.2 (by omega)
      · by_cases h1 : ∃ j, j ∈ keys ρ ∧ rn ρ j = n <;> by_cases h2 : ∃ j, j ∈ keys ρ ∧ rn ρ j = k
        · obtain ⟨n0, hn0, rfl⟩ := h1
          obtain ⟨k0, hk0, rfl⟩ := h2
          rw [hin n0 hn0] at hn
          rw [hin k0 hk0] at hk
          rw [had.wf.injH n0 k0 b hn hk]
        · obtain ⟨n0, hn0, rfl⟩ := h1
          rw [hin n0 hn0] at hn
          rw [hout k h2] at hk
          exact (hcross k n0 b h2 hn0 hk hn).elim
        · obtain ⟨k0, hk0, rfl⟩ := h2
          rw [hin k0 hk0] at hk
          rw [hout n h1] at hn
          exact (hcross n k0 b h1 hk0 hn hk).elim
        · rw [hout n h1] at hn
          rw [hout k h2] at hk
          exact hw.injH n k b hn hk
      · by_cases hn : ∃ k, k ∈ keys ρ ∧ rn ρ k = n
        · obtain ⟨k, hk, rfl⟩ := hn
          rw [hin k hk] at hi hj
          exact had.wf.nd k i j b hi hj
        · rw [hout n hn] at hi hj
          exact hw.nd n i j b hi hj
    have hadv : Adv R B g w (W.map (rn ρ)) (X.map (rn ρ)) R' (fun b => B b ∨ R' b) g2 w' := by
      refine ⟨hwf, had.r, fun b hb => .inl hb, had.os, had.tape, had.output, had.size, fun b hb hnW => had.heap b hb fun n hn => ?_, fun n hn => ?_, fun n hn b hb => ?_, fun n hnW hnX b cur e hg hh => ?_⟩
      · rw [hgc n (hWk n hn)]
        exact hnW _ (List.mem_map.2 ⟨n, hn, rfl⟩)
      · by_cases h1 : ∃ k, k ∈ keys ρ ∧ rn ρ k = n
        · obtain ⟨k, hk, rfl⟩ := h1
          rw [hin k hk, had.names k fun hkX => hn (List.mem_map.2 ⟨k, hkX, rfl⟩), hgc k hk]
        · exact hout n h1
      · obtain ⟨k, hkX, rfl⟩ := List.mem_map.1 hn
        rw [hin k (hXk k hkX)] at hb
        rcases had.fresh k hkX b hb with h3 | ⟨m, hm, h3⟩
        · exact .inl h3
        · rw [hgc m (hWk m hm)] at h3
          exact .inr ⟨rn ρ m, List.mem_map.2 ⟨m, hm, rfl⟩, h3⟩
      · obtain ⟨k, hkW, rfl⟩ := List.mem_map.1 hnW
        exact had.shape k hkW (fun hkX => hnX (List.mem_map.2 ⟨k, hkX, rfl⟩)) b cur e (by rw [hgc k (hWk k hkW)]; exact hg) hh
    refine ⟨u, R', _, g2, rfl, hadv, hR, hvv.rn hv hin, fun p hp => ?_⟩
    obtain ⟨q, hq, rfl⟩ := List.mem_map.1 hp
    have h1 := List.all_eq_true.1 hdf q hq
    simp only [Bool.and_eq_true] at h1
    exact RO.rn (List.mem_of_elem_eq_true h1.1) h1.2 hin (hdfv q hq)
end
end Go.Fw
end
section
set_option linter.unusedVariables false
set_option linter.unusedSimpArgs false
set_option linter.unnecessarySimpa false
namespace Go.Fw
section
variable {P : Program} {o : Oper} {α : Type} {enc : α → List PV}
theorem LT.tlenRO {x : Operand} {t e : TypeId} {q : Bool} {xs : List α} (ho : o.op = .call { callee := .builtin .len, args := #[x], argTypes := #[t] }) (ht : P.underlying t = some (.slice e)) :
    LT P o [(x, Cc (.pv (.xs q (xs.map enc))))] [] (Iv xs.length) [] [] [] := by
  have := LT.lenRO (P := P) (o := o) (q := q) (els := xs.map enc) ho ht
  rwa [List.length_map] at this
theorem LT.tindexRO {x y : Operand} {t e : TypeId} {i : Int} {q : Bool} {xs : List α} {b : α} (ho : o.op = .indexAddr t x y) (h : elB P t = some e) (hi : idx xs i = some b) (hs : szP P e = (enc b).length) :
    LT P o [(x, Cc (.pv (.xs q (xs.map enc)))), (y, Iv i)] [] (Cc (.px q (enc b))) [] [] [] :=
  LT.indexRO ho h (idx_nn hi) (by rw [List.getElem?_map, idx_get hi]; rfl) hs.symm
theorem LT.tindexLoc {x y : Operand} {t e : TypeId} {i : Int} {n len : Nat} {xs : List α} {b : α} (hl : len = xs.length) (ho : o.op = .indexAddr t x y) (h : elB P t = some e) (hi : idx xs i = some b) :
    LT P o [(x, Cc (.loc n 0 len)), (y, Iv i)] [(n, .prow e (xs.map enc))] (Cc (.pl n (i.toNat * szP P e))) [] [] [] := by
  subst hl
  exact LT.usP (LT.indexLoc ho h (idx_nn hi) (idx_lt hi))
theorem pvs_get {xs : List α} {i : Int} {b : α} (hi : idx xs i = some b) : (pvs (xs.map enc))[i.toNat]? = some ((enc b).map .pv) := by
  simp [pvs, List.getElem?_map, idx_get hi]
theorem LT.tload1 {x : Operand} {t e : TypeId} {n off k : Nat} {i : Int} {xs : List α} {b : α} {p : PV} (ho : o.op = .load t x) (h : agB P t = some false) (hi : idx xs i = some b) (hk : (enc b)[k]? = some p)
    (ha : off = i.toNat * szP P e + k) : LT P o [(x, Cc (.pl n off))] [(n, .prow e (xs.map enc))] (Cc (.pv p)) [] [] [] :=
  LT.usP (LT.loadPl1 ho h (pvs_get hi) (by rw [List.getElem?_map, hk]; rfl) ha)
theorem LT.tloadN {x : Operand} {t e : TypeId} {n off s : Nat} {i : Int} {xs : List α} {b : α} {it : TypeInfo} (ho : o.op = .load t x) (h : agB P t = some true) (hit : P.info? t = some it) (hs : szP P t = s) (hi : idx xs i = some b) (hl : (enc b).length = s)
    (ha : off = i.toNat * szP P e) : LT P o [(x, Cc (.pl n off))] [(n, .prow e (xs.map enc))] (Ag ((enc b).map .pv)) [] [] [] := by
  have hd : ((((enc b).map CV.pv).drop 0).take (szP P t)) = (enc b).map CV.pv := by
    rw [List.drop_zero, List.take_of_length_le]
    rw [List.length_map, hl, hs]; exact Nat.le_refl _
  have := LT.loadPlN (P := P) (o := o) (n := n) (e := e) (k := 0) ho h hit (pvs_get (enc := enc) hi) ha (by rw [hd, List.length_map, hl, hs])
  rw [hd] at this
  exact LT.usP this
theorem LT.bload1 {x : Operand} {t e : TypeId} {n off : Nat} {cs : List CV} {c : CV} (ho : o.op = .load t x) (h : agB P t = some false) (hk : cs[off]? = some c) : LT P o [(x, Cc (.pl n off))] [(n, .row e [cs])] (Cc c) [] [] [] :=
  LT.loadPl1 (j := 0) ho h rfl hk (by rw [Nat.zero_mul, Nat.zero_add])
theorem LT.bloadN {x : Operand} {t e : TypeId} {n off s : Nat} {cs out : List CV} {it : TypeInfo} (ho : o.op = .load t x) (h : agB P t = some true) (hit : P.info? t = some it) (hs : szP P t = s) (ho2 : (cs.drop off).take s = out) (hl : out.length = s) :
    LT P o [(x, Cc (.pl n off))] [(n, .row e [cs])] (Ag out) [] [] [] := by
  have hd : ((cs.drop off).take (szP P t)) = out := by rw [hs, ho2]
  have := LT.loadPlN (P := P) (o := o) (n := n) (off := off) (e := e) (els := [cs]) (j := 0) (k := off) ho h hit rfl (by rw [Nat.zero_mul, Nat.zero_add]) (by rw [hd, hl, hs])
  rwa [hd] at this
theorem LT.bstore {t e : TypeId} {n off s : Nat} {x y : Operand} {cs out : List CV} {v : SV} {it : TypeInfo} (ho : o.op = .store t x y) (hd : o.dst = none) (hit : P.info? t = some it) (hs : szP P t = s) (hl : (svCells v).length = s) (hk : off + s ≤ cs.length)
    (hout : ow cs off (svCells v) = out) : LT P o [(x, Cc (.pl n off)), (y, .s v)] [(n, .row e [cs])] (.tup []) [(n, .row e [out])] [n] [] := by
  have := LT.store (P := P) (o := o) (n := n) (off := off) (e := e) (els := [cs]) (j := 0) (k := off) ho hd hit hs hl rfl (by rw [Nat.zero_mul, Nat.zero_add]) hk
  subst hout
  exact this
theorem LT.tstore {t e : TypeId} {n off k s : Nat} {x y : Operand} {i : Int} {xs : List α} {b b' : α} {v : SV} {it : TypeInfo} (ho : o.op = .store t x y) (hd : o.dst = none) (hit : P.info? t = some it) (hs : szP P t = s) (hl : (svCells v).length = s) (hi : idx xs i = some b)
    (ha : off = i.toNat * szP P e + k) (hk : k + s ≤ (enc b).length) (hb : ow ((enc b).map .pv) k (svCells v) = (enc b').map .pv) :
    LT P o [(x, Cc (.pl n off)), (y, .s v)] [(n, .prow e (xs.map enc))] (.tup []) [(n, .prow e ((xs.set i.toNat b').map enc))] [n] [] := by
  have := LT.store (P := P) (o := o) (n := n) (off := off) (e := e) (els := pvs (xs.map enc)) ho hd hit hs hl (pvs_get hi) ha (by simpa using hk)
  have e1 : (pvs (xs.map enc)).set i.toNat (ow ((enc b).map .pv) k (svCells v)) = pvs ((xs.set i.toNat b').map enc) := by
    rw [hb]
    simp [pvs, List.map_set]
  rw [e1] at this
  exact LT.dfP (Y := []) (LT.usP (by rw [pvs_junk]; exact this))
section
variable {t e : TypeId} {x y : Operand} {n n2 len len2 : Nat} {xs ys : List α} {z : Value} {s by_ : Nat} {q : Bool}
theorem enc_len (h : ∀ a, (enc a).length = s) : ∀ cs ∈ ys.map enc, cs.length = s := fun cs hcs => by
  obtain ⟨a, _, rfl⟩ := List.mem_map.1 hcs
  exact h a
theorem LT.tappRO (hl : len = xs.length) (ho : o.op = .call { callee := .builtin .append, args := #[x, y], argTypes := #[t, t] }) (ht : P.underlying t = some (.slice e)) (hz : TI P e z s by_) (hzs : z.cells.size = s) (hs : 0 < s) (hb : by_ ≤ 65536)
    (hl2 : ∀ a, (enc a).length = s) (hlim : xs.length + ys.length ≤ LIM) :
    LT P o [(x, Cc (.loc n 0 len)), (y, Cc (.pv (.xs q (ys.map enc))))] [(n, .prow e (xs.map enc))] (Cc (.loc n 0 (xs ++ ys).length)) [(n, .prow e ((xs ++ ys).map enc))] [n] [n] := by
  subst hl
  have := LT.appP_RO (P := P) (o := o) (n := n) (q := q) (pels := xs.map enc) (pels2 := ys.map enc) ho ht hz hzs hs hb (enc_len hl2) (by simpa using hlim)
  rwa [List.length_map, List.length_map, ← List.map_append, ← List.length_append] at this
theorem LT.tappP (hl : len = xs.length) (hl2 : len2 = ys.length) (ho : o.op = .call { callee := .builtin .append, args := #[x, y], argTypes := #[t, t] }) (ht : P.underlying t = some (.slice e)) (hz : TI P e z s by_) (hzs : z.cells.size = s) (hs : 0 < s) (hb : by_ ≤ 65536)
    (hel : ∀ a, (enc a).length = s) (hlim : xs.length + ys.length ≤ LIM) :
    LT P o [(x, Cc (.loc n 0 len)), (y, Cc (.loc n2 0 len2))] [(n, .prow e (xs.map enc)), (n2, .prow e (ys.map enc))] (Cc (.loc n 0 (xs ++ ys).length)) [(n, .prow e ((xs ++ ys).map enc))] [n] [n] := by
  subst hl; subst hl2
  have := LT.appP_P (P := P) (o := o) (n := n) (n2 := n2) (pels := xs.map enc) (pels2 := ys.map enc) ho ht hz hzs hs hb (enc_len hel) (by simpa using hlim)
  rwa [List.length_map, List.length_map, ← List.map_append, ← List.length_append] at this
end
theorem LT.tbuildSlice {t e : TypeId} {len n : Nat} {parts : Array (Nat × Operand)} (ps : Parts) {z : Value} {s b : Nat} {zc : List CV} (xs : List α) (ho : o.op = .buildSlice t len parts) (hps : parts.toList = Parts.ops ps) (he : P.underlying t = some (.slice e)) (hz : TI P e z s b)
    (hzc : z.cells.toList.map sC = zc) (h1 : z.cells.toList.all (·.oneCell') = true) (hsz : zc.length = s) (hlen : xs.length = len) (hmax : len * s ≤ 16777216 ∧ 0 < s) (hel : ∀ a, (enc a).length = s)
    (hf : fillC (fun i => some (i * s, s)) ((List.range (len * s)).map fun i => zc.getD (i % s) .junk) (Parts.vals ps) = some (pvs (xs.map enc)).flatten) :
    LT P o (Parts.ins ps) [] (Cc (.loc n 0 xs.length)) [(n, .prow e (xs.map enc))] [] [n] := by
  have hlen' : (pvs (xs.map enc)).length = xs.length := by simp [pvs]
  have := LT.buildSlice (P := P) (o := o) (n := n) ps (els := pvs (xs.map enc)) ho hps he hz hzc h1 hsz (hlen'.trans hlen) hmax (by
    refine List.all_eq_true.2 fun cs hcs => ?_
    obtain ⟨c, hc, rfl⟩ := List.mem_map.1 hcs
    obtain ⟨a, _, rfl⟩ := List.mem_map.1 hc
    rw [List.length_map, hel a]
    exact Nat.beq_refl s) hf
  rw [hlen'] at this
  exact this.dfP
theorem LT.tmake {t e : TypeId} {n : Nat} {x y : Operand} {len : Int} {z : Value} {s b : Nat} {zc : List CV} (a : α) (ho : o.op = .makeSlice t x y) (he : P.underlying t = some (.slice e)) (hz : TI P e z s b)
    (hzc : z.cells.toList.map sC = zc) (h1 : z.cells.toList.all (·.oneCell') = true) (hsz : zc.length = s) (hs : 0 < s) (hb : b ≤ 65536) (hl : 0 ≤ len ∧ len ≤ LIM) (ha : (enc a).map .pv = zc) :
    LT P o [(x, Iv len), (y, Iv len)] [] (Cc (.loc n 0 (List.replicate len.toNat a).length)) [(n, .prow e ((List.replicate len.toNat a).map enc))] [] [n] := by
  have := LT.makeSlice (P := P) (o := o) (n := n) (x := x) (y := y) ho he hz hzc h1 hsz hs hb hl
  have e1 : List.replicate len.toNat zc = pvs ((List.replicate len.toNat a).map enc) := by simp [pvs, List.map_replicate, ha]
  have e2 : (List.replicate len.toNat zc).length = (List.replicate len.toNat a).length := by simp
  rw [e2, e1] at this
  exact this.dfP
theorem ShC.tloc {sh : Mem} {n len : Nat} {e : TypeId} {xs : List α} (hl : len = xs.length) (h : lk sh n = some (.prow e (xs.map enc))) : ShC sh (.loc n 0 len) (.pv (.xs false (xs.map enc))) := by
  subst hl
  have := ShC.loc h
  rwa [List.length_map] at this
def JunkL (X : List Nat) : Mem → Prop
  | [] => True
  | (_, o) :: r => junkO X o = o ∧ JunkL X r
theorem JunkL.spec {X : List Nat} : ∀ {us : Mem}, JunkL X us → ∀ p ∈ us, junkO X p.2 = p.2
  | [], _, p, hp => by cases hp
  | (n, o) :: r, h, p, hp => by
    cases hp with
    | head => exact h.1
    | tail _ hp => exact JunkL.spec h.2 p hp
theorem LT.callF {cf : Operand} {f : FuncId} {ops : Array Operand} {ts : Array TypeId} {xs ys : List SV} {us sh df : Mem} {v : AV} {W X : List Nat} (hf : Fn P f ys us v df W X)
    (ho : o.op = .call { callee := .value cf, args := ops, argTypes := ts }) (hb : callB P f = true) (hsh : ShA sh xs ys) (hlen : ops.size = xs.length)
    (hside : (disL (keys sh) (W ++ X ++ keys us ++ keys df ++ []) && subL W (keys us)) = true) (hus : JunkL (keys sh) us) : LT P o ((cf, Cc (.fn f [])) :: zipOps ops.toList xs) (us ++ sh) v df W X :=
  LT.call (caps := []) (by rw [List.map_nil, List.append_nil]; exact hf) ho hb hlen hsh hside hus.spec
end
section
variable {P : Program} {C : Ctx} {σ : Slots} {m : Mem}
theorem St.nilName {R B : Nat → Prop} {g : Nat → GS} {a : Act} {w : World} (hs : St P C σ m R B g a w) (n : Nat) (hn : n ∉ C.pn) (e : TypeId) : St P C (junkSl [n] σ) ((n, .prow e []) :: junkM [n] m) R B (upd g n .nil) a w := by
  have had : Adv R B g w [] [n] R B (upd g n .nil) w := by
    refine ⟨hs.wf.upd n _ (Nat.le_refl _) (fun b hb => hb.elim) (fun i j b hi => by cases hi), fun _ h => h, fun _ h => h, rfl, rfl, rfl, Nat.le_refl _, fun _ _ _ => rfl, fun k hk => upd_ne g _ (by simpa using hk), fun k hk b hb => ?_, fun k hk => by cases hk⟩
    · have : k = n := by simpa using hk
      subst this
      rw [upd_same] at hb; exact hb.elim
  exact hs.step (us := []) (df := [(n, .prow e [])]) (W := []) (X := [n]) (d := none) (v := .tup []) (u := undef) trivial (fun _ h => by cases h) (fun p hp => by
      have : p = (n, .prow e []) := by simpa using hp
      subst this; exact .inl (by simp)) rfl (fun k hk => by
      have : k = n := by simpa using hk
      subst this; exact hn) had (fun b hb => .inl hb) (fun h => by cases h) (one_ro (.inl ⟨upd_same .., rfl⟩))
def nilAt (n k : Nat) (cs : List CV) : List CV := cs.set k (.loc n 0 0)
theorem nilAt_rel {w : World} {R B : Nat → Prop} {g : Nat → GS} {n k : Nat} {cs : List CV} {us : Nat → Option Value} (hg : g n = .nil) (hk : cs[k]? = some (sC nilV)) (h : ∀ (j : Nat) x, cs[j]? = some x → ∃ u, us j = some u ∧ RC P w R B g x u) :
    ∀ (j : Nat) x, (nilAt n k cs)[j]? = some x → ∃ u, us j = some u ∧ RC P w R B g x u := fun j x hj => by
  unfold nilAt at hj
  rw [List.getElem?_set] at hj
  by_cases hkj : k = j
  · subst hkj
    have hlt : k < cs.length := (List.getElem?_eq_some_iff.1 hk).1
    rw [if_pos rfl, if_pos hlt] at hj
    injection hj with hj
    subst hj
    obtain ⟨u, h1, h2⟩ := h k _ hk
    obtain ⟨_, h2⟩ := h2
    cases h2
    exact ⟨nilV, h1, rfl, .inl ⟨hg, rfl, rfl, rfl⟩⟩
  · rw [if_neg hkj] at hj
    exact h j x hj
theorem junk_nil_at {n k : Nat} {cs : List CV} (h : cs[k]? = some (sC nilV)) : (cs.map (junkC [n]))[k]? = some (sC nilV) := by rw [List.getElem?_map, h]; rfl
theorem Ent.nilB (b k n : Nat) (e : TypeId) {t : TypeId} {cs : List CV} (hn : C.pn.elem n = false) (hbn : Nat.beq b n = false) (h : lk m b = some (.row t [cs])) (hk : cs[k]? = some (sC nilV)) :
    Ent P C σ m (junkSl [n] σ) ((b, .row t [nilAt n k (cs.map (junkC [n]))]) :: (n, .prow e []) :: junkM [n] m) := fun R B g a w hs => by
  have h1 := hs.nilName n (notin_of_elem hn) e
  have hne : b ≠ n := Nat.ne_of_beq_eq_false hbn
  have hlk : lk ((n, Ob.prow e []) :: junkM [n] m) b = some (.row t [cs.map (junkC [n])]) := by
    show (bif Nat.beq n b then some (Ob.prow e []) else lk (junkM [n] m) b) = _
    have hnb : Nat.beq n b = false := by
      cases hx : Nat.beq n b with
      | false => rfl
      | true => exact absurd (Nat.eq_of_beq_eq_true hx).symm hne
    rw [hnb, cond_false, lk_junkM', if_neg (by simpa using hne), h]
    rfl
  refine ⟨R, B, _, { h1 with ob := fun j o hj => ?_, ow := fun j o c hj hg => ?_ }⟩
  · change (bif Nat.beq b j then some (Ob.row t [nilAt n k (cs.map (junkC [n]))]) else lk ((n, Ob.prow e []) :: junkM [n] m) j) = some o at hj
    cases hb : Nat.beq b j with
    | false => rw [hb] at hj; exact h1.ob j o hj
    | true =>
      rw [hb, cond_true] at hj
      injection hj with hj
      subst hj
      have := Nat.eq_of_beq_eq_true hb
      subst this
      have h2 := h1.ob b _ hlk
      rcases h2 with ⟨_, h3⟩ | ⟨c, cur, h3, h4, h5, h6, h7⟩
      · cases h3
      · refine .inr ⟨c, cur, h3, h4, fun x hx => ?_, by simpa using h6, fun j k' x y hj hk' => ?_⟩
        · have : x = nilAt n k (cs.map (junkC [n])) := by simpa using hx
          subst this
          have := h5 (cs.map (junkC [n])) (by simp)
          simpa [nilAt] using this
        · cases j with
          | zero =>
            simp at hj
            subst hj
            exact nilAt_rel (us := fun k' => cur[0 * szP P t + k']?) (upd_same ..) (junk_nil_at hk) (fun q y hq => h7 0 q _ y rfl hq) k' y hk'
          | succ j => simp at hj
  · change (bif Nat.beq b j then some (Ob.row t [nilAt n k (cs.map (junkC [n]))]) else lk ((n, Ob.prow e []) :: junkM [n] m) j) = some o at hj
    cases hb : Nat.beq b j with
    | false => rw [hb] at hj; exact h1.ow j o c hj hg
    | true =>
      have := Nat.eq_of_beq_eq_true hb
      subst this
      exact h1.ow b _ c hlk hg
end
end Go.Fw
end
section
set_option linter.unusedVariables false
set_option linter.unusedSimpArgs false
set_option linter.unnecessarySimpa false
namespace Go.Fw
def mvN (n k j : Nat) : Nat := bif Nat.beq j n then k else j
def mvC (n k : Nat) : CV → CV
  | .loc j o l => .loc (mvN n k j) o l
  | .pl j o => .pl (mvN n k j) o
  | .fn f caps => .fn f (caps.map (mvN n k))
  | .mref j => .mref (mvN n k j)
  | .tl j i o l => .tl (mvN n k j) i o l
  | .tpl j i o => .tpl (mvN n k j) i o
  | x => x
def mvS (n k : Nat) : SV → SV
  | .c x => .c (mvC n k x)
  | .agg cs => .agg (cs.map (mvC n k))
def mvA (n k : Nat) : AV → AV
  | .s x => .s (mvS n k x)
  | .tup xs => .tup (xs.map (mvS n k))
def mvO (n k : Nat) : Ob → Ob
  | .row e els => .row e (els.map (·.map (mvC n k)))
  | .prow e els => .prow e els
  | .mp es => .mp es
  | .pool e rows => .pool e rows
  | .trow e p lens => .trow e (mvN n k p) lens
  | .unk => .unk
def mvSl (n k : Nat) (σ : Slots) : Slots := σ.map fun p => (p.1, mvA n k p.2)
def mvM (n k : Nat) (m : Mem) : Mem := m.map fun p => (mvN n k p.1, mvO n k p.2)
def mvG (n k : Nat) (g : Nat → GS) : Nat → GS := fun j => if j = k then g n else if j = n then .dead else g j
theorem mvG_mv {n k j : Nat} (g : Nat → GS) (hj : j ≠ k) : mvG n k g (mvN n k j) = g j := by
  unfold mvN
  cases hb : Nat.beq j n with
  | true =>
    have := Nat.eq_of_beq_eq_true hb
    subst this
    simp [mvG]
  | false =>
    have := Nat.ne_of_beq_eq_false hb
    simp [mvG, hj, this]
section
variable {P : Program} {w : World} {R B : Nat → Prop} {g : Nat → GS} {n k : Nat}
theorem ne_of_elem1 {j k : Nat} (h : [k].elem j = false) : j ≠ k := by
  have := notin_of_elem h
  simpa using this
theorem RC.mv {x : CV} {v : Value} (hz : nrC [k] x = true) (h : RC P w R B g x v) : RC P w R B (mvG n k g) (mvC n k x) v := by
  refine ⟨h.1, ?_⟩
  have h2 := h.2
  cases x with
  | pv p => exact h2
  | px q cells => exact h2
  | loc j off len =>
    have hn := mvG_mv (n := n) g (ne_of_elem1 (by simpa [nrC] using hz))
    rcases h2 with ⟨h3, h4⟩ | h3 | ⟨b, cap, cur, e, h3, h4⟩
    · exact .inl ⟨hn.trans h3, h4⟩
    · exact .inr (.inl h3)
    · exact .inr (.inr ⟨b, cap, cur, e, hn.trans h3, h4⟩)
  | pl j off =>
    obtain ⟨b, h3, h4⟩ := h2
    exact ⟨b, (mvG_mv g (ne_of_elem1 (by simpa [nrC] using hz))).trans h3, h4⟩
  | fn f caps =>
    obtain ⟨vs, h3, h4, h5⟩ := h2
    refine ⟨vs, h3, by simpa using h4, fun i j hk => ?_⟩
    rw [List.getElem?_map] at hk
    cases hc : caps[i]? with
    | none => rw [hc] at hk; cases hk
    | some n0 =>
      rw [hc] at hk
      injection hk with hk
      subst hk
      obtain ⟨b, h6, h7⟩ := h5 i n0 hc
      have hz' : caps.any [k].elem = false := by simpa [nrC] using hz
      have hne : [k].elem n0 = false := by
        cases hx : [k].elem n0 with
        | false => rfl
        | true =>
          have : caps.any [k].elem = true := List.any_eq_true.2 ⟨n0, List.mem_of_getElem? hc, hx⟩
          rw [hz'] at this
          cases this
      exact ⟨b, (mvG_mv g (ne_of_elem1 hne)).trans h6, h7⟩
  | mref j =>
    obtain ⟨b, h3, h4⟩ := h2
    exact ⟨b, (mvG_mv g (ne_of_elem1 (by simpa [nrC] using hz))).trans h3, h4⟩
  | tl j i off len =>
    have hn := mvG_mv (n := n) g (ne_of_elem1 (by simpa [nrC] using hz))
    rcases h2 with ⟨h3, h4⟩ | h3 | ⟨b, cap, cur, e, h3, h4⟩
    · exact .inl ⟨by rw [hn]; exact h3, h4⟩
    · exact .inr (.inl h3)
    · exact .inr (.inr ⟨b, cap, cur, e, by rw [hn]; exact h3, h4⟩)
  | tpl j i off =>
    obtain ⟨b, h3, h4⟩ := h2
    exact ⟨b, by rw [mvG_mv (n := n) g (ne_of_elem1 (by simpa [nrC] using hz))]; exact h3, h4⟩
  | junk => trivial
theorem nr_junkC (X : List Nat) (x : CV) : nrC X (junkC X x) = true := by
  cases x with
  | loc j o l => cases hx : X.elem j <;> simp only [nrC, junkC, hx, cond_true, cond_false, Bool.not_false]
  | pl j o => cases hx : X.elem j <;> simp only [nrC, junkC, hx, cond_true, cond_false, Bool.not_false]
  | fn f caps => cases hx : caps.any X.elem <;> simp only [nrC, junkC, hx, cond_true, cond_false, Bool.not_false]
  | mref j => cases hx : X.elem j <;> simp only [nrC, junkC, hx, cond_true, cond_false, Bool.not_false]
  | tl j i o l => cases hx : X.elem j <;> simp only [nrC, junkC, hx, cond_true, cond_false, Bool.not_false]
  | tpl j i o => cases hx : X.elem j <;> simp only [nrC, junkC, hx, cond_true, cond_false, Bool.not_false]
  | _ => rfl
theorem cells_mv {xs : List CV} {us : Nat → Option Value} (h : ∀ (i : Nat) x, (xs.map (junkC [k]))[i]? = some x → ∃ u, us i = some u ∧ RC P w R B g x u) :
    ∀ (i : Nat) x, ((xs.map (junkC [k])).map (mvC n k))[i]? = some x → ∃ u, us i = some u ∧ RC P w R B (mvG n k g) x u := fun i x hi => by
  rw [List.getElem?_map] at hi
  cases hc : (xs.map (junkC [k]))[i]? with
  | none => rw [hc] at hi; cases hi
  | some y =>
    rw [hc] at hi
    injection hi with hi
    subst hi
    obtain ⟨u, h1, h2⟩ := h i y hc
    refine ⟨u, h1, h2.mv ?_⟩
    rw [List.getElem?_map] at hc
    cases hx : xs[i]? with
    | none => rw [hx] at hc; cases hc
    | some z =>
      rw [hx] at hc
      injection hc with hc
      subst hc
      exact nr_junkC _ _
theorem RS.mv {x : SV} {v : Value} (h : RS P w R B g (junkS [k] x) v) : RS P w R B (mvG n k g) (mvS n k (junkS [k] x)) v := by
  cases x with
  | c x => exact RC.mv (nr_junkC _ _) h
  | agg cs =>
    obtain ⟨vs, h1, h2, h3⟩ := h
    exact ⟨vs, h1, by simpa using h2, cells_mv (us := fun i => vs[i]?) h3⟩
theorem RA.mv {x : AV} {v : Value} (h : RA P w R B g (junkA [k] x) v) : RA P w R B (mvG n k g) (mvA n k (junkA [k] x)) v := by
  cases x with
  | s x => exact RS.mv h
  | tup xs =>
    obtain ⟨vs, h1, h2, h3⟩ := h
    refine ⟨vs, h1, by simpa using h2, fun i x hi => ?_⟩
    rw [List.getElem?_map, List.getElem?_map] at hi
    cases hx : xs[i]? with
    | none => rw [hx] at hi; cases hi
    | some z =>
      rw [hx] at hi
      injection hi with hi
      subst hi
      obtain ⟨u, h4, h5⟩ := h3 i (junkS [k] z) (by rw [List.getElem?_map, hx]; rfl)
      exact ⟨u, h4, h5.mv⟩
theorem RO.mv {j : Nat} {o : Ob} (hj : j ≠ k) (h : RO P w R B g j (junkO [k] o)) : RO P w R B (mvG n k g) (mvN n k j) (mvO n k (junkO [k] o)) := by
  have hg := mvG_mv (n := n) g hj
  have hrow : ∀ {e : TypeId} {els : List (List CV)}, ROw P w R B g j e (els.map (·.map (junkC [k]))) → ROw P w R B (mvG n k g) (mvN n k j) e ((els.map (·.map (junkC [k]))).map (·.map (mvC n k))) := fun {e els} h => by
    rcases h with ⟨h1, h2⟩ | ⟨b, cur, h1, h2, h3, h4, h5⟩
    · exact .inl ⟨hg.trans h1, by rw [h2]; rfl⟩
    · refine .inr ⟨b, cur, hg.trans h1, h2, fun cs hcs => ?_, by simpa using h4, fun i q cs x hi hq => ?_⟩
      · obtain ⟨c0, hc0, rfl⟩ := List.mem_map.1 hcs
        simpa using h3 c0 hc0
      · rw [List.getElem?_map, List.getElem?_map] at hi
        cases hc : els[i]? with
        | none => rw [hc] at hi; cases hi
        | some c0 =>
          rw [hc] at hi
          injection hi with hi
          subst hi
          exact cells_mv (us := fun q => cur[i * szP P e + q]?) (fun q y hq => h5 i q _ y (by rw [List.getElem?_map, hc]; rfl) hq) q x hq
  cases o with
  | row e els => exact hrow h
  | prow e els =>
    have h' : ROw P w R B g j e ((pvs els).map (·.map (junkC [k]))) := by rw [pvs_junk]; exact h
    have := hrow h'
    rw [pvs_junk] at this
    have e1 : (pvs els).map (·.map (mvC n k)) = pvs els := by simp [pvs, mvC, Function.comp_def]
    rw [e1] at this
    exact this
  | mp es =>
    obtain ⟨b, ents, clock, h1, h2⟩ := h
    exact ⟨b, ents, clock, hg.trans h1, h2⟩
  | pool e rows =>
    obtain ⟨⟨bs, h1, h2⟩, h3⟩ := h
    exact ⟨⟨bs, hg.trans h1, h2⟩, by rw [hg]; exact h3⟩
  | trow e p lens =>
    change RO P w R B g j (bif [k].elem p then .unk else .trow e p lens) at h
    show RO P w R B (mvG n k g) (mvN n k j) (mvO n k (bif [k].elem p then .unk else .trow e p lens))
    cases hx : [k].elem p with
    | true => trivial
    | false =>
      rw [hx] at h
      have h' : ROw P w R B g j e ((tcells p lens).map (·.map (junkC [k]))) := by
        rw [tcells_junk hx]
        exact h
      have := hrow h'
      rw [tcells_junk hx] at this
      have e1 : (tcells p lens).map (·.map (mvC n k)) = tcells (mvN n k p) lens := by
        refine List.ext_getElem? fun i => ?_
        simp only [tcells, List.getElem?_map, List.getElem?_mapIdx, Option.map_map]
        cases lens[i]? <;> simp [mvC]
      rw [e1] at this
      exact this
  | unk => trivial
end
section
variable {P : Program} {C : Ctx} {σ : Slots} {m : Mem} {n k : Nat}
theorem lk_mvSl (n k : Nat) : ∀ (σ : Slots) (t : Nat), lk (mvSl n k σ) t = (lk σ t).map (mvA n k)
  | [], _ => rfl
  | (j, v) :: r, t => by
    show (bif Nat.beq j t then some (mvA n k v) else lk (mvSl n k r) t) = Option.map (mvA n k) (bif Nat.beq j t then some v else lk r t)
    cases Nat.beq j t
    · exact lk_mvSl n k r t
    · rfl
theorem mem_mvM {m : Mem} {j : Nat} {o : Ob} (h : lk (mvM n k m) j = some o) : ∃ j0 o0, (j0, o0) ∈ m ∧ j = mvN n k j0 ∧ o = mvO n k o0 := by
  obtain ⟨p, hp, he⟩ := List.mem_map.1 (lk_mem h)
  injection he with h1 h2
  exact ⟨p.1, p.2, hp, h1.symm, h2.symm⟩
def uniqM : Mem → Bool
  | [] => true
  | (n, _) :: r => !(keys r).elem n && uniqM r
theorem uniqM_lk : ∀ {m : Mem} {n : Nat} {o : Ob}, uniqM m = true → (n, o) ∈ m → lk m n = some o
  | [], _, _, _, h => by cases h
  | (j, x) :: r, n, o, hu, h => by
    unfold uniqM at hu
    simp only [Bool.and_eq_true, Bool.not_eq_true'] at hu
    show (bif Nat.beq j n then some x else lk r n) = some o
    cases h with
    | head => rw [Nat.beq_refl]; rfl
    | tail _ h =>
      have hne : j ≠ n := fun e => notin_of_elem hu.1 (e ▸ List.mem_map.2 ⟨_, h, rfl⟩)
      cases hb : Nat.beq j n with
      | true => exact absurd (Nat.eq_of_beq_eq_true hb) hne
      | false => exact uniqM_lk hu.2 h
theorem Ent.mv (n k : Nat) (hp : (!C.pn.elem n && !C.pn.elem k) = true) (hu : uniqM m = true) : Ent P C σ m (mvSl n k (junkSl [k] σ)) (mvM n k (junkM [k] m)) := fun R B g a w hs => by
  simp only [Bool.and_eq_true, Bool.not_eq_true'] at hp
  have hpn := notin_of_elem hp.1
  have hpk := notin_of_elem hp.2
  -- forget k first
  have had : Adv R B g w [] [k] R B (upd g k .dead) w := by
    refine ⟨hs.wf.upd k _ (Nat.le_refl _) (fun b hb => hb.elim) (fun i j b hi => by cases hi), fun _ h => h, fun _ h => h, rfl, rfl, rfl, Nat.le_refl _, fun _ _ _ => rfl, fun i hi => upd_ne g _ (by simpa using hi), fun i hi b hb => ?_, fun i hi => by cases hi⟩
    · have : i = k := by simpa using hi
      subst this
      rw [upd_same] at hb; exact hb.elim
  have h1 : St P C (junkSl [k] σ) (junkM [k] m) R B (upd g k .dead) a w :=
    hs.step (us := []) (df := []) (W := []) (X := [k]) (d := none) (v := .tup []) (u := undef) trivial (fun _ h => by cases h) (fun p hp => by cases hp) rfl (fun j hj => by
      have : j = k := by simpa using hj
      subst this; exact hpk) had (fun b hb => .inl hb) (fun h => by cases h) (fun p hp => by cases hp)
  have hjm : ∀ (m0 : Mem) (j : Nat) (o : Ob), (j, o) ∈ junkM [k] m0 → j ≠ k ∧ ∃ o0, (j, o0) ∈ m0 ∧ o = junkO [k] o0 := by
    intro m0
    induction m0 with
    | nil => intro j o h; cases h
    | cons p r ih =>
      intro j o h
      obtain ⟨i, x⟩ := p
      unfold junkM at h
      cases hi : [k].elem i with
      | true =>
        rw [hi, cond_true] at h
        obtain ⟨h1, o0, h2, h3⟩ := ih j o h
        exact ⟨h1, o0, List.mem_cons_of_mem _ h2, h3⟩
      | false =>
        rw [hi, cond_false] at h
        cases h with
        | head => exact ⟨ne_of_elem1 hi, x, List.mem_cons_self, rfl⟩
        | tail _ h =>
          obtain ⟨h1, o0, h2, h3⟩ := ih j o h
          exact ⟨h1, o0, List.mem_cons_of_mem _ h2, h3⟩
  have hlk : ∀ j o, (j, o) ∈ junkM [k] m → lk (junkM [k] m) j = some o := fun j o hm => by
    obtain ⟨h2, o0, h3, rfl⟩ := hjm m j o hm
    rw [lk_junkM', if_neg (by simpa using h2), uniqM_lk hu h3]
    rfl
  generalize upd g k .dead = g1 at h1
  refine ⟨R, B, mvG n k g1, { h1 with wf := ⟨h1.wf.rb, h1.wf.lt, fun j b hj => ?_, fun i j b hi hj => ?_, fun q i j b hi hj => ?_⟩, sl := fun t v ht => ?_, ob := fun j o hj => ?_, ow := fun j o b hj hb => ?_, pin := fun j hj => ?_ }⟩
  · unfold mvG at hj
    split at hj
    · exact h1.wf.ownH n b hj
    · split at hj
      · exact hj.elim
      · exact h1.wf.ownH j b hj
  · unfold mvG at hi hj
    split at hi
    · rename_i e1
      split at hj
      · rename_i e2; rw [e1, e2]
      · split at hj
        · exact hj.elim
        · rename_i e3; exact absurd (h1.wf.injH n j b hi hj).symm e3
    · split at hi
      · exact hi.elim
      · rename_i e1 e2
        split at hj
        · exact absurd (h1.wf.injH i n b hi hj) e2
        · split at hj
          · exact hj.elim
          · exact h1.wf.injH i j b hi hj
  · unfold mvG at hi hj
    split at hi
    · rename_i e1
      rw [if_pos e1] at hj
      exact h1.wf.nd n i j b hi hj
    · rename_i e1
      rw [if_neg e1] at hj
      split at hi
      · cases hi
      · rename_i e2
        rw [if_neg e2] at hj
        exact h1.wf.nd q i j b hi hj
  · rw [lk_mvSl, lk_junkSl] at ht
    cases hl : lk σ t with
    | none => rw [hl] at ht; cases ht
    | some x =>
      rw [hl] at ht
      injection ht with ht
      subst ht
      exact RA.mv (h1.sl t _ (by rw [lk_junkSl, hl]; rfl))
  · obtain ⟨j0, o0, hm, rfl, rfl⟩ := mem_mvM hj
    obtain ⟨h2, o1, h3, rfl⟩ := hjm m j0 o0 hm
    exact RO.mv h2 (h1.ob j0 _ (hlk j0 _ hm))
  · obtain ⟨j0, o0, hm, rfl, rfl⟩ := mem_mvM hj
    obtain ⟨h2, _⟩ := hjm m j0 o0 hm
    rw [mvG_mv g1 h2] at hb
    exact h1.ow j0 o0 b (hlk j0 o0 hm) hb
  · have e1 : j ≠ k := fun e => hpk (e ▸ hj)
    have e2 : j ≠ n := fun e => hpn (e ▸ hj)
    have : mvG n k g1 j = g1 j := by simp [mvG, e1, e2]
    rw [this]
    exact h1.pin j hj
end
end Go.Fw
end
section
set_option linter.unusedVariables false
set_option linter.unusedSimpArgs false
set_option linter.unnecessarySimpa false
namespace Go.Fw
def eqI : List Int → List Int → Bool
  | [], [] => true
  | a :: r, b :: s => (a == b) && eqI r s
  | _, _ => false
theorem eqI_eq : ∀ a b : List Int, eqI a b = decide (a = b)
  | [], [] => rfl
  | [], _ :: _ => by simp [eqI]
  | _ :: _, [] => by simp [eqI]
  | a :: r, b :: s => by
    rw [eqI, eqI_eq r s]
    by_cases h1 : a = b <;> by_cases h2 : r = s <;> simp [h1, h2]
def istF (P : Program) : Nat → List Field → Bool
  | _, [] => true
  | k, f :: r => (f.name != "_") && Nat.beq f.offset k && (match P.underlying f.type with | some (.int _) => true | _ => false) && istF P (k + 1) r
def istB (P : Program) (t : TypeId) : Option Nat := match P.underlying t with
  | some (.struct fs) => if (istF P 0 fs.toList && !P.stoodInHeld t && !P.eqGuardType P.depth t) = true then some fs.size else none
  | _ => none
section
variable {P : Program} {o : Oper}
def ivs (l : List Int) : Array Value := (l.map fun n => Value.int .i64 n).toArray
theorem run_eqInts (w : World) (d : Nat) : ∀ (fs : List Field) (k : Nat) (xs ys : List Int), istF P k fs = true → xs.length = k + fs.length → ys.length = k + fs.length →
    (Op.eqFields (d + 1) (ivs xs) (ivs ys) fs).run P w = .ok (eqI (xs.drop k) (ys.drop k)) w
  | [], k, xs, ys, _, hx, hy => by
    rw [List.drop_eq_nil_of_le (by simp at hx; omega), List.drop_eq_nil_of_le (by simp at hy; omega)]
    rfl
  | f :: r, k, xs, ys, h, hx, hy => by
    unfold istF at h
    simp only [Bool.and_eq_true] at h
    obtain ⟨⟨⟨h1, h2⟩, h3⟩, h4⟩ := h
    have hoff : f.offset = k := Nat.eq_of_beq_eq_true h2
    have hname : f.name ≠ "_" := by simpa using h1
    have hkx : k < xs.length := by simp at hx; omega
    have hky : k < ys.length := by simp at hy; omega
    have hkind : ∃ kd, P.underlying f.type = some (.int kd) := by
      split at h3
      · exact ⟨_, by assumption⟩
      · cases h3
    obtain ⟨kd, hk⟩ := hkind
    have hpx : (part f.type (ivs xs) f.offset).run P w = .ok (.int .i64 xs[k]) w := by simp [part, isAgg, run_underlying hk, hoff, ivs, List.getElem?_map, hkx]
    have hpy : (part f.type (ivs ys) f.offset).run P w = .ok (.int .i64 ys[k]) w := by simp [part, isAgg, run_underlying hk, hoff, ivs, List.getElem?_map, hky]
    have ih := run_eqInts w d r (k + 1) xs ys h4 (by simp at hx ⊢; omega) (by simp at hy ⊢; omega)
    rw [List.drop_eq_getElem_cons hkx, List.drop_eq_getElem_cons hky]
    unfold Op.eqFields
    rw [if_pos hname]
    simp only [Sem.run_bind, hpx, hpy, Result.andThen_ok, run_equalIn_int w d f.type .i64 kd _ _ hk]
    cases hb : (xs[k] == ys[k]) with
    | true => simp [ih, eqI, hb]
    | false => simp [eqI, hb]
theorem run_eqlInts {t : TypeId} {n : Nat} (h : istB P t = some n) (xs ys : List Int) (hx : xs.length = n) (hy : ys.length = n) (w : World) :
    (Op.equalIn 10000 t (.agg (ivs xs)) (.agg (ivs ys))).run P w = .ok (eqI xs ys) w ∧ P.eqGuardType P.depth t = false := by
  unfold istB at h
  split at h
  · rename_i fs hfs
    split at h
    · rename_i hc
      simp only [Bool.and_eq_true, Bool.not_eq_true'] at hc
      injection h with h
      subst h
      have hf : P.fieldsOf t = fs := by simp [Program.fieldsOf, hfs]
      refine ⟨?_, hc.2⟩
      rw [show (10000 : Nat) = 9999 + 1 from rfl, run_equalIn_agg w 9999 t _ _ (by rw [hf]; exact hfs) hc.1.2, hf]
      have := run_eqInts (P := P) w 9998 fs.toList 0 xs ys hc.1.1 (by simpa using hx) (by simpa using hy)
      simpa using this
    · cases h
  · cases h
theorem ag_inv {w : World} {R B : Nat → Prop} {g : Nat → GS} {xs : List Int} {v : Value} (h : RA P w R B g (Ag (xs.map iC)) v) : v = .agg (ivs xs) := by
  obtain ⟨vs, rfl, hl, hc⟩ := h
  have : vs = xs.map fun n => Value.int .i64 n := by
    refine List.ext_getElem (by simpa using hl) fun i h1 h2 => ?_
    have hi : i < xs.length := by simpa using h2
    obtain ⟨u, h3, h4⟩ := hc i (iC xs[i]) (by rw [List.getElem?_map, List.getElem?_eq_getElem hi]; rfl)
    obtain ⟨_, h4⟩ := h4
    cases h4
    rw [List.getElem?_eq_getElem h1] at h3
    injection h3 with h3
    rw [h3]
    simp
  rw [this]
  rfl
theorem LT.eqlStruct {t t' : TypeId} {x y : Operand} {n : Nat} (xs ys : List Int) (ho : o.op = .binOp .eql t x y t') (h : istB P t = some n) (hx : xs.length = n) (hy : ys.length = n) :
    LT P o [(x, Ag (xs.map iC)), (y, Ag (ys.map iC))] [] (Bv (eqI xs ys)) [] [] [] := .calm fun R B g w a _ hi _ => by
  obtain ⟨h1, h2⟩ := run_eqlInts h xs ys hx hy w
  refine ⟨.bool (eqI xs ys), ?_, sc_mk rfl⟩
  simp only [execOp, ho, ag_inv (in1 hi), ag_inv (in2 hi), Sem.run_bind, run_eqGuard_agg w .eql t x y _ _ h2, Result.andThen_ok, run_eql_struct, h1, Sem.run_pure]
theorem LT.neqStruct {t t' : TypeId} {x y : Operand} {n : Nat} (xs ys : List Int) (ho : o.op = .binOp .neq t x y t') (h : istB P t = some n) (hx : xs.length = n) (hy : ys.length = n) :
    LT P o [(x, Ag (xs.map iC)), (y, Ag (ys.map iC))] [] (Bv (!eqI xs ys)) [] [] [] := .calm fun R B g w a _ hi _ => by
  obtain ⟨h1, h2⟩ := run_eqlInts h xs ys hx hy w
  refine ⟨.bool (!eqI xs ys), ?_, sc_mk rfl⟩
  simp only [execOp, ho, ag_inv (in1 hi), ag_inv (in2 hi), Sem.run_bind, run_eqGuard_agg w .neq t x y _ _ h2, Result.andThen_ok, run_neq_struct, h1, Sem.run_pure]
end
end Go.Fw
end
section
set_option linter.unusedVariables false
set_option linter.unusedSimpArgs false
set_option linter.unnecessarySimpa false
namespace Go.Fw
theorem BIG_gt {n : Nat} (h : n ≤ 1099511627776) : n < BIG := by unfold BIG; omega
theorem w64_small {n : Int} (h1 : -4611686018427387904 ≤ n) (h2 : n ≤ 4611686018427387904) : w64 n = n := w64_id (by omega) (by omega)
theorem loopM_go {σ τ : Type} {b : σ → Option (σ ⊕ τ)} {r : τ} (st : Nat → σ) (n : Nat) (h : ∀ k, k < n → b (st k) = some (.inl (st (k + 1)))) (hr : b (st n) = some (.inr r)) : ∀ (j k f : Nat), k + j = n → j < f → loopM b f (st k) = some r
  | 0, k, f, hk, hf => by
    obtain ⟨f, rfl⟩ : ∃ g, f = g + 1 := ⟨f - 1, by omega⟩
    have : k = n := by omega
    subst this
    unfold loopM
    rw [hr]
  | j + 1, k, f, hk, hf => by
    obtain ⟨f, rfl⟩ : ∃ g, f = g + 1 := ⟨f - 1, by omega⟩
    unfold loopM
    rw [h k (by omega)]
    exact loopM_go st n h hr j (k + 1) f (by omega) (by omega)
theorem loopM_run {σ τ : Type} {b : σ → Option (σ ⊕ τ)} {r : τ} {s : σ} (st : Nat → σ) (n : Nat) (hn : n ≤ 1099511627776) (h0 : st 0 = s) (h : ∀ k, k < n → b (st k) = some (.inl (st (k + 1)))) (hr : b (st n) = some (.inr r)) : loopM b BIG s = some r := by
  subst h0
  exact loopM_go st n h hr n 0 BIG (by omega) (BIG_gt hn)
theorem idx_at {α : Type} {l : List α} {k : Nat} (h : k < l.length) : idx l (k : Int) = some l[k] := by
  unfold idx
  rw [if_pos (by omega), Int.toNat_natCast, List.getElem?_eq_getElem h]
theorem idx_of {α : Type} {l : List α} {k : Nat} {x : α} (h : l[k]? = some x) : idx l (k : Int) = some x := by
  unfold idx
  rw [if_pos (by omega), Int.toNat_natCast, h]
theorem w64_succ {k : Nat} (h : k ≤ 1099511627776) : w64 ((k : Int) + 1) = ((k + 1 : Nat) : Int) := by
  rw [w64_small (by omega) (by omega)]; omega
theorem count_loop {τ : Type} {b : Int → Option (Int ⊕ τ)} {r : τ} (n : Nat) (hn : n ≤ 1099511627776) (h : ∀ k : Nat, k < n → b k = some (.inl (w64 ((k : Int) + 1)))) (hr : b n = some (.inr r)) : loopM b BIG 0 = some r :=
  loopM_run (fun k => (k : Int)) n hn rfl (fun k hk => by rw [h k hk, w64_succ (by omega)]) hr
theorem any_loop {γ : Type} {b : Int → Option (Int ⊕ (Unit ⊕ γ))} (bad : Nat → Bool) (c : γ) (k0 n : Nat) (hn : n ≤ 1099511627776) (h0 : k0 ≤ n) (h : ∀ k : Nat, k0 ≤ k → k < n → b k = bif bad k then some (.inr (.inr c)) else some (.inl (w64 ((k : Int) + 1)))) (hr : b n = some (.inr (.inl ()))) :
    loopM b BIG k0 = some (bif (List.range' k0 (n - k0)).any bad then .inr c else .inl ()) := by
  have go : ∀ (j k f : Nat), k + j = n → k0 ≤ k → j < f → loopM b f (k : Int) = some (bif (List.range' k j).any bad then .inr c else .inl ()) := by
    intro j
    induction j with
    | zero =>
      intro k f hk _ hf
      obtain ⟨f, rfl⟩ : ∃ g, f = g + 1 := ⟨f - 1, by omega⟩
      have : k = n := by omega
      subst this
      unfold loopM
      rw [hr]
      rfl
    | succ j ih =>
      intro k f hk hk0 hf
      obtain ⟨f, rfl⟩ : ∃ g, f = g + 1 := ⟨f - 1, by omega⟩
      have h1 := h k hk0 (by omega)
      unfold loopM
      cases hb : bad k with
      | true =>
        rw [hb, cond_true] at h1
        rw [h1, List.range'_succ, List.any_cons, hb]
        rfl
      | false =>
        rw [hb, cond_false, w64_succ (by omega)] at h1
        rw [h1, List.range'_succ, List.any_cons, hb, Bool.false_or]
        exact ih (k + 1) f (by omega) (by omega) (by omega)
  exact go (n - k0) k0 BIG (by omega) (Nat.le_refl _) (by have := BIG_gt hn; omega)
theorem loop_inv {σ τ : Type} {b : σ → Option (σ ⊕ τ)} {s : σ} (I : Nat → σ → Prop) (Q : τ → Prop) (n : Nat) (hn : n ≤ 1099511627776) (h0 : I 0 s)
    (h : ∀ k s, k < n → I k s → (∃ s', b s = some (.inl s') ∧ I (k + 1) s') ∨ ∃ r, b s = some (.inr r) ∧ Q r) (hr : ∀ s, I n s → ∃ r, b s = some (.inr r) ∧ Q r) : ∃ r, loopM b BIG s = some r ∧ Q r := by
  have go : ∀ (j k f : Nat) (s : σ), k + j = n → j < f → I k s → ∃ r, loopM b f s = some r ∧ Q r := by
    intro j
    induction j with
    | zero =>
      intro k f s hk hf hi
      obtain ⟨f, rfl⟩ : ∃ g, f = g + 1 := ⟨f - 1, by omega⟩
      have : k = n := by omega
      subst this
      obtain ⟨r, h1, h2⟩ := hr s hi
      exact ⟨r, by unfold loopM; rw [h1], h2⟩
    | succ j ih =>
      intro k f s hk hf hi
      obtain ⟨f, rfl⟩ : ∃ g, f = g + 1 := ⟨f - 1, by omega⟩
      rcases h k s (by omega) hi with ⟨s', h1, h2⟩ | ⟨r, h1, h2⟩
      · obtain ⟨r, h3, h4⟩ := ih (k + 1) f s' (by omega) (by omega) h2
        exact ⟨r, by unfold loopM; rw [h1]; exact h3, h4⟩
      · exact ⟨r, by unfold loopM; rw [h1], h2⟩
  exact go n 0 BIG s (by omega) (BIG_gt hn) h0
theorem lim_ok {n : Nat} (h : n ≤ 2147483648) : lim n = some () := by unfold lim LIM; rw [if_pos h]
theorem lenOk_ok {n : Int} (h0 : 0 ≤ n) (h : n ≤ 2147483648) : lenOk n = some () := by unfold lenOk; rw [if_pos ⟨h0, h⟩]
theorem same_ok {a b : Nat} (h : a = b) : same a b = some () := by unfold same; rw [if_pos h]
end Go.Fw
end
section
set_option linter.unusedVariables false
set_option linter.unusedSimpArgs false
set_option linter.unnecessarySimpa false
namespace Go.Fw
def iter {β : Type} (f : Nat → β → β) : Nat → β → β
  | 0, a => a
  | n + 1, a => f n (iter f n a)
theorem iter_inv {β : Type} {f : Nat → β → β} {a0 : β} (I : Nat → β → Prop) (h0 : I 0 a0) : ∀ n, (∀ k a, k < n → I k a → I (k + 1) (f k a)) → I n (iter f n a0)
  | 0, _ => h0
  | n + 1, h => h n _ (by omega) (iter_inv I h0 n fun k a hk hi => h k a (by omega) hi)
theorem fold_loop {β τ σ : Type} {b : σ → Option (σ ⊕ τ)} {s : σ} (mk : Nat → β → σ) (f : Nat → β → β) (I : Nat → β → Prop) (fin : β → τ) (n : Nat) (a0 : β) (hn : n ≤ 1099511627776) (hs : s = mk 0 a0) (h0 : I 0 a0)
    (h : ∀ k a, k < n → I k a → b (mk k a) = some (.inl (mk (k + 1) (f k a))) ∧ I (k + 1) (f k a)) (hr : ∀ a, I n a → b (mk n a) = some (.inr (fin a))) :
    loopM b BIG s = some (fin (iter f n a0)) ∧ I n (iter f n a0) := by
  have hI : ∀ m, m ≤ n → I m (iter f m a0) := fun m hm => iter_inv I h0 m fun k a hk hi => (h k a (by omega) hi).2
  subst hs
  exact ⟨loopM_run (fun k => mk k (iter f k a0)) n hn rfl (fun k hk => (h k _ hk (hI k (by omega))).1) (hr _ (hI n (Nat.le_refl _))), hI n (Nat.le_refl _)⟩
def pieces {α : Type} (f : Nat → List α) : Nat → List α
  | 0 => []
  | n + 1 => pieces f n ++ f n
theorem pieces_len {α : Type} {f : Nat → List α} {c : Nat} : ∀ n, (∀ k, k < n → (f k).length ≤ c) → (pieces f n).length ≤ c * n
  | 0, _ => by simp [pieces]
  | n + 1, h => by
    have h1 := pieces_len n fun k hk => h k (by omega)
    have h2 := h n (by omega)
    show (pieces f n ++ f n).length ≤ _
    rw [List.length_append, Nat.mul_add, Nat.mul_one]
    omega
theorem pieces_congr {α : Type} {f g : Nat → List α} : ∀ n, (∀ k, k < n → f k = g k) → pieces f n = pieces g n
  | 0, _ => rfl
  | n + 1, h => by
    show pieces f n ++ f n = pieces g n ++ g n
    rw [pieces_congr n fun k hk => h k (by omega), h n (by omega)]
theorem app_loop {α τ σ : Type} {b : σ → Option (σ ⊕ τ)} {s : σ} (mk : Nat → List α → σ) (f : Nat → List α) (fin : List α → τ) (c n : Nat) (out0 : List α) (hn : n ≤ 1099511627776) (hs : s = mk 0 out0) (hc : ∀ k, k < n → (f k).length ≤ c)
    (h : ∀ k out, k < n → out.length ≤ out0.length + c * k → b (mk k out) = some (.inl (mk (k + 1) (out ++ f k)))) (hr : ∀ out, b (mk n out) = some (.inr (fin out))) :
    loopM b BIG s = some (fin (out0 ++ pieces f n)) := by
  subst hs
  refine loopM_run (fun k => mk k (out0 ++ pieces f k)) n hn (by simp [pieces]) (fun k hk => ?_) (hr _)
  have h1 := pieces_len (f := f) (c := c) k fun j hj => hc j (by omega)
  rw [h k _ hk (by rw [List.length_append]; omega), List.append_assoc]
  rfl
theorem any_range {p : Nat → Bool} {k0 n : Nat} : (List.range' k0 n).any p = true ↔ ∃ k, k0 ≤ k ∧ k < k0 + n ∧ p k = true := by
  rw [List.any_eq_true]
  constructor
  · rintro ⟨k, hk, h⟩
    rw [List.mem_range'_1] at hk
    exact ⟨k, hk.1, hk.2, h⟩
  · rintro ⟨k, h1, h2, h⟩
    exact ⟨k, List.mem_range'_1.2 ⟨h1, h2⟩, h⟩
theorem any_range_false {p : Nat → Bool} {k0 n : Nat} : (List.range' k0 n).any p = false ↔ ∀ k, k0 ≤ k → k < k0 + n → p k = false := by
  rw [← Bool.not_eq_true, any_range]
  constructor
  · intro h k h1 h2
    cases hp : p k
    · rfl
    · exact absurd ⟨k, h1, h2, hp⟩ h
  · rintro h ⟨k, h1, h2, h3⟩
    rw [h k h1 h2] at h3
    cases h3
theorem any_loop0 {γ : Type} {b : Int → Option (Int ⊕ (Unit ⊕ γ))} (bad : Nat → Bool) (c : γ) (n : Nat) (hn : n ≤ 1099511627776) (h : ∀ k : Nat, k < n → b k = bif bad k then some (.inr (.inr c)) else some (.inl (w64 ((k : Int) + 1)))) (hr : b n = some (.inr (.inl ()))) :
    loopM b BIG 0 = some (bif (List.range' 0 n).any bad then .inr c else .inl ()) := by
  have := any_loop (b := b) bad c 0 n hn (by omega) (fun k _ hk => h k hk) hr
  rwa [Nat.sub_zero] at this
theorem set_repl {α : Type} (a : List α) (z x : α) (k n : Nat) (ha : a.length = k) (hk : k < n) : (a ++ List.replicate (n - k) z).set k x = (a ++ [x]) ++ List.replicate (n - (k + 1)) z := by
  obtain ⟨m, hm⟩ : ∃ m, n - k = m + 1 := ⟨n - k - 1, by omega⟩
  rw [hm, show n - (k + 1) = m by omega, List.set_append_right _ _ (by omega), ha, Nat.sub_self, List.replicate_succ, List.set_cons_zero, List.append_assoc]
  rfl
theorem take_get {α : Type} {l : List α} {k : Nat} (hk : k < l.length) : l.take (k + 1) = l.take k ++ [l[k]] := by
  rw [List.take_add_one, List.getElem?_eq_getElem hk]; rfl
end Go.Fw
end
section
set_option linter.unusedVariables false
set_option linter.unusedSimpArgs false
set_option linter.unnecessarySimpa false
namespace Go.Fw
open Go.ChangeMaps
def slc {α : Type} (l : List α) (lo hi : Int) : Option (List α) := if 0 ≤ lo ∧ lo ≤ hi ∧ hi ≤ (l.length : Int) then some ((l.take hi.toNat).drop lo.toNat) else none
theorem slc_spec {α : Type} {l r : List α} {lo hi : Int} (h : slc l lo hi = some r) : 0 ≤ lo ∧ lo ≤ hi ∧ hi ≤ (l.length : Int) ∧ r = (l.take hi.toNat).drop lo.toNat := by
  unfold slc at h
  split at h
  · rename_i h0
    injection h with h
    exact ⟨h0.1, h0.2.1, h0.2.2, h.symm⟩
  · cases h
theorem slc_lh {α : Type} {l r : List α} {lo hi : Int} (h : slc l lo hi = some r) : lo.toNat ≤ hi.toNat := by
  have := slc_spec h
  omega
theorem slc_hl {α : Type} {l r : List α} {lo hi : Int} (h : slc l lo hi = some r) : hi.toNat ≤ l.length := by
  have := slc_spec h
  omega
def mget : List (Int × Int) → Int → Int
  | [], _ => 0
  | e :: r, k => bif k == e.1 then e.2 else mget r k
def mhas : List (Int × Int) → Int → Bool
  | [], _ => false
  | e :: r, k => bif k == e.1 then true else mhas r k
def mput : List (Int × Int) → Int → Int → List (Int × Int)
  | [], k, v => [(k, v)]
  | e :: r, k, v => bif k == e.1 then (k, v) :: r else e :: mput r k v
section
variable {P : Program} {o : Oper} {w : World} {R B : Nat → Prop} {g : Nat → GS}
theorem run_sliceBounds {lo hi : Option Value} {len cap : Nat} {l h : Nat} (hlo : lo = some (.int .i64 (l : Int)) ∨ (lo = none ∧ l = 0)) (hhi : hi = some (.int .i64 (h : Int)) ∨ (hi = none ∧ h = len)) (h1 : l ≤ h) (h2 : h ≤ len) (h3 : len ≤ cap) (w : World) :
    (Instr.sliceBounds true len cap lo hi none).run P w = .ok (l, h, cap) w := by
  have e1 : (Instr.sliceBound (.int .i64 (h : Int)) cap .sliceAcap).run P w = .ok h w := by
    have : (0 : Int) ≤ (h : Int) ∧ (h : Int) ≤ (cap : Int) := by omega
    simp [Instr.sliceBound, asIntOf, this]
  have e2 : (Instr.sliceBound (.int .i64 (l : Int)) h .sliceB).run P w = .ok l w := by
    have : (0 : Int) ≤ (l : Int) ∧ (l : Int) ≤ (h : Int) := by omega
    simp [Instr.sliceBound, asIntOf, this]
  rcases hlo with rfl | ⟨rfl, rfl⟩ <;> rcases hhi with rfl | ⟨rfl, rfl⟩ <;> simp [Instr.sliceBounds, e1, e2, Result.andThen]
def bndIns : Option (Operand × Int) → List (Operand × AV)
  | some (x, n) => [(x, Iv n)]
  | none => []
theorem bnd_val {a : Act} {b : Option (Operand × Int)} {x : Option Operand} (hx : x = b.map (·.1)) (h : ∀ p ∈ bndIns b, RA P w R B g p.2 (a.eval p.1)) : x.map a.eval = b.map fun q => Value.int .i64 q.2 := by
  subst hx
  cases b with
  | none => rfl
  | some q =>
    obtain ⟨y, n⟩ := q
    have := sc_inv (h (y, Iv n) List.mem_cons_self)
    simp [this]
theorem run_slice {t e : TypeId} {it : TypeInfo} (ht : P.underlying t = some (.slice e)) (hit : P.info? e = some it) {lo hi : Option Value} {A : Option Addr} {len cap l h : Nat} (hlo : lo = some (.int .i64 (l : Int)) ∨ (lo = none ∧ l = 0)) (hhi : hi = some (.int .i64 (h : Int)) ∨ (hi = none ∧ h = len)) (h1 : l ≤ h) (h2 : h ≤ len) (h3 : len ≤ cap) (w : World) :
    (Instr.sliceAt t (.slice A len cap) lo hi none).run P w = .ok (.slice (if cap = l then A else A.map (·.add (l * szP P e))) (h - l) (cap - l)) w := by
  have hb := run_sliceBounds (P := P) hlo hhi h1 h2 h3 w
  simp [Instr.sliceAt, Instr.slice, run_underlying ht, hb, run_sizeOf hit, Result.andThen]
theorem bnd_nat {b : Option (Operand × Int)} {n : Nat} {d : Option Nat} (h : (∃ x m, b = some (x, m) ∧ 0 ≤ m ∧ n = m.toNat) ∨ (b = none ∧ some n = d)) : (b.map fun q => Value.int .i64 q.2) = some (.int .i64 (n : Int)) ∨ ((b.map fun q => Value.int .i64 q.2) = none ∧ some n = d) := by
  rcases h with ⟨x, m, rfl, h0, rfl⟩ | ⟨rfl, h⟩
  · left
    simp [Int.toNat_of_nonneg h0]
  · exact .inr ⟨rfl, h⟩
theorem LT.sliceRO {x : Operand} {t e : TypeId} {lo hi : Option Operand} {blo bhi : Option (Operand × Int)} {q : Bool} {els : List (List PV)} {l h : Nat} (ho : o.op = .slice t x lo hi none) (hlo : lo = blo.map (·.1)) (hhi : hi = bhi.map (·.1)) (ht : P.underlying t = some (.slice e)) (hi2 : (P.info? e).isSome = true)
    (hl : ∀ cs ∈ els, cs.length = szP P e) (el : (∃ x m, blo = some (x, m) ∧ 0 ≤ m ∧ l = m.toNat) ∨ (blo = none ∧ some l = some 0)) (eh : (∃ x m, bhi = some (x, m) ∧ 0 ≤ m ∧ h = m.toNat) ∨ (bhi = none ∧ some h = some els.length)) (h1 : l ≤ h) (h2 : h ≤ els.length) :
    LT P o ((x, Cc (.pv (.xs q els))) :: (bndIns blo ++ bndIns bhi)) [] (Cc (.pv (.xs q ((els.take h).drop l)))) [] [] [] := .calm fun R B g w a hw hi3 _ => by
  obtain ⟨it, hit⟩ := Option.isSome_iff_exists.1 hi2
  have hv := in1 hi3
  have e1 : lo.map a.eval = blo.map fun q => Value.int .i64 q.2 := bnd_val hlo fun p hp => hi3 p (List.mem_cons_of_mem _ (List.mem_append_left _ hp))
  have e2 : hi.map a.eval = bhi.map fun q => Value.int .i64 q.2 := bnd_val hhi fun p hp => hi3 p (List.mem_cons_of_mem _ (List.mem_append_right _ hp))
  have el' := bnd_nat el
  have eh' := bnd_nat eh
  rw [← e1] at el'
  rw [← e2] at eh'
  have el2 : lo.map a.eval = some (.int .i64 (l : Int)) ∨ (lo.map a.eval = none ∧ l = 0) := el'.imp id (fun h => ⟨h.1, by injection h.2⟩)
  have eh2 : hi.map a.eval = some (.int .i64 (h : Int)) ∨ (hi.map a.eval = none ∧ h = els.length) := eh'.imp id (fun h => ⟨h.1, by injection h.2⟩)
  obtain ⟨_, hv⟩ := hv
  generalize hav : a.eval x = v at hv
  have fin : ∀ (A : Option Addr) (c : Nat), v = .slice A els.length c → els.length ≤ c → ((els.take h).drop l = [] ∨ ∃ ad, A = some ad ∧ pick2 R B q ad.block ∧ ∃ (s : Nat) (val : Nat → Nat → Value), (∀ cs ∈ els, cs.length = s) ∧ (∀ j k cs p, els[j]? = some cs → cs[k]? = some p → w.cell? (ad.add (j * s + k)) = some (val j k)) ∧ ∀ j k cs p, els[j]? = some cs → cs[k]? = some p → RPV w R B p (val j k)) →
      ∃ u, (execOp a.eval o).run P w = .ok (.value u) w ∧ RA P w R B g (Cc (.pv (.xs q ((els.take h).drop l)))) u := fun A c hA hc hx => by
    have hr := run_slice (P := P) ht hit (A := A) el2 eh2 h1 h2 hc w
    refine ⟨.slice (if c = l then A else A.map (·.add (l * szP P e))) (h - l) (c - l), ?_, ?_⟩
    · simp only [execOp, ho, hav, hA, Sem.run_bind, Option.map_none, hr, Result.andThen_ok, Sem.run_pure]
    · refine ⟨rfl, ?_⟩
      by_cases hnil : (els.take h).drop l = []
      · rw [hnil]
        have hz : h - l = 0 := by
          have := congrArg List.length hnil
          simp at this
          omega
        rw [hz]
        exact .emp
      · rcases hx with hx | ⟨ad, rfl, hb, s, val, hs, hcell, hrp⟩
        · exact absurd hx hnil
        · have hlt : l < h := by
            rcases Nat.lt_or_ge l h with h | h'
            · exact h
            · exact absurd (List.drop_eq_nil_of_le (by simp; omega)) hnil
          have hne : ¬ c = l := by omega
          rw [if_neg hne]
          have hget : ∀ j, ((els.take h).drop l)[j]? = if l + j < h then els[l + j]? else none := fun j => by
            rw [List.getElem?_drop, List.getElem?_take]
          have hss : s = szP P e := by
            have h0 : 0 < els.length := by omega
            have hm := List.getElem_mem h0
            rw [← hs _ hm, hl _ hm]
          refine .xs (s := s) (fun j k => val (l + j) k) (by simp; omega) (by rw [add_block]; exact hb) (by simp; omega) (fun cs hcs => hs cs (List.mem_of_mem_take (List.mem_of_mem_drop hcs))) (fun j k cs p hj hk => ?_) (fun j k cs p hj hk => ?_)
          · rw [hget] at hj
            split at hj
            · have := hcell _ _ _ _ hj hk
              rw [add_add, ← hss]
              rwa [show l * s + (j * s + k) = (l + j) * s + k by rw [Nat.add_mul]; omega]
            · cases hj
          · rw [hget] at hj
            split at hj
            · exact hrp _ _ _ _ hj hk
            · cases hj
  cases hv with
  | @emp _ A c =>
    have h0 : h = 0 := by simp at h2; exact h2
    have hl0 : l = 0 := by omega
    subst h0
    subst hl0
    -- the capacity may be anything
    have hr := run_slice (P := P) ht hit (A := A) (len := 0) (cap := c) el2 (eh2.imp id fun h => ⟨h.1, by simpa using h.2⟩) h1 (Nat.le_refl _) (Nat.zero_le _) w
    refine ⟨_, by simp only [execOp, ho, hav, Sem.run_bind, Option.map_none, hr, Result.andThen_ok, Sem.run_pure]; rfl, rfl, RPV.emp⟩
  | @xs _ _ ad c s n val hn hb hc hs hcell hrp =>
    subst hn
    exact fin (some ad) c rfl hc (.inr ⟨ad, rfl, hb, s, val, hs, hcell, hrp⟩)
theorem LT.sliceLoc {x : Operand} {t e : TypeId} {lo hi : Option Operand} {blo bhi : Option (Operand × Int)} {n len : Nat} {els : List (List CV)} {l h : Nat} (ho : o.op = .slice t x lo hi none) (hlo : lo = blo.map (·.1)) (hhi : hi = bhi.map (·.1)) (ht : P.underlying t = some (.slice e)) (hi2 : (P.info? e).isSome = true)
    (el : (∃ x m, blo = some (x, m) ∧ 0 ≤ m ∧ l = m.toNat) ∨ (blo = none ∧ some l = some 0)) (eh : (∃ x m, bhi = some (x, m) ∧ 0 ≤ m ∧ h = m.toNat) ∨ (bhi = none ∧ some h = some len)) (h1 : l ≤ h) (h2 : h ≤ len) :
    LT P o ((x, Cc (.loc n 0 len)) :: (bndIns blo ++ bndIns bhi)) [(n, .row e els)] (Cc (.loc n l (h - l))) [] [] [] := .calm fun R B g w a hw hi3 hu => by
  obtain ⟨it, hit⟩ := Option.isSome_iff_exists.1 hi2
  have hv := in1 hi3
  have e1 : lo.map a.eval = blo.map fun q => Value.int .i64 q.2 := bnd_val hlo fun p hp => hi3 p (List.mem_cons_of_mem _ (List.mem_append_left _ hp))
  have e2 : hi.map a.eval = bhi.map fun q => Value.int .i64 q.2 := bnd_val hhi fun p hp => hi3 p (List.mem_cons_of_mem _ (List.mem_append_right _ hp))
  have el' := bnd_nat el
  have eh' := bnd_nat eh
  rw [← e1] at el'
  rw [← e2] at eh'
  have el2 : lo.map a.eval = some (.int .i64 (l : Int)) ∨ (lo.map a.eval = none ∧ l = 0) := el'.imp id (fun h => ⟨h.1, by injection h.2⟩)
  have eh2 : hi.map a.eval = some (.int .i64 (h : Int)) ∨ (hi.map a.eval = none ∧ h = len) := eh'.imp id (fun h => ⟨h.1, by injection h.2⟩)
  obtain ⟨_, hv⟩ := hv
  rcases hv with ⟨k1, _, k3, k4⟩ | ⟨_, k2, _⟩ | ⟨b, cap, cur, e', k1, k2, k3, k4, k5, k6⟩
  · have hh0 : h = 0 := by omega
    have hl0 : l = 0 := by omega
    subst hh0
    subst hl0
    subst k3
    have hr := run_slice (P := P) ht hit (A := none) (len := 0) (cap := 0) el2 eh2 (Nat.le_refl _) (Nat.le_refl _) (Nat.le_refl _) w
    refine ⟨_, by simp only [execOp, ho, k4, Sem.run_bind, Option.map_none, hr, Result.andThen_ok, Sem.run_pure]; rfl, rfl, .inl ⟨k1, rfl, rfl, by simp⟩⟩
  · exact absurd rfl k2
  · have hro := us1 hu
    have hee : e' = e := by
      rcases hro with ⟨h3, _⟩ | ⟨b', cur', h3, h4, _⟩
      · rw [k1] at h3; cases h3
      · rw [k1] at h3
        injection h3 with h3
        subst h3
        rw [k2] at h4
        injection h4 with h4
        injection h4
    subst hee
    have hr := run_slice (P := P) ht hit (A := some ⟨b, 0 * szP P e', none⟩) el2 eh2 h1 h2 k3 w
    refine ⟨Value.slice (if cap = l then (some (Addr.mk b (0 * szP P e') none)) else Option.map (fun z : Addr => z.add (l * szP P e')) (some (Addr.mk b (0 * szP P e') none))) (h - l) (cap - l), by simp only [execOp, ho, k6, Sem.run_bind, hr, Result.andThen_ok, Sem.run_pure, Option.map_none], rfl, ?_⟩
    by_cases hcl : cap = l
    · rw [if_pos hcl]
      have hz : h - l = 0 := by omega
      by_cases hl0 : l = 0
      · refine .inr (.inr ⟨b, cap, cur, e', k1, k2, by omega, by omega, by rw [hl0]; exact k5, ?_⟩)
        rw [hl0]
        rfl
      · exact .inr (.inl ⟨hz, hl0, _, _, by rw [hz]⟩)
    · rw [if_neg hcl]
      refine .inr (.inr ⟨b, cap - l, cur, e', k1, k2, by omega, by omega, by rw [show l + (cap - l) = 0 + cap by omega]; exact k5, ?_⟩)
      simp [add_lit]
variable {α : Type} {enc : α → List PV}
theorem LT.tsliceRO {x : Operand} {t e : TypeId} {lo hi : Option Operand} {blo bhi : Option (Operand × Int)} {q : Bool} {xs : List α} {l h : Nat} (ho : o.op = .slice t x lo hi none) (hlo : lo = blo.map (·.1)) (hhi : hi = bhi.map (·.1)) (ht : P.underlying t = some (.slice e)) (hi2 : (P.info? e).isSome = true)
    (hs : ∀ a, (enc a).length = szP P e) (el : (∃ x m, blo = some (x, m) ∧ 0 ≤ m ∧ l = m.toNat) ∨ (blo = none ∧ some l = some 0)) (eh : (∃ x m, bhi = some (x, m) ∧ 0 ≤ m ∧ h = m.toNat) ∨ (bhi = none ∧ some h = some xs.length)) (h1 : l ≤ h) (h2 : h ≤ xs.length) :
    LT P o ((x, Cc (.pv (.xs q (xs.map enc)))) :: (bndIns blo ++ bndIns bhi)) [] (Cc (.pv (.xs q (((xs.take h).drop l).map enc)))) [] [] [] := by
  have := LT.sliceRO (P := P) (o := o) (q := q) (els := xs.map enc) ho hlo hhi ht hi2 (fun cs hcs => by obtain ⟨a, _, rfl⟩ := List.mem_map.1 hcs; exact hs a) el (eh.imp id fun h => ⟨h.1, by simpa using h.2⟩) h1 (by simpa using h2)
  simpa [List.map_take, List.map_drop] using this
theorem LT.tsliceLoc {x : Operand} {t e : TypeId} {lo hi : Option Operand} {blo bhi : Option (Operand × Int)} {n : Nat} {xs : List α} {l h : Nat} (ho : o.op = .slice t x lo hi none) (hlo : lo = blo.map (·.1)) (hhi : hi = bhi.map (·.1)) (ht : P.underlying t = some (.slice e)) (hi2 : (P.info? e).isSome = true)
    (el : (∃ x m, blo = some (x, m) ∧ 0 ≤ m ∧ l = m.toNat) ∨ (blo = none ∧ some l = some 0)) (eh : (∃ x m, bhi = some (x, m) ∧ 0 ≤ m ∧ h = m.toNat) ∨ (bhi = none ∧ some h = some xs.length)) (h1 : l ≤ h) (h2 : h ≤ xs.length) :
    LT P o ((x, Cc (.loc n 0 xs.length)) :: (bndIns blo ++ bndIns bhi)) [(n, .prow e (xs.map enc))] (Cc (.loc n l (h - l))) [] [] [] :=
  (LT.sliceLoc (P := P) (o := o) (n := n) (els := pvs (xs.map enc)) ho hlo hhi ht hi2 el eh h1 h2).usP
theorem srcLocAt {v : Value} {n off m : Nat} {e : TypeId} {els : List (List CV)} (hs : 0 < szP P e) (h : RC P w R B g (.loc n off m) v) (ho : ROw P w R B g n e els) (hm : off + m ≤ els.length) : SrcV P w R B g v ((els.drop off).take m) (szP P e) := by
  obtain ⟨_, h⟩ := h
  have hnil : m = 0 → SrcV P w R B g v ((els.drop off).take m) (szP P e) ∨ ¬ ∃ A c, v = .slice A 0 c := fun h0 => by
    by_cases hv : ∃ A c, v = .slice A 0 c
    · obtain ⟨A, c, rfl⟩ := hv
      subst h0
      exact .inl ⟨A, c, rfl, [], ⟨rfl, fun k x hk => by simp at hk⟩, fun i u hu => by simp at hu⟩
    · exact .inr hv
  rcases h with ⟨h1, _, h3, h4⟩ | ⟨h1, h2, A, c, h3⟩ | ⟨b, cap, cur, e', k1, k2, k3, k4, k5, k6⟩
  · rcases hnil h3 with h | h
    · exact h
    · exact absurd ⟨none, 0, h4⟩ h
  · rcases hnil h1 with h | h
    · exact h
    · exact absurd ⟨A, c, h3⟩ h
  · obtain ⟨hl, cur', h5, h6, h7⟩ := ho.flat hs k1
    rw [k2] at h5
    injection h5 with h5
    injection h5 with h5 h8 h9
    subst h5
    subst h8
    have hlen : ((els.drop off).take m).length = m := by simp; omega
    have hflat : ((els.drop off).take m).flatten = (els.flatten.drop (off * szP P e')).take (m * szP P e') := by
      have e1 : els.flatten = (els.take off).flatten ++ (((els.drop off).take m).flatten ++ ((els.drop off).drop m).flatten) := by
        rw [← List.flatten_append, ← List.flatten_append, List.take_append_drop, List.take_append_drop]
      have l1 : (els.take off).flatten.length = off * szP P e' := by
        rw [flat_length (s := szP P e') _ fun cs hcs => hl cs (List.mem_of_mem_take hcs)]
        simp only [List.length_take]
        congr 1
        omega
      have l2 : ((els.drop off).take m).flatten.length = m * szP P e' := by
        rw [flat_length (s := szP P e') _ fun cs hcs => hl cs (List.mem_of_mem_drop (List.mem_of_mem_take hcs)), hlen]
      rw [e1, ← l1, List.drop_left, ← l2, List.take_left]
    have hfl : els.flatten.length = els.length * szP P e' := flat_length (s := szP P e') _ hl
    refine ⟨_, cap, by rw [hlen]; exact k6, (cur.toList.drop (off * szP P e')).take (m * szP P e'), ⟨?_, fun k x hk => ?_⟩, fun i u hu => ⟨_, rfl, ?_⟩⟩
    · rw [hflat]
      have := h6
      simp only [List.length_take, List.length_drop, hfl, Array.length_toList]
      have hmm : off * szP P e' + m * szP P e' ≤ els.length * szP P e' := by rw [← Nat.add_mul]; exact Nat.mul_le_mul_right _ hm
      omega
    · rw [hflat, List.getElem?_take] at hk
      split at hk
      · rename_i hlt
        rw [List.getElem?_drop] at hk
        obtain ⟨u, hu, hr⟩ := h7.2 _ x hk
        refine ⟨u, ?_, hr⟩
        rw [List.getElem?_take, if_pos hlt, List.getElem?_drop]
        rw [List.getElem?_take] at hu
        split at hu
        · exact hu
        · cases hu
      · cases hk
    · rw [add_lit, row_cell k2]
      rw [List.getElem?_take] at hu
      split at hu
      · rw [List.getElem?_drop] at hu
        simpa using hu
      · cases hu
theorem LT.tappSelf {t e : TypeId} {x y : Operand} {n k off m : Nat} {xs : List α} {z : Value} {s by_ : Nat} (ho : o.op = .call { callee := .builtin .append, args := #[x, y], argTypes := #[t, t] }) (ht : P.underlying t = some (.slice e)) (hz : TI P e z s by_) (hzs : z.cells.size = s) (hs : 0 < s) (hb : by_ ≤ 65536)
    (he : ∀ a, (enc a).length = s) (hk : k ≤ xs.length) (hm : off + m ≤ xs.length) (hlim : k + m ≤ LIM) :
    LT P o [(x, Cc (.loc n 0 k)), (y, Cc (.loc n off m))] [(n, .prow e (xs.map enc))] (Cc (.loc n 0 (xs.take k ++ (xs.drop off).take m).length)) [(n, .prow e ((xs.take k ++ (xs.drop off).take m).map enc))] [n] [n] := by
  have hk2 : (xs.take k).length = k := by simp; omega
  have hm2 : ((xs.drop off).take m).length = m := by simp; omega
  have hshrink : ∀ (w : World) (R B : Nat → Prop) (g : Nat → GS), ROw P w R B g n e (pvs (xs.map enc)) → ROw P w R B g n e (pvs ((xs.take k).map enc)) := fun w R B g h => by
    rcases h with ⟨h1, h2⟩ | ⟨b, cur, h1, h2, h3, h4, h5⟩
    · left
      have : xs = [] := by
        cases xs with
        | nil => rfl
        | cons a r => simp [pvs] at h2
      subst this
      exact ⟨h1, by simp [pvs]⟩
    · have hp : pvs ((xs.take k).map enc) = (pvs (xs.map enc)).take k := by simp [pvs, List.map_take]
      rw [hp]
      refine .inr ⟨b, cur, h1, h2, fun cs hcs => h3 cs (List.mem_of_mem_take hcs), ?_, fun j i cs c hj hc => ?_⟩
      · refine Nat.le_trans (Nat.mul_le_mul_right _ ?_) h4
        simp
        omega
      · rw [List.getElem?_take] at hj
        split at hj
        · exact h5 j i cs c hj hc
        · cases hj
  have := LT.append (P := P) (ins := [(x, Cc (.loc n 0 k)), (y, Cc (.loc n off m))]) (us := [(n, .prow e (xs.map enc))]) (n := n) (els := pvs ((xs.take k).map enc)) (els2 := pvs (((xs.drop off).take m).map enc)) (W := [n]) ho ht hz hzs hs hb
    (fun cs hcs => by
      simp only [pvs, List.mem_map] at hcs
      obtain ⟨c, ⟨a, _, rfl⟩, rfl⟩ := hcs
      simpa using he a) (by simp [pvs_length, hk2, hm2]; simp at hm2; omega)
    (fun R B g w a hw hi hu => ⟨.inr ⟨by rw [pvs_length, List.length_map, hk2]; exact in1 hi, hshrink w R B g (us1 hu)⟩, by
      have := srcLocAt (els := pvs (xs.map enc)) (by rw [hz.sz]; exact hs) (in2 hi) (us1 hu) (by rw [pvs_length, List.length_map]; exact hm)
      rw [hz.sz] at this
      have hp : pvs (((xs.drop off).take m).map enc) = ((pvs (xs.map enc)).drop off).take m := by simp [pvs, List.map_take, List.map_drop]
      rw [hp]
      exact this, .inl rfl⟩)
  have h2 : LT P o [(x, Cc (.loc n 0 k)), (y, Cc (.loc n off m))] [(n, .prow e (xs.map enc))] (Cc (.loc n 0 (xs.take k ++ (xs.drop off).take m).length)) [(n, .row e ((pvs ((xs.take k ++ (xs.drop off).take m).map enc)).map (·.map (junkC [n]))))] [n] [n] := by
    rw [List.length_append, hk2, hm2]
    have hl : (pvs ((xs.take k).map enc)).length + (pvs (((xs.drop off).take m).map enc)).length = k + m := by rw [pvs_length, pvs_length, List.length_map, List.length_map, hk2, hm2]
    rw [hl] at this
    simpa [pvs] using this
  exact h2.dfP
theorem PermO.row1 {e : TypeId} {cs : List CV} (h : PermCL cs) : PermO (.row e [cs]) := fun c hc x hx => by
  have : c = cs := by simpa using hc
  subst this
  exact h.spec x hx
theorem findNow_none {k : Int} : ∀ {es : List MapEntry} {m : List (Int × Int)} {i : Nat}, es.map (fun e => (e.key, e.val)) = m.map (fun e => (Value.int .i64 e.1, Value.int .i64 e.2)) → mhas m k = false → Instr.findNow (.int .i64) (.int .i64 k) es i = some none
  | [], [], _, _, _ => rfl
  | [], _ :: _, _, h, _ => by cases h
  | _ :: _, [], _, h, _ => by cases h
  | e :: es, x :: m, i, h, hh => by
    simp only [List.map_cons, List.cons.injEq, Prod.mk.injEq] at h
    obtain ⟨⟨h1, h2⟩, h3⟩ := h
    unfold mhas at hh
    cases hx : k == x.1 with
    | true => rw [hx] at hh; cases hh
    | false =>
      rw [hx, cond_false] at hh
      simp [Instr.findNow, Instr.sameNow, h1, hx, findNow_none h3 hh]
theorem findNow_some {k : Int} : ∀ {es : List MapEntry} {m : List (Int × Int)} {i : Nat}, es.map (fun e => (e.key, e.val)) = m.map (fun e => (Value.int .i64 e.1, Value.int .i64 e.2)) → mhas m k = true →
    ∃ j, Instr.findNow (.int .i64) (.int .i64 k) es i = some (some (i + j, .int .i64 (mget m k))) ∧ (∃ e, es[j]? = some e ∧ e.key = .int .i64 k) ∧ ∀ v, mput m k v = m.set j (k, v)
  | [], [], _, _, h => by cases h
  | [], _ :: _, _, h, _ => by cases h
  | _ :: _, [], _, h, _ => by cases h
  | e :: es, x :: m, i, h, hh => by
    simp only [List.map_cons, List.cons.injEq, Prod.mk.injEq] at h
    obtain ⟨⟨h1, h2⟩, h3⟩ := h
    unfold mhas at hh
    cases hx : k == x.1 with
    | true =>
      refine ⟨0, ?_, ⟨e, rfl, by rw [h1, eq_of_beq hx]⟩, fun v => ?_⟩
      · simp [Instr.findNow, Instr.sameNow, h1, hx, h2, mget]
      · simp [mput, hx]
    | false =>
      rw [hx, cond_false] at hh
      obtain ⟨j, k1, ⟨e2, k2, k3⟩, k4⟩ := findNow_some (i := i + 1) h3 hh
      refine ⟨j + 1, ?_, ⟨e2, by simpa using k2, k3⟩, fun v => ?_⟩
      · simp [Instr.findNow, Instr.sameNow, h1, hx, k1, mget]
        omega
      · simp [mput, hx, k4]
theorem mput_none {k : Int} : ∀ {m : List (Int × Int)}, mhas m k = false → ∀ v, mput m k v = m ++ [(k, v)]
  | [], _, _ => rfl
  | x :: m, h, v => by
    unfold mhas at h
    cases hx : k == x.1 with
    | true => rw [hx] at h; cases h
    | false =>
      rw [hx, cond_false] at h
      simp [mput, hx, mput_none h]
def mapB (P : Program) (t : TypeId) : Option (TypeId × TypeId) := match P.underlying t with
  | some (.map k e) => match P.underlying k, (P.info? e).bind (·.zero) with
    | some (.int .i64), some (.int .i64 0) => some (k, e)
    | _, _ => none
  | _ => none
theorem mapB_spec {t k e : TypeId} (h : mapB P t = some (k, e)) : P.underlying t = some (.map k e) ∧ P.underlying k = some (.int .i64) ∧ ∃ i, P.info? e = some i ∧ i.zero = some (.int .i64 0) := by
  unfold mapB at h
  split at h
  · rename_i k' e' hu
    split at h
    · rename_i hk hz
      injection h with h
      injection h with h1 h2
      subst h1
      subst h2
      cases hi : P.info? e' with
      | none => rw [hi] at hz; cases hz
      | some i =>
        rw [hi] at hz
        exact ⟨hu, hk, i, rfl, hz⟩
    · cases h
  · cases h
theorem run_checkKey_int {b : Bool} {k : TypeId} (hk : P.underlying k = some (.int .i64)) (n : Int) (w : World) : (Instr.checkKey b 10000 k (.int .i64 n)).run P w = .ok () w := by
  unfold Instr.checkKey
  simp only [Sem.run_bind, run_underlying hk, Result.andThen_ok]
  rfl
theorem run_findKey_now {k : TypeId} (hk : P.underlying k = some (.int .i64)) {n : Int} {es : List MapEntry} {r : Option (Nat × Value)} (h : Instr.findNow (.int .i64) (.int .i64 n) es 0 = some r) (w : World) : (Instr.findKey k (.int .i64 n) es).run P w = .ok r w := by
  simp [Instr.findKey, run_underlying hk, h, Result.andThen]
theorem LT.makeMap {t : TypeId} {n : Nat} (ho : o.op = .makeMap t none) : LT P o [] [] (Cc (.mref n)) [(n, .mp [])] [] [n] := by
  intro R B g w a hw hi hu K Q hK
  have hr := Go.RowKit.run_makeMap (P := P) t w
  have had := Adv.alloc hw n (.map #[] 0)
  have hrun : (execOp a.eval o).run P w = .ok (.value (.map (some w.heap.size))) (w.alloc (.map #[] 0)) := by
    simp [execOp, ho, hr]
  unfold Oper.wp
  rw [hrun]
  refine hK _ _ _ _ _ had (fun b hb => .inl hb) (fun _ => ⟨rfl, w.heap.size, upd_same .., rfl⟩) (fun p hp => ?_)
  have : p = (n, .mp []) := by simpa using hp
  subst this
  exact ⟨w.heap.size, #[], 0, upd_same .., (Go.MapKept.heap_alloc w _).1, rfl⟩
theorem map_look {t k e : TypeId} (ht : mapB P t = some (k, e)) {n : Nat} {m : List (Int × Int)} (h : RO P w R B g n (.mp m)) {v : Value} (hv : RC P w R B g (.mref n) v) (x : Int) (ok : Bool) :
    (Instr.lookup t v (.int .i64 x) ok).run P w = .ok (if ok then .tuple #[.int .i64 (mget m x), .bool (mhas m x)] else .int .i64 (mget m x)) w := by
  obtain ⟨h1, h2, i, h3, h4⟩ := mapB_spec ht
  obtain ⟨b, ents, clock, k1, k2, k3⟩ := h
  obtain ⟨_, b', k4, rfl⟩ := hv
  rw [k1] at k4
  injection k4 with k4
  subst k4
  cases hh : mhas m x with
  | false =>
    have hf := run_findKey_now (P := P) h2 (findNow_none k3 hh) w
    have hg : mget m x = 0 := by
      clear hf k3
      induction m with
      | nil => rfl
      | cons y r ih =>
        unfold mhas at hh
        unfold mget
        cases hy : x == y.1 with
        | true => rw [hy] at hh; cases hh
        | false =>
          rw [hy, cond_false] at hh
          exact ih hh
    simp [Instr.lookup, run_underlying h1, Go.MapKept.run_getObj_map k2, run_checkKey_int h2, hf, Result.andThen, zeroValue, typeInfo, h3, h4, hg]
  | true =>
    obtain ⟨j, hj, _, _⟩ := findNow_some (i := 0) k3 hh
    have hf := run_findKey_now (P := P) h2 hj w
    simp [Instr.lookup, run_underlying h1, Go.MapKept.run_getObj_map k2, run_checkKey_int h2, hf, Result.andThen]
theorem LT.mapGet {t k e : TypeId} {x y : Operand} {n : Nat} {m : List (Int × Int)} {i : Int} (ho : o.op = .lookup t x y false) (ht : mapB P t = some (k, e)) : LT P o [(x, Cc (.mref n)), (y, Iv i)] [(n, .mp m)] (Iv (mget m i)) [] [] [] := .calm fun R B g w a hw hi hu => by
  have hl := map_look (P := P) ht (us1 hu) (in1 hi) i false
  rw [if_neg (by simp)] at hl
  refine ⟨_, ?_, sc_mk rfl⟩
  simp [execOp, ho, sc_inv (in2 hi), hl]
theorem LT.mapGetOk {t k e : TypeId} {x y : Operand} {n : Nat} {m : List (Int × Int)} {i : Int} (ho : o.op = .lookup t x y true) (ht : mapB P t = some (k, e)) : LT P o [(x, Cc (.mref n)), (y, Iv i)] [(n, .mp m)] (.tup [.c (iC (mget m i)), .c (bC (mhas m i))]) [] [] [] := .calm fun R B g w a hw hi hu => by
  have hl := map_look (P := P) ht (us1 hu) (in1 hi) i true
  rw [if_pos rfl] at hl
  refine ⟨.tuple #[.int .i64 (mget m i), .bool (mhas m i)], by simp [execOp, ho, sc_inv (in2 hi), hl], [.int .i64 (mget m i), .bool (mhas m i)], rfl, rfl, fun k x hk => ?_⟩
  match k, hk with
  | 0, hk => simp at hk; subst hk; exact ⟨_, rfl, rfl, .sc rfl⟩
  | 1, hk => simp at hk; subst hk; exact ⟨_, rfl, rfl, .sc rfl⟩
  | k + 2, hk => simp at hk
theorem Adv.setMap (h : WF R B g w) {n b : Nat} {es : Array MapEntry} {clock : Nat} (hn : g n = .blk b) (hh : w.heap[b]? = some (.map es clock)) (o' : Obj) : Adv R B g w [n] [] R B g (setBlock w b o') where
  wf := h.mono (by simp [setBlock])
  r _ h := h
  b _ h := h
  os := rfl
  tape := rfl
  output := rfl
  size := by simp [setBlock]
  heap c _ hc := heap_setBlock_other hh o' (fun e => hc n List.mem_cons_self (by rw [hn, e]; rfl))
  names _ _ := rfl
  fresh _ hk := by cases hk
  shape k hk _ c cu e' hg hc := by
    have : k = n := by simpa using hk
    subst this
    rw [hn] at hg
    have hg : b = c := Eq.symm hg
    subst hg
    rw [hh] at hc
    cases hc
theorem LT.mapPut {t k e : TypeId} {x y z : Operand} {n : Nat} {m : List (Int × Int)} {i j : Int} {v : AV} (ho : o.op = .mapUpdate t x y z ∨ o.op = .insert t x y z) (hd : o.dst = none) (ht : mapB P t = some (k, e)) : LT P o [(x, Cc (.mref n)), (y, Iv i), (z, Iv j)] [(n, .mp m)] v [(n, .mp (mput m i j))] [n] [] := by
  intro R B g w a hw hin hu K Q hK
  obtain ⟨h1, h2, _, _, _⟩ := mapB_spec ht
  obtain ⟨b, ents, clock, k1, k2, k3⟩ := us1 hu
  obtain ⟨_, b', k4, k5⟩ := in1 hin
  rw [k1] at k4
  injection k4 with k4
  subst k4
  have e2 := sc_inv (in2 hin)
  have e3 := sc_inv (in3 hin)
  have key : ∃ es' clock', (Instr.mapUpdate t (.map (some b)) (.int .i64 i) (.int .i64 j)).run P w = .ok () (setBlock w b (.map es' clock')) ∧ es'.toList.map (fun e => (e.key, e.val)) = (mput m i j).map fun e => (Value.int .i64 e.1, Value.int .i64 e.2) := by
    cases hh : mhas m i with
    | false =>
      have hf := run_findKey_now (P := P) h2 (findNow_none k3 hh) w
      refine ⟨ents.push { key := .int .i64 i, val := .int .i64 j, born := clock }, clock + 1, ?_, ?_⟩
      · simp [Instr.mapUpdate, run_underlying h1, Go.MapKept.run_getObj_map k2, run_checkKey_int h2, hf, Go.MapKept.run_setObj_map _ k2, Result.andThen]
        rfl
      · rw [mput_none hh]
        simp [k3]
    | true =>
      obtain ⟨q, hq, ⟨en, hen, hkey⟩, hput⟩ := findNow_some (i := 0) k3 hh
      rw [Nat.zero_add] at hq
      have hf := run_findKey_now (P := P) h2 hq w
      have hen' : ents[q]? = some en := by simpa using hen
      refine ⟨ents.modify q fun e => { e with key := .int .i64 i, val := .int .i64 j }, clock, ?_, ?_⟩
      · simp [Instr.mapUpdate, run_underlying h1, Go.MapKept.run_getObj_map k2, run_checkKey_int h2, hf, hen', hkey, Instr.keyThatStays, Instr.sameBits, Go.MapKept.run_setObj_map _ k2, Result.andThen]
        rfl
      · rw [hput]
        apply List.ext_getElem?
        intro r
        have hk3 := congrArg (fun l => l[r]?) k3
        simp only [List.getElem?_map, Array.getElem?_toList] at hk3
        simp only [List.getElem?_map, List.getElem?_set, Array.getElem?_toList, Array.getElem?_modify]
        by_cases hr : q = r
        · subst hr
          rw [hen'] at hk3
          cases hm : m[q]? with
          | none => rw [hm] at hk3; cases hk3
          | some y =>
            have := (List.getElem?_eq_some_iff.1 hm).1
            simp [hen', this]
        · simp [hr, hk3]
  obtain ⟨es', clock', hrun, hes⟩ := key
  have hex : (execOp a.eval o).run P w = .ok .skip (setBlock w b (.map es' clock')) := by
    rcases ho with ho | ho <;> simp [execOp, ho, k5, e2, e3, hrun]
  have had := Adv.setMap hw k1 k2 (.map es' clock')
  unfold Oper.wp
  rw [hex]
  have hq := hK undef R B g (setBlock w b (.map es' clock')) had (fun b hb => .inl hb) (fun h => by rw [hd] at h; cases h) (fun p hp => by
    have : p = (n, .mp (mput m i j)) := by simpa using hp
    subst this
    exact ⟨b, es', clock', k1, heap_setBlock_same k2 _, hes⟩)
  exact hq
end
end Go.Fw
end
section
set_option linter.unusedVariables false
set_option linter.unusedSimpArgs false
set_option linter.unnecessarySimpa false
namespace Go.Fw
section
variable {P : Program} {C : Ctx} {σ : Slots} {m : Mem}
theorem RC.junk {w : World} {R B : Nat → Prop} {g : Nat → GS} {x : CV} {v : Value} (h : RC P w R B g x v) : RC P w R B g .junk v := ⟨h.1, trivial⟩
theorem rel_junk {w : World} {R B : Nat → Prop} {g : Nat → GS} {cs : List CV} {k : Nat} {T : Nat → Value → Prop} (h : ∀ (j : Nat) x, cs[j]? = some x → ∃ u, T j u ∧ RC P w R B g x u) : ∀ (j : Nat) x, (cs.set k .junk)[j]? = some x → ∃ u, T j u ∧ RC P w R B g x u := fun j x hj => by
  rw [List.getElem?_set] at hj
  by_cases hk : k = j
  · rw [if_pos hk] at hj
    split at hj
    · injection hj with hj
      subst hj
      rename_i hl
      obtain ⟨u, h1, h2⟩ := h j cs[j] (List.getElem?_eq_getElem (by omega))
      exact ⟨u, h1, h2.junk⟩
    · cases hj
  · rw [if_neg hk] at hj
    exact h j x hj
theorem St.slot {R B : Nat → Prop} {g : Nat → GS} {a : Act} {w : World} (hs : St P C σ m R B g a w) {t : Nat} {v : AV} (h : RA P w R B g v (a.tmps.getD t undef)) : St P C ((t, v) :: σ) m R B g a w := by
  refine { hs with sl := ?_ }
  intro t' v' hl
  change (bif Nat.beq t t' then some v else lk σ t') = some v' at hl
  cases hb : Nat.beq t t' with
  | true =>
    rw [hb, cond_true] at hl
    injection hl with hl
    subst hl
    rw [← Nat.eq_of_beq_eq_true hb]
    exact h
  | false =>
    rw [hb, cond_false] at hl
    exact hs.sl t' v' hl
theorem St.obj {R B : Nat → Prop} {g : Nat → GS} {a : Act} {w : World} (hs : St P C σ m R B g a w) {n : Nat} {o0 o : Ob} (h0 : lk m n = some o0) (h : RO P w R B g n o) : St P C σ ((n, o) :: m) R B g a w := by
  refine { hs with ob := ?_, ow := ?_ }
  · intro n' o' hl
    change (bif Nat.beq n n' then some o else lk m n') = some o' at hl
    cases hb : Nat.beq n n' with
    | true =>
      rw [hb, cond_true] at hl
      injection hl with hl
      subst hl
      rw [← Nat.eq_of_beq_eq_true hb]
      exact h
    | false =>
      rw [hb, cond_false] at hl
      exact hs.ob n' o' hl
  · intro n' o' b hl hg
    change (bif Nat.beq n n' then some o else lk m n') = some o' at hl
    cases hb : Nat.beq n n' with
    | true =>
      have := Nat.eq_of_beq_eq_true hb
      subst this
      exact hs.ow n o0 b h0 hg
    | false =>
      rw [hb, cond_false] at hl
      exact hs.ow n' o' b hl hg
theorem Ent.junkS (t : Nat) {x : CV} (h : lk σ t = some (Cc x)) : Ent P C σ m ((t, Cc .junk) :: σ) m := fun R B g a w hs =>
  ⟨R, B, g, hs.slot (v := Cc .junk) (RC.junk (x := x) (hs.sl t _ h))⟩
theorem Ent.junkB (n k : Nat) {e : TypeId} {cs : List CV} (h : lk m n = some (.row e [cs])) : Ent P C σ m σ ((n, .row e [cs.set k .junk]) :: m) := fun R B g a w hs => by
  refine ⟨R, B, g, hs.obj h ?_⟩
  rcases hs.ob n _ h with ⟨h1, h2⟩ | ⟨b, cur, h1, h2, h3, h4, h5⟩
  · cases h2
  · refine .inr ⟨b, cur, h1, h2, fun c hc => ?_, by simpa using h4, fun j i c x hj hx => ?_⟩
    · have : c = cs.set k .junk := by simpa using hc
      subst this
      simpa using h3 cs List.mem_cons_self
    · cases j with
      | succ j => simp at hj
      | zero =>
        simp at hj
        subst hj
        exact rel_junk (T := fun i u => cur[0 * szP P e + i]? = some u) (fun i x hx => h5 0 i cs x rfl hx) i x hx
theorem Ent.nilNew (n : Nat) (e : TypeId) (hn : C.pn.elem n = false) : Ent P C σ m (junkSl [n] σ) ((n, .prow e []) :: junkM [n] m) := fun R B g a w hs =>
  ⟨R, B, upd g n .nil, hs.nilName n (by
    intro h
    rw [List.elem_eq_true_of_mem h] at hn
    cases hn) e⟩
def QWL : List PV → List PV → Prop
  | [], [] => True
  | p :: r, p' :: r' => QW p p' ∧ QWL r r'
  | _, _ => False
theorem QWL.get : ∀ {l l' : List PV}, QWL l l' → l'.length = l.length ∧ ∀ (k : Nat) p p', l[k]? = some p → l'[k]? = some p' → QW p p'
  | [], [], _ => ⟨rfl, fun k p p' h => by simp at h⟩
  | p :: r, p' :: r', h => by
    obtain ⟨h1, h2⟩ := QWL.get h.2
    refine ⟨by simp [h1], fun k x x' hx hx' => ?_⟩
    cases k with
    | zero =>
      simp at hx hx'
      subst hx
      subst hx'
      exact h.1
    | succ k => exact h2 k x x' (by simpa using hx) (by simpa using hx')
  | [], _ :: _, h => h.elim
  | _ :: _, [], h => h.elim
theorem QW.xsm {α : Type} {enc enc' : α → List PV} (h : ∀ a, QWL (enc a) (enc' a)) {q q' : Bool} (hq : q' = true → q = true) (xs : List α) : QW (.xs q (xs.map enc)) (.xs q' (xs.map enc')) := by
  refine .xs hq (by simp) (fun j cs cs' h1 h2 => ?_) (fun j k cs cs' p p' h1 h2 h3 h4 => ?_)
  · rw [List.getElem?_map] at h1 h2
    cases hx : xs[j]? with
    | none => rw [hx] at h1; cases h1
    | some a =>
      rw [hx] at h1 h2
      injection h1 with h1
      injection h2 with h2
      subst h1
      subst h2
      exact (h a).get.1
  · rw [List.getElem?_map] at h1 h2
    cases hx : xs[j]? with
    | none => rw [hx] at h1; cases h1
    | some a =>
      rw [hx] at h1 h2
      injection h1 with h1
      injection h2 with h2
      subst h1
      subst h2
      exact (h a).get.2 k p p' h3 h4
theorem permP_xs {α : Type} {enc : α → List PV} (h : ∀ a, PermPL (enc a)) (xs : List α) : PermP (.xs true (xs.map enc)) := .xs fun cs hcs p hp => by
  obtain ⟨a, _, rfl⟩ := List.mem_map.1 hcs
  exact (h a).spec p hp
theorem St.freeze {R B : Nat → Prop} {g : Nat → GS} {a : Act} {w : World} (hs : St P C σ m R B g a w) {n : Nat} {e : TypeId} {els : List (List PV)} (ho : lk m n = some (.prow e els)) (hn : n ∉ C.pn) (hU : ∀ b, C.U0 b → ∃ k ∈ C.pn, (C.g0 k).has b) :
    ∃ R' B' g', Adv R B g w [] [n] R' B' g' w ∧ St P C (junkSl [n] σ) (junkM [n] m) R' B' g' a w ∧ ∀ v, RC P w R B g (.loc n 0 els.length) v → RPV w R' B' (.xs true els) v := by
  have hro : ROw P w R B g n e (pvs els) := hs.ob n _ ho
  have hw := hs.wf
  let R' : Nat → Prop := fun b => R b ∨ (g n).has b
  let B' : Nat → Prop := fun b => B b ∨ (g n).has b
  have hne : ∀ k, k ≠ n → upd g n .dead k = g k := fun k hk => upd_ne g _ hk
  have hwf : WF R' B' (upd g n .dead) w := by
    have h0 := hw.upd n .dead (w' := w) (Nat.le_refl _) (fun b hb => hb.elim) (fun i j b hi => by cases hi)
    refine ⟨fun b hb => hb.imp (hw.rb b) id, fun b hb => hb.elim (hw.lt b) fun h => (hw.ownH n b h).2, fun k b hk => ⟨fun hB => ?_, (h0.ownH k b hk).2⟩, h0.injH, h0.nd⟩
    rcases hB with hB | hB
    · exact (h0.ownH k b hk).1 hB
    · by_cases hkn : k = n
      · subst hkn; rw [upd_same] at hk; exact hk.elim
      · rw [hne k hkn] at hk
        exact hkn (hw.injH k n b hk hB)
  have had : Adv R B g w [] [n] R' B' (upd g n .dead) w := by
    refine ⟨hwf, fun _ h => .inl h, fun _ h => .inl h, rfl, rfl, rfl, Nat.le_refl _, fun _ _ _ => rfl, fun k hk => hne k (by simpa using hk), fun k hk b hb => ?_, fun k hk => by cases hk⟩
    have : k = n := by simpa using hk
    subst this
    rw [upd_same] at hb
    exact hb.elim
  refine ⟨R', B', upd g n .dead, had, ?_, fun v hv => ?_⟩
  · refine { hs with wf := hwf, sl := ?_, ob := ?_, ow := ?_, perm := ?_, r0 := ?_, pin := ?_ }
    · intro t v hl
      rw [lk_junkSl] at hl
      cases hv : lk σ t with
      | none => rw [hv] at hl; cases hl
      | some u =>
        rw [hv] at hl
        injection hl with hl
        subst hl
        exact had.ra hw (hs.sl t u hv)
    · intro k o hl
      obtain ⟨hk, o0, h0, rfl⟩ := lk_junkM [n] m k o hl
      exact had.ro hw hk (by simp) (hs.ob k o0 h0)
    · intro k o b hl hg
      obtain ⟨hk, o0, h0, _⟩ := lk_junkM [n] m k o hl
      rw [hne k (by simpa using hk)] at hg
      exact hs.ow k o0 b h0 hg
    · intro b hb
      rcases hb with hb | hb
      · exact hs.perm b hb
      · rcases hs.ow n _ b ho hb with h | h
        · exact .inr h
        · obtain ⟨k, hk, hg⟩ := hU b h
          have := hw.injH k n b (by rw [hs.pin k hk]; exact hg) hb
          subst this
          exact absurd hk hn
    · intro b hb
      exact .inl (hs.r0 b hb)
    · intro k hk
      rw [hne k (fun h => hn (h ▸ hk))]
      exact hs.pin k hk
  · obtain ⟨_, hv⟩ := hv
    rcases hv with ⟨h1, _, h3, h4⟩ | ⟨_, h2, _⟩ | ⟨b, cap, cur, e', k1, k2, k3, k4, k5, k6⟩
    · have : els = [] := List.eq_nil_of_length_eq_zero h3
      subst this
      subst h4
      exact .emp
    · exact absurd rfl h2
    · rcases hro with ⟨h1, _⟩ | ⟨b', cur', h1, h2, h3, h4, h5⟩
      · rw [k1] at h1; cases h1
      · rw [k1] at h1
        injection h1 with h1
        subst h1
        rw [k2] at h2
        injection h2 with h2
        injection h2 with h2 h6 h7
        subst h2
        subst h6
        subst k6
        have hval : ∀ j k cs p, els[j]? = some cs → cs[k]? = some p → ∃ u, cur[j * szP P e' + k]? = some u ∧ RC P w R B g (.pv p) u := fun j k cs p hj hk => by
          have := h5 j k (cs.map .pv) (.pv p) (by simp [pvs, hj]) (by simp [hk])
          exact this
        refine .xs (s := szP P e') (fun j k => cur.getD (j * szP P e' + k) undef) rfl (.inr (GS.has_blk k1)) k3 (fun cs hcs => ?_) (fun j k cs p hj hk => ?_) (fun j k cs p hj hk => ?_)
        · have := h3 (cs.map .pv) (List.mem_map.2 ⟨cs, hcs, rfl⟩)
          simpa using this
        · obtain ⟨u, hu, _⟩ := hval j k cs p hj hk
          rw [Nat.zero_mul, add_lit, Nat.zero_add, row_cell k2, hu]
          simp [Array.getD_eq_getD_getElem?, hu]
        · obtain ⟨u, hu, hr⟩ := hval j k cs p hj hk
          have : cur.getD (j * szP P e' + k) undef = u := by simp [Array.getD_eq_getD_getElem?, hu]
          rw [this]
          exact (had.rc hw (x := .pv p) hr).2
section
variable {α : Type} {enc : α → List PV}
theorem Ent.freezeS (t n : Nat) {e : TypeId} {xs : List α} {len : Nat} (hU : ∀ b, C.U0 b → ∃ k ∈ C.pn, (C.g0 k).has b) (hn : C.pn.elem n = false) (hl : len = xs.length) (h : lk σ t = some (Cc (.loc n 0 len))) (ho : lk m n = some (.prow e (xs.map enc))) :
    Ent P C σ m ((t, Cc (.pv (.xs true (xs.map enc)))) :: junkSl [n] σ) (junkM [n] m) := fun R B g a w hs => by
  subst hl
  obtain ⟨R', B', g', had, hs', hv⟩ := hs.freeze ho (fun h => by rw [List.elem_eq_true_of_mem h] at hn; cases hn) hU
  have hr : RC P w R B g (.loc n 0 xs.length) (a.tmps.getD t undef) := hs.sl t _ h
  exact ⟨R', B', g', hs'.slot (v := Cc (.pv (.xs true (xs.map enc)))) ⟨hr.1, hv _ (by rw [List.length_map]; exact hr)⟩⟩
end
end
end Go.Fw
end
section
set_option linter.unusedVariables false
set_option linter.unusedSimpArgs false
set_option linter.unnecessarySimpa false
namespace Go.Fw
section
variable {P : Program} {w : World} {R B : Nat → Prop} {g g' : Nat → GS} {X : List Nat} {p k m : Nat}
theorem RC.av {x : CV} {v : Value} (hz : nrC X x = true) (hg : ∀ n, n ∉ X → g' n = g n) (h : RC P w R B g x v) : RC P w R B g' x v := by
  refine ⟨h.1, ?_⟩
  have h2 := h.2
  cases x with
  | pv p => exact h2
  | px q cells => exact h2
  | loc n off len =>
    have hn := hg n (notin_of_elem (by simpa [nrC] using hz))
    rcases h2 with ⟨h3, h4⟩ | h3 | ⟨b, cap, cur, e, h3, h4⟩
    · exact .inl ⟨hn.trans h3, h4⟩
    · exact .inr (.inl h3)
    · exact .inr (.inr ⟨b, cap, cur, e, hn.trans h3, h4⟩)
  | pl n off =>
    obtain ⟨b, h3, h4⟩ := h2
    exact ⟨b, (hg n (notin_of_elem (by simpa [nrC] using hz))).trans h3, h4⟩
  | fn f caps =>
    obtain ⟨vs, h3, h4, h5⟩ := h2
    exact ⟨vs, h3, h4, fun k n hk => by
      obtain ⟨b, h6, h7⟩ := h5 k n hk
      have hc : caps.any X.elem = false := by simpa [nrC] using hz
      have hn : X.elem n = false := by
        have := List.any_eq_false.1 hc n (List.mem_of_getElem? hk)
        simpa using this
      exact ⟨b, (hg n (notin_of_elem hn)).trans h6, h7⟩⟩
  | mref n =>
    obtain ⟨b, h3, h4⟩ := h2
    exact ⟨b, (hg n (notin_of_elem (by simpa [nrC] using hz))).trans h3, h4⟩
  | tl q j off len =>
    have hn := hg q (notin_of_elem (by simpa [nrC] using hz))
    rcases h2 with ⟨h3, h4⟩ | h3 | ⟨b, cap, cur, e, h3, h4⟩
    · exact .inl ⟨by rw [hn]; exact h3, h4⟩
    · exact .inr (.inl h3)
    · exact .inr (.inr ⟨b, cap, cur, e, by rw [hn]; exact h3, h4⟩)
  | tpl q j off =>
    obtain ⟨b, h3, h4⟩ := h2
    exact ⟨b, by rw [hg q (notin_of_elem (by simpa [nrC] using hz))]; exact h3, h4⟩
  | junk => trivial
theorem RS.av {x : SV} {v : Value} (hz : nrS X x = true) (hg : ∀ n, n ∉ X → g' n = g n) (h : RS P w R B g x v) : RS P w R B g' x v := by
  cases x with
  | c x => exact RC.av hz hg h
  | agg cs =>
    obtain ⟨vs, h1, h2, h3⟩ := h
    exact ⟨vs, h1, h2, fun k x hk => by
      obtain ⟨u, h4, h5⟩ := h3 k x hk
      exact ⟨u, h4, h5.av (List.all_eq_true.1 hz x (List.mem_of_getElem? hk)) hg⟩⟩
theorem ROw.av {n : Nat} {e : TypeId} {els : List (List CV)} (hn : n ∉ X) (hz : els.all (·.all (nrC X)) = true) (hg : ∀ n, n ∉ X → g' n = g n) (h : ROw P w R B g n e els) : ROw P w R B g' n e els := by
  rcases h with ⟨h1, h2⟩ | ⟨b, cur, h1, h2, h3, h4, h5⟩
  · exact .inl ⟨(hg n hn).trans h1, h2⟩
  · exact .inr ⟨b, cur, (hg n hn).trans h1, h2, h3, h4, fun j k cs x hj hk => by
      obtain ⟨u, h6, h7⟩ := h5 j k cs x hj hk
      exact ⟨u, h6, h7.av (List.all_eq_true.1 (List.all_eq_true.1 hz cs (List.mem_of_getElem? hj)) x (List.mem_of_getElem? hk)) hg⟩⟩
theorem RO.av {n : Nat} {o : Ob} (hn : n ∉ X) (hz : nrO X o = true) (hg : ∀ n, n ∉ X → g' n = g n) (h : RO P w R B g n o) : RO P w R B g' n o := by
  cases o with
  | row e els => exact ROw.av hn hz hg h
  | prow e els => exact ROw.av hn (by simp [pvs, List.all_eq_true, nrC]) hg h
  | mp es =>
    obtain ⟨b, ents, clock, h1, h2⟩ := h
    exact ⟨b, ents, clock, (hg n hn).trans h1, h2⟩
  | pool e rows =>
    obtain ⟨⟨bs, h1, h2⟩, h3⟩ := h
    exact ⟨⟨bs, (hg n hn).trans h1, h2⟩, by rw [hg n hn]; exact h3⟩
  | trow e p lens => exact ROw.av hn (List.all_eq_true.2 fun cs hcs => by
      obtain ⟨j, l, rfl⟩ := mem_tcells hcs
      simpa [nrC, nrO] using hz) hg h
  | unk => trivial
theorem PRow.of {n : Nat} {e : TypeId} {els : List (List PV)} (h : ROw P w R B g n e (pvs els)) : PRow P w R B (g n) e els := by
  rcases h with ⟨h1, h2⟩ | ⟨b, cur, h1, h2, h3, h4, h5⟩
  · exact .inl ⟨h1, by simpa [pvs] using h2⟩
  · refine .inr ⟨b, cur, h1, h2, fun cs hcs => ?_, by simpa [pvs] using h4, fun j k cs x hj hk => ?_⟩
    · have := h3 (cs.map .pv) (List.mem_map.2 ⟨cs, hcs, rfl⟩)
      simpa using this
    · obtain ⟨u, hu, hr⟩ := h5 j k (cs.map .pv) (.pv x) (by simp [pvs, hj]) (by simp [hk])
      exact ⟨u, hu, hr.2⟩
theorem PRow.row {n : Nat} {s : GS} {e : TypeId} {els : List (List PV)} (h : PRow P w R B s e els) (hn : g n = s) : ROw P w R B g n e (pvs els) := by
  rcases h with ⟨h1, h2⟩ | ⟨b, cur, h1, h2, h3, h4, h5⟩
  · exact .inl ⟨hn.trans h1, by rw [h2]; rfl⟩
  · refine .inr ⟨b, cur, hn.trans h1, h2, fun cs hcs => ?_, by simpa [pvs] using h4, fun j k cs x hj hk => ?_⟩
    · obtain ⟨c0, hc0, rfl⟩ := List.mem_map.1 hcs
      simpa using h3 c0 hc0
    · simp only [pvs, List.getElem?_map] at hj
      cases hc : els[j]? with
      | none => rw [hc] at hj; cases hj
      | some c0 =>
        rw [hc] at hj
        injection hj with hj
        subst hj
        rw [List.getElem?_map] at hk
        cases hc2 : c0[k]? with
        | none => rw [hc2] at hk; cases hk
        | some y =>
          rw [hc2] at hk
          injection hk with hk
          subst hk
          obtain ⟨u, hu, hr⟩ := h5 j k c0 y hc hc2
          exact ⟨u, hu, hr.oneCell, hr⟩
theorem GS.mem_at {s : GS} {bs : List (Option Nat)} (hs : s = .pool bs) {b : Nat} (h : s.has b) : ∃ j, s.at j = .blk b := by
  subst hs
  obtain ⟨j, hj⟩ := List.mem_iff_getElem?.1 (show some b ∈ bs from h)
  exact ⟨j, by simp only [GS.at, hj]⟩
end
end Go.Fw
end
section
set_option linter.unusedVariables false
set_option linter.unusedSimpArgs false
set_option linter.unnecessarySimpa false
namespace Go.Fw
section
variable {P : Program} {o : Oper} {α : Type} {enc : α → List PV}
def lensOf {α : Type} (rows : List (List α)) : List Nat := rows.map List.length
def rowsOf {α : Type} (enc : α → List PV) (rows : List (List α)) : List (List (List PV)) := rows.map fun r => r.map enc
theorem tcells_inv {p : Nat} {lens : List Nat} {j : Nat} {cs : List CV} (h : (tcells p lens)[j]? = some cs) : ∃ l, lens[j]? = some l ∧ cs = [.tl p j 0 l] := by
  unfold tcells at h
  rw [List.getElem?_mapIdx] at h
  cases hl : lens[j]? with
  | none => rw [hl] at h; cases h
  | some l => rw [hl] at h; injection h with h; exact ⟨l, rfl, h.symm⟩
theorem tcells_len (p : Nat) (lens : List Nat) : (tcells p lens).length = lens.length := by simp [tcells]
theorem tcells_snoc (p : Nat) (lens : List Nat) (l : Nat) : tcells p lens ++ [[.tl p lens.length 0 l]] = tcells p (lens ++ [l]) := by
  unfold tcells
  rw [List.mapIdx_append]
  simp
end
end Go.Fw
end
section
set_option linter.unusedVariables false
set_option linter.unusedSimpArgs false
set_option linter.unnecessarySimpa false
namespace Go.Fw
section
variable {P : Program} {C : Ctx} {σ : Slots} {mm : Mem}
def adC (p k m : Nat) (x x2 : CV) : Prop := (∃ o l, x = .loc m o l ∧ x2 = .tl p k o l) ∨ (x2 = x ∧ ((∃ q o l, q ≠ k ∧ x = .tl p q o l) ∨ nrC [m, p] x = true))
def obS : Option Nat → GS
  | some b => .blk b
  | none => .nil
theorem Ent.adoptG {k n m p : Nat} {e e2 : TypeId} {els : List (List PV)} {rows rows2 : List (List (List PV))} {cells cells2 : List (List CV)}
    (hm : lk mm m = some (.prow e2 els)) (hp : lk mm p = some (.pool e2 rows)) (hn : lk mm n = some (.row e cells))
    (hd : (!Nat.beq p m && !Nat.beq n p && !Nat.beq n m && !C.pn.elem m && !C.pn.elem p) = true)
    (hbs : ∀ (bs : List (Option Nat)) ob, bs.length = rows.length → ∃ bs2 : List (Option Nat), bs2.length = rows2.length ∧ ∀ j, (GS.pool bs2).at j = if j = k then obS ob else (GS.pool bs).at j)
    (hr2 : ∀ (j : Nat) els2, rows2[j]? = some els2 → (j = k ∧ els2 = els) ∨ (j ≠ k ∧ rows[j]? = some els2))
    (hl : cells2.length = cells.length) (hc : ∀ (j : Nat) cs2, cells2[j]? = some cs2 → ∃ cs, cells[j]? = some cs ∧ cs2.length = cs.length ∧ ∀ (i : Nat) x2, cs2[i]? = some x2 → ∃ x, cs[i]? = some x ∧ adC p k m x x2) :
    Ent P C σ mm (junkSl [m, p] σ) ((p, .pool e2 rows2) :: (n, .row e cells2) :: junkM [m, p] mm) := fun R B g a w hs => by
  simp only [Bool.and_eq_true, Bool.not_eq_true'] at hd
  obtain ⟨⟨⟨⟨hpm, hnp⟩, hnm⟩, hm1⟩, hp1⟩ := hd
  have hpm := Nat.ne_of_beq_eq_false hpm
  have hnp := Nat.ne_of_beq_eq_false hnp
  have hnm := Nat.ne_of_beq_eq_false hnm
  have hm1 := notin_of_elem hm1
  have hp1 := notin_of_elem hp1
  have hw := hs.wf
  have hrm : PRow P w R B (g m) e2 els := PRow.of (hs.ob m _ hm)
  obtain ⟨⟨bs, hgp, hbl⟩, hrows⟩ := hs.ob p _ hp
  have hrn : ROw P w R B g n e cells := hs.ob n _ hn
  obtain ⟨ob, hob⟩ : ∃ ob, g m = obS ob := by
    rcases hrm with ⟨h1, _⟩ | ⟨b, _, h1, _⟩
    · exact ⟨none, h1⟩
    · exact ⟨some b, h1⟩
  obtain ⟨bs2, hbl2, hat⟩ := hbs bs ob hbl
  have hat' : ∀ j, (GS.pool bs2).at j = if j = k then g m else (g p).at j := fun j => by rw [hat j, hob, hgp]
  have hhas : ∀ b, (GS.pool bs2).has b → (g p).has b ∨ (g m).has b := fun b hb => by
    obtain ⟨j, hj⟩ := GS.mem_at rfl hb
    rw [hat' j] at hj
    split at hj
    · exact .inr (GS.has_blk hj)
    · exact .inl (GS.has_at hj)
  let g1 : Nat → GS := upd g m .dead
  have hwf1 : WF R B g1 w := hw.upd m .dead (Nat.le_refl _) (fun b hb => hb.elim) (fun i j b hi => by cases hi)
  have hg1 : ∀ q, q ≠ m → g1 q = g q := fun q hq => upd_ne g _ hq
  let g2 : Nat → GS := upd g1 p (.pool bs2)
  have hg2p : g2 p = .pool bs2 := upd_same ..
  have hg2m : g2 m = .dead := (upd_ne g1 _ (fun e => hpm e.symm)).trans (upd_same ..)
  have hg2 : ∀ q, q ≠ m → q ≠ p → g2 q = g q := fun q h1 h2 => (upd_ne g1 _ h2).trans (hg1 q h1)
  have hwf2 : WF R B g2 w := hwf1.upd p _ (Nat.le_refl _) (fun b hb => by
    rcases hhas b hb with h | h
    · refine ⟨(hw.ownH p b h).1, (hw.ownH p b h).2, fun q hq hq2 => ?_⟩
      by_cases e : q = m
      · subst e
        have : g1 q = .dead := upd_same ..
        rw [this] at hq2; exact hq2
      · rw [hg1 q e] at hq2
        exact hq (hw.injH q p b hq2 h)
    · refine ⟨(hw.ownH m b h).1, (hw.ownH m b h).2, fun q hq hq2 => ?_⟩
      by_cases e : q = m
      · subst e
        have : g1 q = .dead := upd_same ..
        rw [this] at hq2; exact hq2
      · rw [hg1 q e] at hq2
        exact e (hw.injH q m b hq2 h)) (fun i j b hi hj => by
    rw [hat' i] at hi
    rw [hat' j] at hj
    split at hi <;> split at hj
    · omega
    · exact absurd (hw.injH m p b (GS.has_blk hi) (GS.has_at hj)).symm hpm
    · exact absurd (hw.injH m p b (GS.has_blk hj) (GS.has_at hi)).symm hpm
    · exact hw.nd p i j b hi hj)
  have had : Adv R B g w [m, p, n] [m, p] R B g2 w := by
    refine ⟨hwf2, fun _ h => h, fun _ h => h, rfl, rfl, rfl, Nat.le_refl _, fun _ _ _ => rfl, fun q hq => ?_, fun q hq b hb => ?_, fun q hq hqX b cur e' hg hh => ⟨cur, hh, rfl⟩⟩
    · simp at hq
      exact hg2 q hq.1 hq.2
    · have : q = m ∨ q = p := by simpa using hq
      rcases this with rfl | rfl
      · rw [hg2m] at hb; exact hb.elim
      · rw [hg2p] at hb
        rcases hhas b hb with h | h
        · exact .inr ⟨q, by simp, h⟩
        · exact .inr ⟨m, by simp, h⟩
  have hst := hs.step (us := [(m, .prow e2 els), (p, .pool e2 rows), (n, .row e cells)]) (df := [(p, .pool e2 rows2), (n, .row e cells2)]) (W := [m, p, n]) (X := [m, p]) (d := none) (v := .tup []) (u := undef) ⟨hm, hp, hn, trivial⟩
    (fun q hq => by
      have : q = m ∨ q = p ∨ q = n := by simpa using hq
      rcases this with rfl | rfl | rfl
      · exact ⟨.inl (by simp), _, List.mem_cons_self⟩
      · exact ⟨.inl (by simp), _, List.mem_cons_of_mem _ List.mem_cons_self⟩
      · exact ⟨.inr (by simp), _, List.mem_cons_of_mem _ (List.mem_cons_of_mem _ List.mem_cons_self)⟩)
    (fun q hq => by
      have : q = (p, .pool e2 rows2) ∨ q = (n, .row e cells2) := by simpa using hq
      rcases this with rfl | rfl
      · exact .inl (by simp)
      · exact .inr (by simp)) rfl (fun q hq => by
      have : q = m ∨ q = p := by simpa using hq
      rcases this with rfl | rfl
      · exact hm1
      · exact hp1) had (fun b hb => .inl hb) (fun h => by cases h) (fun q hq => by
      have : q = (p, .pool e2 rows2) ∨ q = (n, .row e cells2) := by simpa using hq
      rcases this with rfl | rfl
      · refine ⟨⟨bs2, hg2p, hbl2⟩, fun j els2 hj => ?_⟩
        show PRow P w R B ((g2 p).at j) e2 els2
        rw [hg2p, hat' j]
        rcases hr2 j els2 hj with ⟨h1, h2⟩ | ⟨h1, h2⟩
        · rw [if_pos h1, h2]; exact hrm
        · rw [if_neg h1]; exact hrows j els2 h2
      · show ROw P w R B g2 n e cells2
        have hgn : g2 n = g n := hg2 n hnm hnp
        rcases hrn with ⟨h1, h2⟩ | ⟨b, cur, h1, h2, h3, h4, h5⟩
        · exact .inl ⟨hgn.trans h1, List.eq_nil_of_length_eq_zero (by rw [hl, h2]; rfl)⟩
        · refine .inr ⟨b, cur, hgn.trans h1, h2, fun cs2 hcs2 => ?_, by rw [hl]; exact h4, fun j i cs2 x2 hj hi => ?_⟩
          · obtain ⟨j, hj⟩ := List.mem_iff_getElem?.1 hcs2
            obtain ⟨cs, q1, q2, _⟩ := hc j cs2 hj
            rw [q2]
            exact h3 cs (List.mem_of_getElem? q1)
          · obtain ⟨cs, q1, _, q3⟩ := hc j cs2 hj
            obtain ⟨x, q4, q5⟩ := q3 i x2 hi
            obtain ⟨u, hu, hr⟩ := h5 j i cs x q1 q4
            refine ⟨u, hu, ?_⟩
            rcases q5 with ⟨o, l, rfl, rfl⟩ | ⟨rfl, ⟨q, o, l, hq, rfl⟩ | hz⟩
            · refine ⟨hr.1, ?_⟩
              have hk : (g2 p).at k = g m := by rw [hg2p, hat' k, if_pos rfl]
              rcases hr.2 with ⟨z1, z2⟩ | z1 | ⟨b2, cap, cur2, e3, z1, z2⟩
              · exact .inl ⟨hk.trans z1, z2⟩
              · exact .inr (.inl z1)
              · exact .inr (.inr ⟨b2, cap, cur2, e3, hk.trans z1, z2⟩)
            · refine ⟨hr.1, ?_⟩
              have hk : (g2 p).at q = (g p).at q := by rw [hg2p, hat' q, if_neg hq]
              rcases hr.2 with ⟨z1, z2⟩ | z1 | ⟨b2, cap, cur2, e3, z1, z2⟩
              · exact .inl ⟨hk.trans z1, z2⟩
              · exact .inr (.inl z1)
              · exact .inr (.inr ⟨b2, cap, cur2, e3, hk.trans z1, z2⟩)
            · exact RC.av hz (fun q hq => by
                simp at hq
                exact hg2 q hq.1 hq.2) hr)
  exact ⟨R, B, g2, hst⟩
end
end Go.Fw
end
section
set_option linter.unusedVariables false
set_option linter.unusedSimpArgs false
set_option linter.unnecessarySimpa false
namespace Go.Fw
section
variable {P : Program} {C : Ctx} {σ : Slots} {mm : Mem} {α : Type} {enc : α → List PV}
theorem lensOf_len (rows : List (List α)) : (lensOf rows).length = rows.length := by simp [lensOf]
theorem rowsOf_len (enc : α → List PV) (rows : List (List α)) : (rowsOf enc rows).length = rows.length := by simp [rowsOf]
theorem LT.xapp {o : Oper} {t e : TypeId} {x y : Operand} {n n2 p len len2 : Nat} {rows : List (List α)} {els2 : List (List CV)} {z : Value} {s by_ : Nat} (hl : len = rows.length) (hl2 : len2 = els2.length) (ho : o.op = .call { callee := .builtin .append, args := #[x, y], argTypes := #[t, t] }) (ht : P.underlying t = some (.slice e))
    (hz : TI P e z s by_) (hzs : z.cells.size = s) (hs : 0 < s) (hb : by_ ≤ 65536) (hc : (els2.all (fun cs => Nat.beq cs.length s && cs.all (nrC [n])) && !Nat.beq p n) = true) (hlim : rows.length + els2.length ≤ LIM) :
    LT P o [(x, Cc (.loc n 0 len)), (y, Cc (.loc n2 0 len2))] [(n, .trow e p (lensOf rows)), (n2, .row e els2)] (Cc (.loc n 0 (len + len2))) [(n, .row e (tcells p (lensOf rows) ++ els2))] [n] [n] := by
  subst hl
  subst hl2
  simp only [Bool.and_eq_true, Bool.not_eq_true'] at hc
  have hc1 : ∀ cs ∈ els2, cs.length = s ∧ ∀ x ∈ cs, nrC [n] x = true := fun cs hcs => by
    have := List.all_eq_true.1 hc.1 cs hcs
    simp only [Bool.and_eq_true] at this
    exact ⟨Nat.eq_of_beq_eq_true this.1, fun x hx => List.all_eq_true.1 this.2 x hx⟩
  have hlen : (tcells p (lensOf rows)).length = rows.length := by rw [tcells_len, lensOf_len]
  have hpn : [n].elem p = false := by
    have := Nat.ne_of_beq_eq_false hc.2
    simp [this]
  have := LT.append (P := P) (o := o) (ins := [(x, Cc (.loc n 0 rows.length)), (y, Cc (.loc n2 0 els2.length))]) (us := [(n, .trow e p (lensOf rows)), (n2, .row e els2)]) (n := n) (els := tcells p (lensOf rows)) (els2 := els2) (W := [n]) ho ht hz hzs hs hb
    (fun cs hcs => (hc1 cs hcs).1) (by rw [hlen]; exact hlim)
    (fun R B g w a hw hi hu => ⟨.inr ⟨by rw [hlen]; exact in1 hi, us1 (ob := .trow e p (lensOf rows)) hu⟩, by
      have := srcLoc (els := els2) (by rw [hz.sz]; exact hs) (in2 hi) (us2 hu)
      rwa [hz.sz] at this, .inl rfl⟩)
  rw [hlen, List.map_append, tcells_junk hpn, map_id_of fun cs hcs => map_id_of fun x hx => junkC_nr ((hc1 cs hcs).2 x hx)] at this
  exact this
theorem Ent.tadopt {n m p len : Nat} {e e2 : TypeId} {rows : List (List α)} {r : List α} {rest : List (List CV)} (hl : len = r.length) (hm : lk mm m = some (.prow e2 (r.map enc))) (hp : lk mm p = some (.pool e2 (rowsOf enc rows)))
    (hn : lk mm n = some (.row e (tcells p (lensOf rows) ++ [.loc m 0 len] :: rest))) (hd : (!Nat.beq p m && !Nat.beq n p && !Nat.beq n m && !C.pn.elem m && !C.pn.elem p) = true) (hrest : rest.all (·.all (nrC [m, p])) = true) :
    Ent P C σ mm (junkSl [m, p] σ) ((p, .pool e2 (rowsOf enc (rows ++ [r]))) :: (n, .row e (tcells p (lensOf (rows ++ [r])) ++ rest)) :: junkM [m, p] mm) := by
  subst hl
  have hcells : tcells p (lensOf (rows ++ [r])) = tcells p (lensOf rows) ++ [[.tl p rows.length 0 r.length]] := by
    have : lensOf (rows ++ [r]) = lensOf rows ++ [r.length] := by simp [lensOf]
    rw [this, ← tcells_snoc, lensOf_len]
  have hlen : (tcells p (lensOf rows)).length = rows.length := by rw [tcells_len, lensOf_len]
  refine Ent.adoptG (k := rows.length) hm hp hn hd (fun bs ob hbl => ⟨bs ++ [ob], by simp [hbl, rowsOf_len], fun j => ?_⟩) (fun j els2 hj => ?_) (by rw [hcells]; simp) (fun j cs2 hj => ?_)
  · rw [rowsOf_len] at hbl
    by_cases h : j = rows.length
    · rw [if_pos h, h, ← hbl]
      simp only [GS.at, List.getElem?_append_right (Nat.le_refl _), Nat.sub_self, List.getElem?_cons_zero]
      cases ob <;> rfl
    · rw [if_neg h]
      by_cases h2 : j < bs.length
      · simp only [GS.at, List.getElem?_append_left h2]
      · have e1 : (bs ++ [ob])[j]? = none := List.getElem?_eq_none (by simp; omega)
        have e2 : bs[j]? = none := List.getElem?_eq_none (by omega)
        simp only [GS.at, e1, e2]
  · simp only [rowsOf, List.map_append, List.map_cons, List.map_nil] at hj ⊢
    by_cases h : j < rows.length
    · rw [List.getElem?_append_left (by simpa using h)] at hj
      exact .inr ⟨by omega, hj⟩
    · have hjl := (List.getElem?_eq_some_iff.1 hj).1
      simp at hjl
      have : j = rows.length := by omega
      subst this
      rw [List.getElem?_append_right (by simp)] at hj
      simp at hj
      exact .inl ⟨rfl, hj.symm⟩
  · rw [hcells, List.append_assoc] at hj
    by_cases h : j < rows.length
    · rw [List.getElem?_append_left (by rw [hlen]; exact h)] at hj
      obtain ⟨l, hl, rfl⟩ := tcells_inv hj
      refine ⟨_, by rw [List.getElem?_append_left (by rw [hlen]; exact h)]; exact hj, rfl, fun i x2 hi => ⟨x2, hi, .inr ⟨rfl, .inl ?_⟩⟩⟩
      cases i with
      | zero => exact ⟨j, 0, l, by omega, by simpa using hi.symm⟩
      | succ i => simp at hi
    · rw [List.getElem?_append_right (by rw [hlen]; omega), hlen] at hj
      by_cases h2 : j = rows.length
      · subst h2
        rw [Nat.sub_self] at hj
        have : cs2 = [.tl p rows.length 0 r.length] := by simpa using hj.symm
        subst this
        refine ⟨[.loc m 0 r.length], by rw [List.getElem?_append_right (by rw [hlen]; exact Nat.le_refl _), hlen, Nat.sub_self]; rfl, rfl, fun i x2 hi => ?_⟩
        cases i with
        | zero => exact ⟨_, rfl, .inl ⟨0, r.length, rfl, by simpa using hi.symm⟩⟩
        | succ i => simp at hi
      · obtain ⟨q, hq⟩ : ∃ q, j - rows.length = q + 1 := ⟨j - rows.length - 1, by omega⟩
        rw [hq] at hj
        have hj' : rest[q]? = some cs2 := by simpa using hj
        refine ⟨cs2, by rw [List.getElem?_append_right (by rw [hlen]; omega), hlen, hq]; simpa using hj', rfl, fun i x2 hi => ⟨x2, hi, .inr ⟨rfl, .inr ?_⟩⟩⟩
        exact List.all_eq_true.1 (List.all_eq_true.1 hrest cs2 (List.mem_of_getElem? hj')) x2 (List.mem_of_getElem? hi)
theorem Ent.trow {n p : Nat} {e : TypeId} {lens : List Nat} {cells : List (List CV)} (hc : cells = tcells p lens) (h : lk mm n = some (.row e cells)) : Ent P C σ mm σ ((n, .trow e p lens) :: mm) := fun R B g a w hs => by
  subst hc
  exact ⟨R, B, g, hs.obj (o := .trow e p lens) h (show ROw P w R B g n e (tcells p lens) from hs.ob n (.row e (tcells p lens)) h)⟩
end
end Go.Fw
end
section
set_option linter.unusedVariables false
set_option linter.unusedSimpArgs false
set_option linter.unnecessarySimpa false
namespace Go.Fw
section
variable {P : Program} {o : Oper} {α : Type} {enc : α → List PV}
theorem PRow.blk {w : World} {R B : Nat → Prop} {s : GS} {e : TypeId} {els : List (List PV)} (h : PRow P w R B s e els) {b : Nat} (hb : s = .blk b) {cur : Array Value} {e' : TypeId} (hh : w.heap[b]? = some (.cells cur e' (0, 0))) :
    e' = e ∧ (∀ cs ∈ els, cs.length = szP P e) ∧ els.length * szP P e ≤ cur.size ∧ ∀ (j k : Nat) cs x, els[j]? = some cs → cs[k]? = some x → ∃ u, cur[j * szP P e + k]? = some u ∧ RPV w R B x u := by
  rcases h with ⟨h1, _⟩ | ⟨b', cur', h1, h2, h3, h4, h5⟩
  · rw [hb] at h1; cases h1
  · rw [hb] at h1
    injection h1 with h1
    subst h1
    rw [hh] at h2
    injection h2 with h2
    injection h2 with h2 h6 h7
    subst h2
    subst h6
    exact ⟨rfl, h3, h4, h5⟩
end
end Go.Fw
end
section
set_option linter.unusedVariables false
set_option linter.unusedSimpArgs false
set_option linter.unnecessarySimpa false
namespace Go.Fw
section
variable {P : Program} {C : Ctx} {σ : Slots} {mm : Mem} {α : Type} {enc : α → List PV}
theorem PermO.poolR (h : ∀ a, PermPL (enc a)) {e : TypeId} (rows : List (List α)) : PermO (.pool e (rowsOf enc rows)) := fun els hels cs hcs p hp => by
  obtain ⟨r, _, rfl⟩ := List.mem_map.1 hels
  obtain ⟨a, _, rfl⟩ := List.mem_map.1 hcs
  exact (h a).spec p hp
theorem Ent.lens {n p : Nat} {e : TypeId} {lens lens' : List Nat} (he : lens = lens') (h : lk mm n = some (.trow e p lens)) : Ent P C σ mm σ ((n, .trow e p lens') :: mm) := fun R B g a w hs => by
  subst he
  exact ⟨R, B, g, hs.obj h (hs.ob n _ h)⟩
theorem ShC.ttrow {sh : Mem} {n p len : Nat} {e e2 : TypeId} {rows : List (List α)} {encL : List α → List PV} (hl : len = rows.length) (h1 : lk sh n = some (.trow e p (lensOf rows))) (h2 : lk sh p = some (.pool e2 (rowsOf enc rows))) (hE : ∀ r, encL r = [.xs false (r.map enc)]) : ShC sh (.loc n 0 len) (.pv (.xs false (rows.map encL))) := by
  subst hl
  have := ShC.trow h1 h2 (by simp [lensOf, rowsOf, Function.comp_def])
  rw [lensOf_len] at this
  have e1 : (rowsOf enc rows).map (fun r => [PV.xs false r]) = rows.map encL := by
    rw [rowsOf, List.map_map]
    exact List.map_congr_left fun r _ => (hE r).symm
  rwa [e1] at this
theorem Ent.poolE (p : Nat) (e2 : TypeId) (hd : C.pn.elem p = false) : Ent P C σ mm (junkSl [p] σ) ((p, .pool e2 []) :: junkM [p] mm) := fun R B g a w hs => by
  have hp1 := notin_of_elem hd
  have had : Adv R B g w [] [p] R B (upd g p (.pool [])) w := by
    refine ⟨hs.wf.upd p _ (Nat.le_refl _) (fun b hb => by cases hb) (fun i j b hi => by simp [GS.at] at hi), fun _ h => h, fun _ h => h, rfl, rfl, rfl, Nat.le_refl _, fun _ _ _ => rfl, fun q hq => upd_ne g _ (by simpa using hq), fun q hq b hb => ?_, fun q hq => by cases hq⟩
    have : q = p := by simpa using hq
    subst this
    rw [upd_same] at hb
    cases hb
  exact ⟨R, B, _, hs.step (us := []) (df := [(p, .pool e2 [])]) (W := []) (X := [p]) (d := none) (v := .tup []) (u := undef) trivial (fun _ h => by cases h) (fun q hq => by
      have : q = (p, .pool e2 []) := by simpa using hq
      subst this; exact .inl (by simp)) rfl (fun q hq => by
      have : q = p := by simpa using hq
      subst this; exact hp1) had (fun b hb => .inl hb) (fun h => by cases h) (one_ro ⟨⟨[], upd_same .., rfl⟩, fun k els hk => by simp at hk⟩)⟩
end
end Go.Fw
end
section
set_option linter.unusedVariables false
set_option linter.unusedSimpArgs false
set_option linter.unnecessarySimpa false
namespace Go.Fw
section
variable {P : Program} {o : Oper} {α : Type} {enc : α → List PV}
theorem len_snoc {β : Type} {l : List β} {x : β} : l.length + 1 = (l ++ [x]).length := by simp
end
end Go.Fw
end
section
set_option linter.unusedVariables false
set_option linter.unusedSimpArgs false
set_option linter.unnecessarySimpa false
namespace Go.Fw
inductive FrC (n : Nat) (els : List (List PV)) : CV → CV → Prop
  | same {x y : CV} (h : junkC [n] x = y) : FrC n els x y
  | fr {l : Nat} (h : l = els.length) : FrC n els (.loc n 0 l) (.pv (.xs true els))
inductive FrL (n : Nat) (els : List (List PV)) : List CV → List CV → Prop
  | nil : FrL n els [] []
  | cons {x y : CV} {xs ys : List CV} (h : FrC n els x y) (t : FrL n els xs ys) : FrL n els (x :: xs) (y :: ys)
inductive FrA (n : Nat) (els : List (List PV)) : AV → AV → Prop
  | same {x y : AV} (h : junkA [n] x = y) : FrA n els x y
  | c {x y : CV} (h : FrC n els x y) : FrA n els (.s (.c x)) (.s (.c y))
  | agg {xs ys : List CV} (h : FrL n els xs ys) : FrA n els (.s (.agg xs)) (.s (.agg ys))
inductive FrO (n : Nat) (els : List (List PV)) : Ob → Ob → Prop
  | same {x y : Ob} (h : junkO [n] x = y) : FrO n els x y
  | row {e : TypeId} {xs ys : List CV} (h : FrL n els xs ys) : FrO n els (.row e [xs]) (.row e [ys])
def FrSl (n : Nat) (els : List (List PV)) (σ : Slots) : Slots → Prop
  | [] => True
  | (t, v) :: r => (∃ x, lk σ t = some x ∧ FrA n els x v) ∧ FrSl n els σ r
def FrM (n : Nat) (els : List (List PV)) (m : Mem) : Mem → Prop
  | [] => True
  | (k, o) :: r => (Nat.beq k n = false ∧ ∃ x, lk m k = some x ∧ FrO n els x o) ∧ FrM n els m r
section
variable {P : Program} {C : Ctx} {σ σ' : Slots} {m m' : Mem} {n : Nat} {els : List (List PV)}
theorem FrSl.get : ∀ {σ' : Slots}, FrSl n els σ σ' → ∀ t v, lk σ' t = some v → ∃ x, lk σ t = some x ∧ FrA n els x v
  | [], _, t, v, h => by cases h
  | (k, v') :: r, h, t, v, hl => by
    change (bif Nat.beq k t then some v' else lk r t) = some v at hl
    cases hb : Nat.beq k t with
    | true =>
      rw [hb, cond_true] at hl
      injection hl with hl
      subst hl
      have := Nat.eq_of_beq_eq_true hb
      subst this
      exact h.1
    | false =>
      rw [hb, cond_false] at hl
      exact FrSl.get h.2 t v hl
theorem FrM.get : ∀ {m' : Mem}, FrM n els m m' → ∀ k o, lk m' k = some o → k ≠ n ∧ ∃ x, lk m k = some x ∧ FrO n els x o
  | [], _, t, v, h => by cases h
  | (k, v') :: r, h, t, v, hl => by
    change (bif Nat.beq k t then some v' else lk r t) = some v at hl
    cases hb : Nat.beq k t with
    | true =>
      rw [hb, cond_true] at hl
      injection hl with hl
      subst hl
      have := Nat.eq_of_beq_eq_true hb
      subst this
      exact ⟨Nat.ne_of_beq_eq_false h.1.1, h.1.2⟩
    | false =>
      rw [hb, cond_false] at hl
      exact FrM.get h.2 t v hl
theorem FrL.get {xs ys : List CV} (h : FrL n els xs ys) : xs.length = ys.length ∧ ∀ (k : Nat) y, ys[k]? = some y → ∃ x, xs[k]? = some x ∧ FrC n els x y := by
  induction h with
  | nil => exact ⟨rfl, fun k y h => by simp at h⟩
  | cons h _ ih =>
    refine ⟨by simp [ih.1], fun k y hk => ?_⟩
    cases k with
    | zero => simp at hk; subst hk; exact ⟨_, rfl, h⟩
    | succ k => exact ih.2 k y (by simpa using hk)
section
variable {w : World} {R B R' B' : Nat → Prop} {g g' : Nat → GS}
theorem FrC.rc (had : Adv R B g w [] [n] R' B' g' w) (hw : WF R B g w) (hv : ∀ v, RC P w R B g (.loc n 0 els.length) v → RPV w R' B' (.xs true els) v) {x y : CV} {v : Value} (h : FrC n els x y) (hx : RC P w R B g x v) : RC P w R' B' g' y v := by
  cases h with
  | same h => subst h; exact had.rc hw hx
  | fr h => subst h; exact ⟨hx.1, hv v hx⟩
theorem FrL.rl (had : Adv R B g w [] [n] R' B' g' w) (hw : WF R B g w) (hv : ∀ v, RC P w R B g (.loc n 0 els.length) v → RPV w R' B' (.xs true els) v) {xs ys : List CV} (h : FrL n els xs ys) {us : Nat → Option Value} (hx : ∀ (k : Nat) x, xs[k]? = some x → ∃ u, us k = some u ∧ RC P w R B g x u) :
    ∀ (k : Nat) y, ys[k]? = some y → ∃ u, us k = some u ∧ RC P w R' B' g' y u := fun k y hk => by
  obtain ⟨x, h1, h2⟩ := h.get.2 k y hk
  obtain ⟨u, h3, h4⟩ := hx k x h1
  exact ⟨u, h3, h2.rc had hw hv h4⟩
theorem FrA.ra (had : Adv R B g w [] [n] R' B' g' w) (hw : WF R B g w) (hv : ∀ v, RC P w R B g (.loc n 0 els.length) v → RPV w R' B' (.xs true els) v) {x y : AV} {v : Value} (h : FrA n els x y) (hx : RA P w R B g x v) : RA P w R' B' g' y v := by
  cases h with
  | same h => subst h; exact had.ra hw hx
  | c h => exact FrC.rc had hw hv h hx
  | agg h =>
    obtain ⟨vs, h1, h2, h3⟩ := hx
    exact ⟨vs, h1, h2.trans h.get.1, FrL.rl had hw hv h h3⟩
theorem FrO.ro (had : Adv R B g w [] [n] R' B' g' w) (hw : WF R B g w) (hv : ∀ v, RC P w R B g (.loc n 0 els.length) v → RPV w R' B' (.xs true els) v) {k : Nat} (hk : k ≠ n) {x y : Ob} (h : FrO n els x y) (hx : RO P w R B g k x) : RO P w R' B' g' k y := by
  cases h with
  | same h => subst h; exact had.ro hw (by simpa using hk) (by simp) hx
  | @row e xs ys h =>
    have hg : g' k = g k := had.names k (by simpa using hk)
    rcases hx with ⟨h1, h2⟩ | ⟨b, cur, h1, h2, h3, h4, h5⟩
    · cases h2
    · refine .inr ⟨b, cur, hg.trans h1, h2, fun cs hcs => ?_, h4, fun j i cs y hj hi => ?_⟩
      · have : cs = ys := by simpa using hcs
        subst this
        rw [← h.get.1]
        exact h3 xs (by simp)
      · cases j with
        | succ j => simp at hj
        | zero =>
          have : ys = cs := by simpa using hj
          subst this
          exact FrL.rl had hw hv h (us := fun i => cur[0 * szP P e + i]?) (fun i x hi => h5 0 i xs x rfl hi) i y hi
end
variable {α : Type} {enc : α → List PV}
end
end Go.Fw
end
section
set_option linter.unusedVariables false
set_option linter.unusedSimpArgs false
set_option linter.unnecessarySimpa false
namespace Go.Fw
abbrev xF {α : Type} (enc : α → List PV) (l : List α) : CV := .pv (.xs false (l.map enc))
abbrev xT {α : Type} (enc : α → List PV) (l : List α) : CV := .pv (.xs true (l.map enc))
abbrev lo (n len : Nat) : CV := .loc n 0 len
abbrev pR {α : Type} (e : TypeId) (enc : α → List PV) (l : List α) : Ob := .prow e (l.map enc)
section
variable {P : Program} {C : Ctx} {σ : Slots} {m : Mem} {is : List It} {τ υ : Type} {M : Option τ} {K : τ → Post} {ops : Array Oper} {l : List Oper} {done : List Ct} {rest : List Oper} {o : Oper}
theorem On (h : AWR P C is σ m M K) : AOR P C ops [] is σ m M K := AOR.nil h
theorem Ob' {x : Option υ} {f : υ → Option τ} (h : ∀ u, x = some u → AOR P C ops rest is σ m (f u) K) : AOR P C ops rest is σ m (x.bind f) K := AOR.bind h
theorem Ws {x y : Code} (h : AWR P C (.code x :: .code y :: is) σ m M K) : AWR P C (.code (.seq x y) :: is) σ m M K := AWR.seq h
theorem Wr {id : Nat} {l : List Oper} (h : AOR P C l.toArray l is σ m M K) : AWR P C (.code (.region id l.toArray false) :: is) σ m M K := AWR.region h
theorem Ok {j : Nat} {want : Bool} {d : Tmp} {c : Bool} (hg : o.guard = some (j, want)) (h1 : (ops[j]?).bind (·.dst) = some d) (h2 : lk σ d = some (Bv c)) (h3 : (c == want) = false) (hd : dstOk C.N o.dst = true) (h : AOR P C ops rest is (setD σ o.dst (.tup [])) m M K) : AOR P C ops (o :: rest) is σ m M K :=
  AOR.skip (by unfold GuardIs; rw [hg]; exact ⟨d, h1, .inl ⟨c, h2, h3.symm⟩⟩) hd h
theorem Oj {j : Nat} {want : Bool} {d : Tmp} (hg : o.guard = some (j, want)) (h1 : (ops[j]?).bind (·.dst) = some d) (h2 : lk σ d = some (.tup [])) (hd : dstOk C.N o.dst = true) (h : AOR P C ops rest is (setD σ o.dst (.tup [])) m M K) : AOR P C ops (o :: rest) is σ m M K :=
  AOR.skip (by unfold GuardIs; rw [hg]; exact ⟨d, h1, .inr ⟨h2, rfl⟩⟩) hd h
theorem Op00   {v : AV} (hlt : LT P o [] [] v [] [] [])   (hg : GuardIs ops σ o true) (hd : dstOk C.N o.dst = true) (h : AOR P C ops rest is (setD σ o.dst v) m M K) : AOR P C ops (o :: rest) is σ m M K := AOR.pure hlt trivial trivial hg hd h
theorem Os00   {v : AV} {df : Mem} {W X : List Nat} (hlt : LT P o [] [] v df W X)   (hg : GuardIs ops σ o true) (hs : (dstOk C.N o.dst && subL W (X ++ keys df) && subL W (keys ([] : Mem)) && subL (keys df) (X ++ W) && disL X C.pn) = true) (h : AOR P C ops rest is (setD (junkSl X σ) o.dst v) (df ++ junkM X m) M K) : AOR P C ops (o :: rest) is σ m M K := AOR.step hlt trivial trivial hg hs h
theorem Ds00   {v : AV} {df : Mem} {W X : List Nat} (hlt : LT P o [] [] v df W X)   (hg : GuardIs l.toArray σ o true) (hs : (dstOk C.N o.dst && subL W (X ++ keys df) && subL W (keys ([] : Mem)) && subL (keys df) (X ++ W) && disL X C.pn) = true) (h : AOD P C l (⟨[], [], v, df, W, X, true⟩ :: done) rest is (setD (junkSl X σ) o.dst v) (df ++ junkM X m) M K) : AOD P C l done (o :: rest) is σ m M K := AOD.step hlt trivial trivial hg hs h
theorem Op10 {x0 : Operand} {v0 : AV}  {v : AV} (hlt : LT P o [(x0, v0)] [] v [] [] []) (e0 : EvO σ x0 v0)  (hg : GuardIs ops σ o true) (hd : dstOk C.N o.dst = true) (h : AOR P C ops rest is (setD σ o.dst v) m M K) : AOR P C ops (o :: rest) is σ m M K := AOR.pure hlt ⟨e0, trivial⟩ trivial hg hd h
theorem Os10 {x0 : Operand} {v0 : AV}  {v : AV} {df : Mem} {W X : List Nat} (hlt : LT P o [(x0, v0)] [] v df W X) (e0 : EvO σ x0 v0)  (hg : GuardIs ops σ o true) (hs : (dstOk C.N o.dst && subL W (X ++ keys df) && subL W (keys ([] : Mem)) && subL (keys df) (X ++ W) && disL X C.pn) = true) (h : AOR P C ops rest is (setD (junkSl X σ) o.dst v) (df ++ junkM X m) M K) : AOR P C ops (o :: rest) is σ m M K := AOR.step hlt ⟨e0, trivial⟩ trivial hg hs h
theorem Dp10 {x0 : Operand} {v0 : AV}  {v : AV} (hlt : LT P o [(x0, v0)] [] v [] [] []) (e0 : EvO σ x0 v0)  (hg : GuardIs l.toArray σ o true) (hd : dstOk C.N o.dst = true) (h : AOD P C l (⟨[(x0, v0)], [], v, [], [], [], true⟩ :: done) rest is (setD σ o.dst v) m M K) : AOD P C l done (o :: rest) is σ m M K := AOD.pure hlt ⟨e0, trivial⟩ trivial hg hd h
theorem Ds10 {x0 : Operand} {v0 : AV}  {v : AV} {df : Mem} {W X : List Nat} (hlt : LT P o [(x0, v0)] [] v df W X) (e0 : EvO σ x0 v0)  (hg : GuardIs l.toArray σ o true) (hs : (dstOk C.N o.dst && subL W (X ++ keys df) && subL W (keys ([] : Mem)) && subL (keys df) (X ++ W) && disL X C.pn) = true) (h : AOD P C l (⟨[(x0, v0)], [], v, df, W, X, true⟩ :: done) rest is (setD (junkSl X σ) o.dst v) (df ++ junkM X m) M K) : AOD P C l done (o :: rest) is σ m M K := AOD.step hlt ⟨e0, trivial⟩ trivial hg hs h
theorem Op11 {x0 : Operand} {v0 : AV} {n0 : Nat} {o0 : Ob} {v : AV} (hlt : LT P o [(x0, v0)] [(n0, o0)] v [] [] []) (e0 : EvO σ x0 v0) (l0 : lk m n0 = some o0) (hg : GuardIs ops σ o true) (hd : dstOk C.N o.dst = true) (h : AOR P C ops rest is (setD σ o.dst v) m M K) : AOR P C ops (o :: rest) is σ m M K := AOR.pure hlt ⟨e0, trivial⟩ ⟨l0, trivial⟩ hg hd h
theorem Dp11 {x0 : Operand} {v0 : AV} {n0 : Nat} {o0 : Ob} {v : AV} (hlt : LT P o [(x0, v0)] [(n0, o0)] v [] [] []) (e0 : EvO σ x0 v0) (l0 : lk m n0 = some o0) (hg : GuardIs l.toArray σ o true) (hd : dstOk C.N o.dst = true) (h : AOD P C l (⟨[(x0, v0)], [(n0, o0)], v, [], [], [], true⟩ :: done) rest is (setD σ o.dst v) m M K) : AOD P C l done (o :: rest) is σ m M K := AOD.pure hlt ⟨e0, trivial⟩ ⟨l0, trivial⟩ hg hd h
theorem Op20 {x0 : Operand} {v0 : AV} {x1 : Operand} {v1 : AV}  {v : AV} (hlt : LT P o [(x0, v0), (x1, v1)] [] v [] [] []) (e0 : EvO σ x0 v0) (e1 : EvO σ x1 v1)  (hg : GuardIs ops σ o true) (hd : dstOk C.N o.dst = true) (h : AOR P C ops rest is (setD σ o.dst v) m M K) : AOR P C ops (o :: rest) is σ m M K := AOR.pure hlt ⟨e0, e1, trivial⟩ trivial hg hd h
theorem Os20 {x0 : Operand} {v0 : AV} {x1 : Operand} {v1 : AV}  {v : AV} {df : Mem} {W X : List Nat} (hlt : LT P o [(x0, v0), (x1, v1)] [] v df W X) (e0 : EvO σ x0 v0) (e1 : EvO σ x1 v1)  (hg : GuardIs ops σ o true) (hs : (dstOk C.N o.dst && subL W (X ++ keys df) && subL W (keys ([] : Mem)) && subL (keys df) (X ++ W) && disL X C.pn) = true) (h : AOR P C ops rest is (setD (junkSl X σ) o.dst v) (df ++ junkM X m) M K) : AOR P C ops (o :: rest) is σ m M K := AOR.step hlt ⟨e0, e1, trivial⟩ trivial hg hs h
theorem Dp20 {x0 : Operand} {v0 : AV} {x1 : Operand} {v1 : AV}  {v : AV} (hlt : LT P o [(x0, v0), (x1, v1)] [] v [] [] []) (e0 : EvO σ x0 v0) (e1 : EvO σ x1 v1)  (hg : GuardIs l.toArray σ o true) (hd : dstOk C.N o.dst = true) (h : AOD P C l (⟨[(x0, v0), (x1, v1)], [], v, [], [], [], true⟩ :: done) rest is (setD σ o.dst v) m M K) : AOD P C l done (o :: rest) is σ m M K := AOD.pure hlt ⟨e0, e1, trivial⟩ trivial hg hd h
theorem Op21 {x0 : Operand} {v0 : AV} {x1 : Operand} {v1 : AV} {n0 : Nat} {o0 : Ob} {v : AV} (hlt : LT P o [(x0, v0), (x1, v1)] [(n0, o0)] v [] [] []) (e0 : EvO σ x0 v0) (e1 : EvO σ x1 v1) (l0 : lk m n0 = some o0) (hg : GuardIs ops σ o true) (hd : dstOk C.N o.dst = true) (h : AOR P C ops rest is (setD σ o.dst v) m M K) : AOR P C ops (o :: rest) is σ m M K := AOR.pure hlt ⟨e0, e1, trivial⟩ ⟨l0, trivial⟩ hg hd h
theorem Os21 {x0 : Operand} {v0 : AV} {x1 : Operand} {v1 : AV} {n0 : Nat} {o0 : Ob} {v : AV} {df : Mem} {W X : List Nat} (hlt : LT P o [(x0, v0), (x1, v1)] [(n0, o0)] v df W X) (e0 : EvO σ x0 v0) (e1 : EvO σ x1 v1) (l0 : lk m n0 = some o0) (hg : GuardIs ops σ o true) (hs : (dstOk C.N o.dst && subL W (X ++ keys df) && subL W (keys [(n0, o0)]) && subL (keys df) (X ++ W) && disL X C.pn) = true) (h : AOR P C ops rest is (setD (junkSl X σ) o.dst v) (df ++ junkM X m) M K) : AOR P C ops (o :: rest) is σ m M K := AOR.step hlt ⟨e0, e1, trivial⟩ ⟨l0, trivial⟩ hg hs h
theorem Dp21 {x0 : Operand} {v0 : AV} {x1 : Operand} {v1 : AV} {n0 : Nat} {o0 : Ob} {v : AV} (hlt : LT P o [(x0, v0), (x1, v1)] [(n0, o0)] v [] [] []) (e0 : EvO σ x0 v0) (e1 : EvO σ x1 v1) (l0 : lk m n0 = some o0) (hg : GuardIs l.toArray σ o true) (hd : dstOk C.N o.dst = true) (h : AOD P C l (⟨[(x0, v0), (x1, v1)], [(n0, o0)], v, [], [], [], true⟩ :: done) rest is (setD σ o.dst v) m M K) : AOD P C l done (o :: rest) is σ m M K := AOD.pure hlt ⟨e0, e1, trivial⟩ ⟨l0, trivial⟩ hg hd h
theorem Ds21 {x0 : Operand} {v0 : AV} {x1 : Operand} {v1 : AV} {n0 : Nat} {o0 : Ob} {v : AV} {df : Mem} {W X : List Nat} (hlt : LT P o [(x0, v0), (x1, v1)] [(n0, o0)] v df W X) (e0 : EvO σ x0 v0) (e1 : EvO σ x1 v1) (l0 : lk m n0 = some o0) (hg : GuardIs l.toArray σ o true) (hs : (dstOk C.N o.dst && subL W (X ++ keys df) && subL W (keys [(n0, o0)]) && subL (keys df) (X ++ W) && disL X C.pn) = true) (h : AOD P C l (⟨[(x0, v0), (x1, v1)], [(n0, o0)], v, df, W, X, true⟩ :: done) rest is (setD (junkSl X σ) o.dst v) (df ++ junkM X m) M K) : AOD P C l done (o :: rest) is σ m M K := AOD.step hlt ⟨e0, e1, trivial⟩ ⟨l0, trivial⟩ hg hs h
theorem Os22 {x0 : Operand} {v0 : AV} {x1 : Operand} {v1 : AV} {n0 : Nat} {o0 : Ob} {n1 : Nat} {o1 : Ob} {v : AV} {df : Mem} {W X : List Nat} (hlt : LT P o [(x0, v0), (x1, v1)] [(n0, o0), (n1, o1)] v df W X) (e0 : EvO σ x0 v0) (e1 : EvO σ x1 v1) (l0 : lk m n0 = some o0) (l1 : lk m n1 = some o1) (hg : GuardIs ops σ o true) (hs : (dstOk C.N o.dst && subL W (X ++ keys df) && subL W (keys [(n0, o0), (n1, o1)]) && subL (keys df) (X ++ W) && disL X C.pn) = true) (h : AOR P C ops rest is (setD (junkSl X σ) o.dst v) (df ++ junkM X m) M K) : AOR P C ops (o :: rest) is σ m M K := AOR.step hlt ⟨e0, e1, trivial⟩ ⟨l0, l1, trivial⟩ hg hs h
theorem Ds22 {x0 : Operand} {v0 : AV} {x1 : Operand} {v1 : AV} {n0 : Nat} {o0 : Ob} {n1 : Nat} {o1 : Ob} {v : AV} {df : Mem} {W X : List Nat} (hlt : LT P o [(x0, v0), (x1, v1)] [(n0, o0), (n1, o1)] v df W X) (e0 : EvO σ x0 v0) (e1 : EvO σ x1 v1) (l0 : lk m n0 = some o0) (l1 : lk m n1 = some o1) (hg : GuardIs l.toArray σ o true) (hs : (dstOk C.N o.dst && subL W (X ++ keys df) && subL W (keys [(n0, o0), (n1, o1)]) && subL (keys df) (X ++ W) && disL X C.pn) = true) (h : AOD P C l (⟨[(x0, v0), (x1, v1)], [(n0, o0), (n1, o1)], v, df, W, X, true⟩ :: done) rest is (setD (junkSl X σ) o.dst v) (df ++ junkM X m) M K) : AOD P C l done (o :: rest) is σ m M K := AOD.step hlt ⟨e0, e1, trivial⟩ ⟨l0, l1, trivial⟩ hg hs h
theorem Op30 {x0 : Operand} {v0 : AV} {x1 : Operand} {v1 : AV} {x2 : Operand} {v2 : AV}  {v : AV} (hlt : LT P o [(x0, v0), (x1, v1), (x2, v2)] [] v [] [] []) (e0 : EvO σ x0 v0) (e1 : EvO σ x1 v1) (e2 : EvO σ x2 v2)  (hg : GuardIs ops σ o true) (hd : dstOk C.N o.dst = true) (h : AOR P C ops rest is (setD σ o.dst v) m M K) : AOR P C ops (o :: rest) is σ m M K := AOR.pure hlt ⟨e0, e1, e2, trivial⟩ trivial hg hd h
theorem Dp30 {x0 : Operand} {v0 : AV} {x1 : Operand} {v1 : AV} {x2 : Operand} {v2 : AV}  {v : AV} (hlt : LT P o [(x0, v0), (x1, v1), (x2, v2)] [] v [] [] []) (e0 : EvO σ x0 v0) (e1 : EvO σ x1 v1) (e2 : EvO σ x2 v2)  (hg : GuardIs l.toArray σ o true) (hd : dstOk C.N o.dst = true) (h : AOD P C l (⟨[(x0, v0), (x1, v1), (x2, v2)], [], v, [], [], [], true⟩ :: done) rest is (setD σ o.dst v) m M K) : AOD P C l done (o :: rest) is σ m M K := AOD.pure hlt ⟨e0, e1, e2, trivial⟩ trivial hg hd h
theorem Os31 {x0 : Operand} {v0 : AV} {x1 : Operand} {v1 : AV} {x2 : Operand} {v2 : AV} {n0 : Nat} {o0 : Ob} {v : AV} {df : Mem} {W X : List Nat} (hlt : LT P o [(x0, v0), (x1, v1), (x2, v2)] [(n0, o0)] v df W X) (e0 : EvO σ x0 v0) (e1 : EvO σ x1 v1) (e2 : EvO σ x2 v2) (l0 : lk m n0 = some o0) (hg : GuardIs ops σ o true) (hs : (dstOk C.N o.dst && subL W (X ++ keys df) && subL W (keys [(n0, o0)]) && subL (keys df) (X ++ W) && disL X C.pn) = true) (h : AOR P C ops rest is (setD (junkSl X σ) o.dst v) (df ++ junkM X m) M K) : AOR P C ops (o :: rest) is σ m M K := AOR.step hlt ⟨e0, e1, e2, trivial⟩ ⟨l0, trivial⟩ hg hs h
theorem Os40 {x0 : Operand} {v0 : AV} {x1 : Operand} {v1 : AV} {x2 : Operand} {v2 : AV} {x3 : Operand} {v3 : AV}  {v : AV} {df : Mem} {W X : List Nat} (hlt : LT P o [(x0, v0), (x1, v1), (x2, v2), (x3, v3)] [] v df W X) (e0 : EvO σ x0 v0) (e1 : EvO σ x1 v1) (e2 : EvO σ x2 v2) (e3 : EvO σ x3 v3)  (hg : GuardIs ops σ o true) (hs : (dstOk C.N o.dst && subL W (X ++ keys df) && subL W (keys ([] : Mem)) && subL (keys df) (X ++ W) && disL X C.pn) = true) (h : AOR P C ops rest is (setD (junkSl X σ) o.dst v) (df ++ junkM X m) M K) : AOR P C ops (o :: rest) is σ m M K := AOR.step hlt ⟨e0, e1, e2, e3, trivial⟩ trivial hg hs h
theorem mv (v : AV) {x : Operand} (ho : o.op = .move x) (e : EvO σ x v) (hg : GuardIs ops σ o true) (hd : dstOk C.N o.dst = true) (h : AOR P C ops rest is (setD σ o.dst v) m M K) : AOR P C ops (o :: rest) is σ m M K := AOR.pure (LT.move ho) ⟨e, trivial⟩ trivial hg hd h
theorem asg (v : AV) {x : Operand} (ho : o.op = .assign x) (e : EvO σ x v) (hg : GuardIs ops σ o true) (hd : dstOk C.N o.dst = true) (h : AOR P C ops rest is (setD σ o.dst v) m M K) : AOR P C ops (o :: rest) is σ m M K := AOR.pure (LT.assign ho) ⟨e, trivial⟩ trivial hg hd h
theorem en (σ' : Slots) (m' : Mem) (h1 : SubS σ' σ) (h2 : SubM m' m) (k : AWR P C is σ' m' M K) : AWR P C is σ m M K := AWR.ent (Ent.of h1 h2) k
end
end Go.Fw
end
section
set_option linter.unusedVariables false
set_option linter.unusedSimpArgs false
set_option linter.unnecessarySimpa false
set_option maxRecDepth 100000
set_option maxHeartbeats 8000000
open Go Go.Fw
namespace Go.Proofs.Yteognanhfpbghaa
structure TBar where
  mk ::
  A : Int
  B : Int
structure TGraph where
  mk ::
  Points : Int
  Bars : (List TBar)
structure TPlace where
  mk ::
  X : Int
  Y : Int
structure TFramework where
  mk ::
  Graph : TGraph
  Places : (List TPlace)
structure TPebbles where
  mk ::
  Free : (List Int)
  Tails : (List Int)
  Placed : (List Int)
structure Tl1Cur where
  mk ::
  b : (List Int)
  i : Int
  h : Int
def encTBar (a : TBar) : List PV := [.sc (.int .i64 a.A), .sc (.int .i64 a.B)]
theorem perm_encTBar (a : TBar) : PermPL (encTBar a) := ⟨.sc, .sc, trivial⟩
def encInt (a : Int) : List PV := [.sc (.int .i64 a)]
theorem perm_encInt (a : Int) : PermPL (encInt a) := ⟨.sc, trivial⟩
theorem qw_encInt (a : Int) : QWL (encInt a) (encInt a) := ⟨.sc, trivial⟩
def encBool (a : Bool) : List PV := [.sc (.bool a)]
theorem perm_encBool (a : Bool) : PermPL (encBool a) := ⟨.sc, trivial⟩
def encInt_u8 (a : Int) : List PV := [.sc (.int .u8 a)]
theorem perm_encInt_u8 (a : Int) : PermPL (encInt_u8 a) := ⟨.sc, trivial⟩
theorem qw_encInt_u8 (a : Int) : QWL (encInt_u8 a) (encInt_u8 a) := ⟨.sc, trivial⟩
def encLInt (q : Bool) (a : (List Int)) : List PV := [.xs q (a.map encInt)]
theorem perm_encLInt (a : (List Int)) : PermPL (encLInt true a) := ⟨permP_xs perm_encInt _, trivial⟩
theorem qw_encLInt (a : (List Int)) : QWL (encLInt true a) (encLInt false a) := ⟨QW.xsm qw_encInt (fun h => by cases h) _, trivial⟩
def m_spec_l1In (x : Int) (low : Int) (high : Int) : Option Bool :=
(((
(bif (decide (low ≤ x)) then
 some (decide (x ≤ high))
 else
 some false
)
) : Option Bool).bind (fun j2 =>
 some j2
))
def m_spec_l2After (a : TBar) (b : TBar) : Option Bool :=
(((
(bif (decide (a.A < b.A)) then
 some true
 else
(bif (a.A == b.A) then
 some (decide (a.B ≤ b.B))
 else
 some false
)
)
) : Option Bool).bind (fun j3 =>
 some j3
))
def m_spec_IsGraph_L1 (g : TGraph) (s7 : Int) : Option (Int ⊕ (Unit ⊕ Bool)) :=
(bif (decide (s7 < (g.Bars.length : Int))) then
(idx g.Bars s7).bind (fun x42 =>
(((
(bif (decide (x42.A < 0)) then
 some true
 else
(bif (decide (x42.B ≤ x42.A)) then
 some true
 else
(bif (decide (g.Points ≤ x42.B)) then
 some true
 else
(bif (decide (0 < s7)) then
(idx g.Bars (w64 (s7 - 1))).bind (fun x54 =>
(m_spec_l2After x54 x42).bind (fun r55 =>
 some (!r55)
)
)
 else
 some false
)
)
)
)
) : Option Bool).bind (fun j49 =>
(bif j49 then
 some (.inr (.inr false))
 else
 some (.inl (w64 (s7 + 1)))
)
))
)
 else
 some (.inr (.inl ()))
)
def m_spec_IsGraph (g : TGraph) : Option Bool :=
(((
(m_spec_l1In g.Points 1 8).bind (fun r4 =>
(bif (!r4) then
 some true
 else
 some (decide (24 < (g.Bars.length : Int)))
)
)
) : Option Bool).bind (fun j3 =>
(bif j3 then
 some false
 else
((loopM (m_spec_IsGraph_L1 g) BIG 0).bind (Sum.elim (fun b40 => (
 some true
)) (fun r => some r)))
)
))
def m_spec_l2Copy (g : TGraph) : Option TGraph :=
(lim (([] : List TBar).length + g.Bars.length)).bind (fun u1 =>
 some (TGraph.mk g.Points (([] : List TBar) ++ g.Bars))
)
def m_spec_EqualGraphs_L1 (a : TGraph) (b : TGraph) (s5 : Int) : Option (Int ⊕ (Unit ⊕ Bool)) :=
(bif (decide (s5 < (a.Bars.length : Int))) then
(idx a.Bars s5).bind (fun x16 =>
(idx b.Bars s5).bind (fun x17 =>
(bif (!(eqI [x16.A, x16.B] [x17.A, x17.B])) then
 some (.inr (.inr false))
 else
 some (.inl (w64 (s5 + 1)))
)
)
)
 else
 some (.inr (.inl ()))
)
def m_spec_EqualGraphs (a : TGraph) (b : TGraph) : Option Bool :=
(((
(bif (a.Points != b.Points) then
 some true
 else
 some ((a.Bars.length : Int) != (b.Bars.length : Int))
)
) : Option Bool).bind (fun j2 =>
(bif j2 then
 some false
 else
((loopM (m_spec_EqualGraphs_L1 a b) BIG 0).bind (Sum.elim (fun b14 => (
 some true
)) (fun r => some r)))
)
))
def m_impl_within (x : Int) (loV : Int) (hi : Int) : Option Bool :=
(((
(bif (decide (loV ≤ x)) then
 some (decide (x ≤ hi))
 else
 some false
)
) : Option Bool).bind (fun j2 =>
 some j2
))
def m_impl_compareInts (a : Int) (b : Int) : Option Int :=
(bif (decide (a < b)) then
 some (-1)
 else
(bif (decide (b < a)) then
 some 1
 else
 some 0
)
)
def m_impl_compareBars (x : TBar) (y : TBar) : Option Int :=
(m_impl_compareInts x.A y.A).bind (fun r1 =>
(bif (r1 != 0) then
 some r1
 else
(m_impl_compareInts x.B y.B).bind (fun r3 =>
 some r3
)
)
)
def m_impl_IsGraph_L1 (g : TGraph) (s7 : Int) : Option (Int ⊕ (Unit ⊕ Bool)) :=
(bif (decide (s7 < (g.Bars.length : Int))) then
(idx g.Bars s7).bind (fun x42 =>
(((
(bif (decide (x42.A < 0)) then
 some true
 else
(bif (decide (x42.B ≤ x42.A)) then
 some true
 else
(bif (decide (g.Points ≤ x42.B)) then
 some true
 else
(bif (decide (0 < s7)) then
(idx g.Bars (w64 (s7 - 1))).bind (fun x54 =>
(m_impl_compareBars x54 x42).bind (fun r55 =>
 some (decide (0 < r55))
)
)
 else
 some false
)
)
)
)
) : Option Bool).bind (fun j49 =>
(bif j49 then
 some (.inr (.inr false))
 else
 some (.inl (w64 (s7 + 1)))
)
))
)
 else
 some (.inr (.inl ()))
)
def m_impl_IsGraph (g : TGraph) : Option Bool :=
(((
(m_impl_within g.Points 1 8).bind (fun r4 =>
(bif (!r4) then
 some true
 else
 some (decide (24 < (g.Bars.length : Int)))
)
)
) : Option Bool).bind (fun j3 =>
(bif j3 then
 some false
 else
((loopM (m_impl_IsGraph_L1 g) BIG 0).bind (Sum.elim (fun b40 => (
 some true
)) (fun r => some r)))
)
))
def m_impl_copyGraph (g : TGraph) : Option TGraph :=
(lim (([] : List TBar).length + g.Bars.length)).bind (fun u1 =>
 some (TGraph.mk g.Points (([] : List TBar) ++ g.Bars))
)
def m_spec_l2Has_L1 (l : (List Int)) (x : Int) (s1 : Int) : Option (Int ⊕ (Unit ⊕ Bool)) :=
(bif (decide (s1 < (l.length : Int))) then
(idx l s1).bind (fun x10 =>
(bif (x10 == x) then
 some (.inr (.inr true))
 else
 some (.inl (w64 (s1 + 1)))
)
)
 else
 some (.inr (.inl ()))
)
def m_spec_l2Has (l : (List Int)) (x : Int) : Option Bool :=
((loopM (m_spec_l2Has_L1 l x) BIG 0).bind (Sum.elim (fun b8 => (
 some false
)) (fun r => some r)))
def m_spec_l17Simple_L1 (g : TGraph) (s1 : Int) : Option (Int ⊕ (Unit ⊕ Bool)) :=
(bif (decide (s1 < (g.Bars.length : Int))) then
(idx g.Bars (w64 (s1 - 1))).bind (fun x12 =>
(idx g.Bars s1).bind (fun x13 =>
(bif (eqI [x12.A, x12.B] [x13.A, x13.B]) then
 some (.inr (.inr false))
 else
 some (.inl (w64 (s1 + 1)))
)
)
)
 else
 some (.inr (.inl ()))
)
def m_spec_l17Simple (g : TGraph) : Option Bool :=
((loopM (m_spec_l17Simple_L1 g) BIG 1).bind (Sum.elim (fun b10 => (
(m_spec_IsGraph g).bind (fun r15 =>
 some r15
)
)) (fun r => some r)))
def m_spec_l2Put_L1 (g : TGraph) (x : TBar) (s1 : (Bool × Int × (List TBar))) : Option ((Bool × Int × (List TBar)) ⊕ (Bool × (List TBar))) :=
(bif (decide (s1.2.1 < (g.Bars.length : Int))) then
(((
(bif (!s1.1) then
(idx g.Bars s1.2.1).bind (fun x36 =>
(m_spec_l2After x36 x).bind (fun r37 =>
 some (!r37)
)
)
 else
 some false
)
) : Option Bool).bind (fun j34 =>
(((
(bif j34 then
(lim (s1.2.2.length + [x].length)).bind (fun u42 =>
 some (true, (s1.2.2 ++ [x]))
)
 else
 some (s1.1, s1.2.2)
)
) : Option (Bool × (List TBar))).bind (fun j40 =>
(idx g.Bars s1.2.1).bind (fun x43 =>
(lim (j40.2.length + [x43].length)).bind (fun u44 =>
 some (.inl (j40.1, (w64 (s1.2.1 + 1)), (j40.2 ++ [x43])))
)
)
))
))
 else
 some (.inr (s1.1, s1.2.2))
)
def m_spec_l2Put (g : TGraph) (x : TBar) : Option TGraph :=
((loopM (m_spec_l2Put_L1 g x) BIG (false, 0, ([] : List TBar))).bind (fun b29 =>
(((
(bif (!b29.1) then
(lim (b29.2.length + [x].length)).bind (fun u49 =>
 some (b29.2 ++ [x])
)
 else
 some b29.2
)
) : Option (List TBar)).bind (fun j47 =>
 some (TGraph.mk g.Points j47)
))
))
def m_spec_NewPebbles_L1 (g : TGraph) (k : Int) (s9 : (Int × (List Int))) : Option ((Int × (List Int)) ⊕ (List Int)) :=
(bif (decide (s9.1 < g.Points)) then
(lim (s9.2.length + ([k] : List Int).length)).bind (fun u16 =>
 some (.inl ((w64 (s9.1 + 1)), (s9.2 ++ ([k] : List Int))))
)
 else
 some (.inr s9.2)
)
def m_spec_NewPebbles (g : TGraph) (k : Int) : Option (TPebbles × Bool) :=
(((
(m_spec_IsGraph g).bind (fun r5 =>
(bif (!r5) then
 some true
 else
(m_spec_l1In k 1 3).bind (fun r7 =>
 some (!r7)
)
)
)
) : Option Bool).bind (fun j4 =>
(bif j4 then
 some ((TPebbles.mk ([] : List Int) ([] : List Int) ([] : List Int)), false)
 else
((loopM (m_spec_NewPebbles_L1 g k) BIG (0, ([] : List Int))).bind (fun b14 =>
 some ((TPebbles.mk b14 ([] : List Int) ([] : List Int)), true)
))
)
))
def m_spec_l4Copy (p : TPebbles) : Option TPebbles :=
(lim (([] : List Int).length + p.Free.length)).bind (fun u1 =>
(lim (([] : List Int).length + p.Tails.length)).bind (fun u2 =>
(lim (([] : List Int).length + p.Placed.length)).bind (fun u3 =>
 some (TPebbles.mk (([] : List Int) ++ p.Free) (([] : List Int) ++ p.Tails) (([] : List Int) ++ p.Placed))
)
)
)
def m_spec_l4Other (b : TBar) (v : Int) : Option Int :=
 some (w64 ((w64 (b.A + b.B)) - v))
def m_spec_l4Shift_L1 (g : TGraph) (p : TPebbles) (fromV : (List Int)) (a : Int) (u : Int) (r1 : TPebbles) (x2 : Int) (x4 : Int) (s6 : (Int × (List Int))) : Option ((Int × (List Int)) ⊕ ((List Int) × (List Int) × (List Int))) :=
(bif (s6.1 != a) then
(idx fromV s6.1).bind (fun x21 =>
(idx p.Placed x21).bind (fun x22 =>
(idx g.Bars x22).bind (fun x23 =>
(m_spec_l4Other x23 s6.1).bind (fun r24 =>
(idx s6.2 x21).bind (fun x25 =>
 some (.inl (r24, (s6.2.set x21.toNat s6.1)))
)
)
)
)
)
 else
 some (.inr (((r1.Free.set u.toNat (w64 (x2 - 1))).set a.toNat (w64 (x4 + 1))), s6.2, r1.Placed))
)
def m_spec_l4Shift (g : TGraph) (p : TPebbles) (fromV : (List Int)) (a : Int) (u : Int) : Option TPebbles :=
(m_spec_l4Copy p).bind (fun r1 =>
(idx r1.Free u).bind (fun x2 =>
(idx r1.Free u).bind (fun x3 =>
(idx (r1.Free.set u.toNat (w64 (x2 - 1))) a).bind (fun x4 =>
(idx (r1.Free.set u.toNat (w64 (x2 - 1))) a).bind (fun x5 =>
((loopM (m_spec_l4Shift_L1 g p fromV a u r1 x2 x4) BIG (u, r1.Tails)).bind (fun b19 =>
 some (TPebbles.mk b19.1 b19.2.1 b19.2.2)
))
)
)
)
)
)
def m_spec_l4Find_L1 (g : TGraph) (s2 : (Int × (List Int))) : Option ((Int × (List Int)) ⊕ (List Int)) :=
(bif (decide (s2.1 < g.Points)) then
(idx s2.2 s2.1).bind (fun x9 =>
 some (.inl ((w64 (s2.1 + 1)), (s2.2.set s2.1.toNat (-1))))
)
 else
 some (.inr s2.2)
)
def m_spec_l4Find_L5 (g : TGraph) (p : TPebbles) (a : Int) (b : Int) (s12 : (Int × (List Int) × (List Int) × (List Bool))) (x95 : Int) (s96 : (Int × (List Int) × (List Int) × (List Bool))) : Option ((Int × (List Int) × (List Int) × (List Bool)) ⊕ ((Int × (List Int) × (List Int) × (List Bool)) ⊕ (TPebbles × Bool))) :=
(bif (decide (s96.1 < (p.Placed.length : Int))) then
(idx p.Tails s96.1).bind (fun x135 =>
(bif (x135 != x95) then
 some (.inl ((w64 (s96.1 + 1)), s96.2.1, s96.2.2.1, s96.2.2.2))
 else
(idx p.Placed s96.1).bind (fun x137 =>
(idx g.Bars x137).bind (fun x138 =>
(m_spec_l4Other x138 x95).bind (fun r139 =>
(idx s96.2.2.2 r139).bind (fun x140 =>
(bif x140 then
 some (.inl ((w64 (s96.1 + 1)), s96.2.1, s96.2.2.1, s96.2.2.2))
 else
(idx s96.2.2.2 r139).bind (fun x142 =>
(idx s96.2.1 r139).bind (fun x143 =>
(((
(bif (r139 != b) then
(idx p.Free r139).bind (fun x148 =>
 some (decide (0 < x148))
)
 else
 some false
)
) : Option Bool).bind (fun j146 =>
(bif j146 then
(m_spec_l4Shift g p (s96.2.1.set r139.toNat s96.1) a r139).bind (fun r150 =>
 some (.inr (.inr (r150, true)))
)
 else
(lim (s96.2.2.1.length + ([r139] : List Int).length)).bind (fun u151 =>
 some (.inl ((w64 (s96.1 + 1)), (s96.2.1.set r139.toNat s96.1), (s96.2.2.1 ++ ([r139] : List Int)), (s96.2.2.2.set r139.toNat true)))
)
)
))
)
)
)
)
)
)
)
)
)
 else
 some (.inr (.inl (s12.1, s96.2.1, s96.2.2.1, s96.2.2.2)))
)
def m_spec_l4Find_L4 (g : TGraph) (p : TPebbles) (a : Int) (b : Int) (s12 : (Int × (List Int) × (List Int) × (List Bool))) : Option ((Int × (List Int) × (List Int) × (List Bool)) ⊕ (Unit ⊕ (TPebbles × Bool))) :=
(bif (decide (s12.1 < (s12.2.2.1.length : Int))) then
(idx s12.2.2.1 s12.1).bind (fun x95 =>
((loopM (m_spec_l4Find_L5 g p a b s12 x95) BIG (0, s12.2.1, s12.2.2.1, s12.2.2.2)).bind (Sum.elim (fun b133 => (
 some (.inl ((w64 (b133.1 + 1)), b133.2.1, b133.2.2.1, b133.2.2.2))
)) (fun r => some (.inr (.inr r)))))
)
 else
 some (.inr (.inl ()))
)
def m_spec_l4Find (g : TGraph) (p : TPebbles) (a : Int) (b : Int) : Option (TPebbles × Bool) :=
(lenOk g.Points).bind (fun u1 =>
((loopM (m_spec_l4Find_L1 g) BIG (0, (List.replicate g.Points.toNat (0 : Int)))).bind (fun b7 =>
(lenOk g.Points).bind (fun u10 =>
(idx (List.replicate g.Points.toNat false) a).bind (fun x11 =>
((loopM (m_spec_l4Find_L4 g p a b) BIG (0, b7, ([a] : List Int), ((List.replicate g.Points.toNat false).set a.toNat true))).bind (Sum.elim (fun b93 => (
 some (p, false)
)) (fun r => some r)))
)
)
))
)
def m_spec_l4Gather_L1 (g : TGraph) (a : Int) (b : Int) (want : Int) (s2 : ((List Int) × (List Int) × (List Int))) : Option (((List Int) × (List Int) × (List Int)) ⊕ (((List Int) × (List Int) × (List Int)) ⊕ (TPebbles × Bool))) :=
(idx s2.1 a).bind (fun x28 =>
(idx s2.1 b).bind (fun x29 =>
(bif (decide ((w64 (x28 + x29)) < want)) then
(m_spec_l4Find g (TPebbles.mk s2.1 s2.2.1 s2.2.2) a b).bind (fun r31 =>
(bif r31.2 then
(bif (!true) then
 none
 else
(bif (!true) then
 none
 else
 some (.inl (r31.1.Free, r31.1.Tails, r31.1.Placed))
)
)
 else
(bif (!false) then
(m_spec_l4Find g (TPebbles.mk s2.1 s2.2.1 s2.2.2) b a).bind (fun r36 =>
(bif r36.2 then
(bif (!true) then
 none
 else
 some (.inl (r36.1.Free, r36.1.Tails, r36.1.Placed))
)
 else
(bif (!false) then
 some (.inr (.inr ((TPebbles.mk s2.1 s2.2.1 s2.2.2), false)))
 else
 none
)
)
)
 else
 none
)
)
)
 else
 some (.inr (.inl (s2.1, s2.2.1, s2.2.2)))
)
)
)
def m_spec_l4Gather (g : TGraph) (p : TPebbles) (a : Int) (b : Int) (want : Int) : Option (TPebbles × Bool) :=
(m_spec_l4Copy p).bind (fun r1 =>
((loopM (m_spec_l4Gather_L1 g a b want) BIG (r1.Free, r1.Tails, r1.Placed)).bind (Sum.elim (fun b27 => (
 some ((TPebbles.mk b27.1 b27.2.1 b27.2.2), true)
)) (fun r => some r)))
)
def m_impl_hasDoubles_L1 (g : TGraph) (s1 : Int) : Option (Int ⊕ (Unit ⊕ Bool)) :=
(bif (decide (s1 < (g.Bars.length : Int))) then
(idx g.Bars (w64 (s1 - 1))).bind (fun x12 =>
(idx g.Bars s1).bind (fun x13 =>
(bif (eqI [x12.A, x12.B] [x13.A, x13.B]) then
 some (.inr (.inr true))
 else
 some (.inl (w64 (s1 + 1)))
)
)
)
 else
 some (.inr (.inl ()))
)
def m_impl_hasDoubles (g : TGraph) : Option Bool :=
((loopM (m_impl_hasDoubles_L1 g) BIG 1).bind (Sum.elim (fun b10 => (
 some false
)) (fun r => some r)))
def m_impl_Graph_has (g : TGraph) (v : Int) : Option Bool :=
(m_impl_within v 0 (w64 (g.Points - 1))).bind (fun r1 =>
 some r1
)
def m_slices_Index_L1 (s : (List Int)) (v : Int) (s1 : Int) : Option (Int ⊕ (Unit ⊕ Int)) :=
(bif (decide (s1 < (s.length : Int))) then
(idx s s1).bind (fun x10 =>
(bif (v == x10) then
 some (.inr (.inr s1))
 else
 some (.inl (w64 (s1 + 1)))
)
)
 else
 some (.inr (.inl ()))
)
def m_slices_Index (s : (List Int)) (v : Int) : Option Int :=
((loopM (m_slices_Index_L1 s v) BIG 0).bind (Sum.elim (fun b8 => (
 some (-1)
)) (fun r => some r)))
def m_slices_Contains (s : (List Int)) (v : Int) : Option Bool :=
(m_slices_Index s v).bind (fun r1 =>
 some (decide (0 ≤ r1))
)
def m_impl_copyInts (l : (List Int)) : Option (List Int) :=
(lim (([] : List Int).length + l.length)).bind (fun u1 =>
 some (([] : List Int) ++ l)
)
def m_impl_copyPebbles (p : TPebbles) : Option TPebbles :=
(m_impl_copyInts p.Free).bind (fun r1 =>
(m_impl_copyInts p.Tails).bind (fun r2 =>
(m_impl_copyInts p.Placed).bind (fun r3 =>
 some (TPebbles.mk r1 r2 r3)
)
)
)
def m_impl_Bar_other (x : TBar) (v : Int) : Option Int :=
(bif (x.A == v) then
 some x.B
 else
 some x.A
)
def m_impl_moveTo_L11 (p : TPebbles) (a : Int) (s122 : (Int × (List (Int × Int)) × (List Int))) (r187 : Int) (x196 : Int) (x198 : Int) (s200 : (Int × (List Int))) : Option ((Int × (List Int)) ⊕ ((List Int) × (List Int))) :=
(bif (s200.1 != a) then
(idx s200.2 (mget (mput s122.2.1 r187 s122.1) s200.1)).bind (fun x209 =>
(idx s200.2 (mget (mput s122.2.1 r187 s122.1) s200.1)).bind (fun x210 =>
 some (.inl (x209, (s200.2.set (mget (mput s122.2.1 r187 s122.1) s200.1).toNat s200.1)))
)
)
 else
 some (.inr (((p.Free.set r187.toNat (w64 (x196 - 1))).set a.toNat (w64 (x198 + 1))), s200.2))
)
def m_impl_moveTo_L10 (bars : (List TBar)) (p : TPebbles) (a : Int) (b : Int) (s1 : (Int × (List (Int × Int)) × (List Int))) (s122 : (Int × (List (Int × Int)) × (List Int))) : Option ((Int × (List (Int × Int)) × (List Int)) ⊕ ((Int × (List (Int × Int)) × (List Int)) ⊕ (Bool × TPebbles))) :=
(bif (decide (s122.1 < (p.Placed.length : Int))) then
(idx p.Placed s122.1).bind (fun x181 =>
(idx p.Tails s122.1).bind (fun x182 =>
(idx s122.2.2 s1.1).bind (fun x183 =>
(bif (x182 != x183) then
 some (.inl ((w64 (s122.1 + 1)), s122.2.1, s122.2.2))
 else
(idx bars x181).bind (fun x185 =>
(idx s122.2.2 s1.1).bind (fun x186 =>
(m_impl_Bar_other x185 x186).bind (fun r187 =>
(bif (mhas s122.2.1 r187) then
 some (.inl ((w64 (s122.1 + 1)), s122.2.1, s122.2.2))
 else
(((
(bif (r187 == b) then
 some true
 else
(idx p.Free r187).bind (fun x193 =>
 some (x193 == 0)
)
)
) : Option Bool).bind (fun j191 =>
(bif j191 then
(lim (s122.2.2.length + ([r187] : List Int).length)).bind (fun u195 =>
 some (.inl ((w64 (s122.1 + 1)), (mput s122.2.1 r187 s122.1), (s122.2.2 ++ ([r187] : List Int))))
)
 else
(idx p.Free r187).bind (fun x196 =>
(idx p.Free r187).bind (fun x197 =>
(idx (p.Free.set r187.toNat (w64 (x196 - 1))) a).bind (fun x198 =>
(idx (p.Free.set r187.toNat (w64 (x196 - 1))) a).bind (fun x199 =>
((loopM (m_impl_moveTo_L11 p a s122 r187 x196 x198) BIG (r187, p.Tails)).bind (fun b207 =>
 some (.inr (.inr (true, (TPebbles.mk b207.1 b207.2 p.Placed))))
))
)
)
)
)
)
))
)
)
)
)
)
)
)
)
 else
 some (.inr (.inl (s1.1, s122.2.1, s122.2.2)))
)
def m_impl_moveTo_L7 (bars : (List TBar)) (p : TPebbles) (a : Int) (b : Int) (s1 : (Int × (List (Int × Int)) × (List Int))) : Option ((Int × (List (Int × Int)) × (List Int)) ⊕ (Unit ⊕ (Bool × TPebbles))) :=
(bif (decide (s1.1 < (s1.2.2.length : Int))) then
((loopM (m_impl_moveTo_L10 bars p a b s1) BIG (0, s1.2.1, s1.2.2)).bind (Sum.elim (fun b179 => (
 some (.inl ((w64 (b179.1 + 1)), b179.2.1, b179.2.2))
)) (fun r => some (.inr (.inr r)))))
 else
 some (.inr (.inl ()))
)
def m_impl_moveTo (bars : (List TBar)) (p : TPebbles) (a : Int) (b : Int) : Option (Bool × TPebbles) :=
((loopM (m_impl_moveTo_L7 bars p a b) BIG (0, (mput ([] : List (Int × Int)) a (-1)), ([a] : List Int))).bind (Sum.elim (fun b120 => (
 some (false, p)
)) (fun r => some r)))
def m_impl_gather_L1 (bars : (List TBar)) (a : Int) (b : Int) (want : Int) (s1 : ((List Int) × (List Int) × (List Int))) : Option (((List Int) × (List Int) × (List Int)) ⊕ (((List Int) × (List Int) × (List Int)) ⊕ (Bool × TPebbles))) :=
(idx s1.1 a).bind (fun x25 =>
(idx s1.1 b).bind (fun x26 =>
(bif (decide ((w64 (x25 + x26)) < want)) then
(((
(m_impl_moveTo bars (TPebbles.mk s1.1 s1.2.1 s1.2.2) a b).bind (fun r32 =>
(bif (!r32.1) then
(m_impl_moveTo bars r32.2 b a).bind (fun r34 =>
 some ((!r34.1), r34.2.Free, r34.2.Tails, r34.2.Placed)
)
 else
 some (false, r32.2.Free, r32.2.Tails, r32.2.Placed)
)
)
) : Option (Bool × (List Int) × (List Int) × (List Int))).bind (fun j31 =>
(bif j31.1 then
 some (.inr (.inr (false, (TPebbles.mk j31.2.1 j31.2.2.1 j31.2.2.2))))
 else
 some (.inl (j31.2.1, j31.2.2.1, j31.2.2.2))
)
))
 else
 some (.inr (.inl (s1.1, s1.2.1, s1.2.2)))
)
)
)
def m_impl_gather (bars : (List TBar)) (p : TPebbles) (a : Int) (b : Int) (want : Int) : Option (Bool × TPebbles) :=
((loopM (m_impl_gather_L1 bars a b want) BIG (p.Free, p.Tails, p.Placed)).bind (Sum.elim (fun b24 => (
 some (true, (TPebbles.mk b24.1 b24.2.1 b24.2.2))
)) (fun r => some r)))
def m_impl_place (bars : (List TBar)) (l : Int) (p : TPebbles) (e : Int) : Option (Bool × TPebbles) :=
(idx bars e).bind (fun x1 =>
(m_impl_gather bars p x1.A x1.B (w64 (l + 1))).bind (fun r2 =>
(bif (!r2.1) then
 some (false, r2.2)
 else
(idx r2.2.Free x1.A).bind (fun x4 =>
(((
(bif (x4 == 0) then
 some x1.B
 else
 some x1.A
)
) : Option Int).bind (fun j6 =>
(idx r2.2.Free j6).bind (fun x8 =>
(idx r2.2.Free j6).bind (fun x9 =>
(lim (r2.2.Tails.length + ([j6] : List Int).length)).bind (fun u10 =>
(lim (r2.2.Placed.length + ([e] : List Int).length)).bind (fun u11 =>
 some (true, (TPebbles.mk (r2.2.Free.set j6.toNat (w64 (x8 - 1))) (r2.2.Tails ++ ([j6] : List Int)) (r2.2.Placed ++ ([e] : List Int))))
)
)
)
)
))
)
)
)
)
def m_impl_play_L1 (points : Int) (k : Int) (s1 : (Int × (List Int))) : Option ((Int × (List Int)) ⊕ (List Int)) :=
(bif (decide (s1.1 < points)) then
(lim (s1.2.length + ([k] : List Int).length)).bind (fun u8 =>
 some (.inl ((w64 (s1.1 + 1)), (s1.2 ++ ([k] : List Int))))
)
 else
 some (.inr s1.2)
)
def m_impl_play_L2 (bars : (List TBar)) (l : Int) (s9 : (Int × (List Int) × (List Int) × (List Int))) : Option ((Int × (List Int) × (List Int) × (List Int)) ⊕ ((List Int) × (List Int) × (List Int))) :=
(bif (decide (s9.1 < (bars.length : Int))) then
(m_impl_copyPebbles (TPebbles.mk s9.2.1 s9.2.2.1 s9.2.2.2)).bind (fun r24 =>
(m_impl_place bars l r24 s9.1).bind (fun r25 =>
(((
(bif r25.1 then
 some (r25.2.Free, r25.2.Tails, r25.2.Placed)
 else
 some (s9.2.1, s9.2.2.1, s9.2.2.2)
)
) : Option ((List Int) × (List Int) × (List Int))).bind (fun j27 =>
 some (.inl ((w64 (s9.1 + 1)), j27.1, j27.2.1, j27.2.2))
))
)
)
 else
 some (.inr (s9.2.1, s9.2.2.1, s9.2.2.2))
)
def m_impl_play (points : Int) (bars : (List TBar)) (k : Int) (l : Int) : Option TPebbles :=
((loopM (m_impl_play_L1 points k) BIG (0, ([] : List Int))).bind (fun b6 =>
((loopM (m_impl_play_L2 bars l) BIG (0, b6, ([] : List Int), ([] : List Int))).bind (fun b22 =>
 some (TPebbles.mk b22.1 b22.2.1 b22.2.2)
))
))
def m_laws_big (code : (List Int)) : Option Bool :=
 some (decide (1048576 < (code.length : Int)))
def m_spec_l1New_L1 (code : (List Int)) (s1 : (Int × Int)) : Option ((Int × Int) ⊕ Int) :=
(((
(bif (decide (s1.2 < (code.length : Int))) then
 some (decide (s1.2 < 4000))
 else
 some false
)
) : Option Bool).bind (fun j14 =>
(bif j14 then
(idx code s1.2).bind (fun x17 =>
 some (.inl ((bits .and .i64 (w64 ((w64 ((w64 (s1.1 * 131)) + (w64 x17))) + 7)) 1073741823), (w64 (s1.2 + 1))))
)
 else
 some (.inr s1.1)
)
))
def m_spec_l1New (code : (List Int)) : Option Tl1Cur :=
((loopM (m_spec_l1New_L1 code) BIG ((w64 (10101 + (code.length : Int))), 0)).bind (fun b12 =>
 some (Tl1Cur.mk code 0 b12)
))
def m_spec_l1Byte (c : Tl1Cur) : Option (Int × Tl1Cur) :=
(((
(bif (decide (c.i < (c.b.length : Int))) then
(idx c.b c.i).bind (fun x5 =>
 some ((bits .and .i64 (w64 ((bits .and .i64 (bits .xor .i64 (shrI (w64 ((w64 (c.h * 6364136223846793005)) + 1442695040888963407)) 33) (shrI (w64 ((w64 (c.h * 6364136223846793005)) + 1442695040888963407)) 45)) 255) + (w64 x5))) 255), (w64 (c.i + 1)))
)
 else
 some ((bits .and .i64 (bits .xor .i64 (shrI (w64 ((w64 (c.h * 6364136223846793005)) + 1442695040888963407)) 33) (shrI (w64 ((w64 (c.h * 6364136223846793005)) + 1442695040888963407)) 45)) 255), c.i)
)
) : Option (Int × Int)).bind (fun j3 =>
 some (j3.1, (Tl1Cur.mk c.b j3.2 (w64 ((w64 (c.h * 6364136223846793005)) + 1442695040888963407))))
))
def m_spec_l1Below (c : Tl1Cur) (n : Int) : Option (Int × Tl1Cur) :=
(bif (decide (n ≤ 0)) then
 some (0, c)
 else
(bif (decide (n ≤ 256)) then
(m_spec_l1Byte c).bind (fun r3 =>
(nz n).bind (fun u4 =>
 some ((Int.tmod r3.1 n), r3.2)
)
)
 else
(m_spec_l1Byte c).bind (fun r5 =>
(m_spec_l1Byte r5.2).bind (fun r6 =>
(m_spec_l1Byte r6.2).bind (fun r7 =>
(m_spec_l1Byte r7.2).bind (fun r8 =>
(nz n).bind (fun u9 =>
 some ((Int.tmod (w64 ((w64 ((w64 ((w64 (r5.1 * 16777216)) + (w64 (r6.1 * 65536)))) + (w64 (r7.1 * 256)))) + r8.1)) n), r8.2)
)
)
)
)
)
)
)
def m_spec_l1Once (c : Tl1Cur) (n : Int) : Option (Bool × Tl1Cur) :=
(m_spec_l1Below c n).bind (fun r1 =>
 some ((r1.1 == 0), r1.2)
)
def m_spec_l2Simple_L4 (n : Int) (odd : Int) (s1 : (Int × (List Int) × Int × Int × (List TBar))) (s54 : (Int × (List Int) × Int × Int × (List TBar))) : Option ((Int × (List Int) × Int × Int × (List TBar)) ⊕ (Int × (List Int) × Int × Int × (List TBar))) :=
(bif (decide (s54.1 < n)) then
(((
(m_spec_l1Below (Tl1Cur.mk s54.2.1 s54.2.2.1 s54.2.2.2.1) 10).bind (fun r82 =>
(bif (decide (r82.1 < odd)) then
 some ((decide ((s54.2.2.2.2.length : Int) < 24)), r82.2.b, r82.2.i, r82.2.h)
 else
 some (false, r82.2.b, r82.2.i, r82.2.h)
)
)
) : Option (Bool × (List Int) × Int × Int)).bind (fun j81 =>
(((
(bif j81.1 then
(lim (s54.2.2.2.2.length + [(TBar.mk s1.1 s54.1)].length)).bind (fun u88 =>
 some (s54.2.2.2.2 ++ [(TBar.mk s1.1 s54.1)])
)
 else
 some s54.2.2.2.2
)
) : Option (List TBar)).bind (fun j86 =>
 some (.inl ((w64 (s54.1 + 1)), j81.2.1, j81.2.2.1, j81.2.2.2, j86))
))
))
 else
 some (.inr (s1.1, s54.2.1, s54.2.2.1, s54.2.2.2.1, s54.2.2.2.2))
)
def m_spec_l2Simple_L3 (n : Int) (odd : Int) (s1 : (Int × (List Int) × Int × Int × (List TBar))) : Option ((Int × (List Int) × Int × Int × (List TBar)) ⊕ ((List Int) × Int × Int × (List TBar))) :=
(bif (decide (s1.1 < n)) then
((loopM (m_spec_l2Simple_L4 n odd s1) BIG ((w64 (s1.1 + 1)), s1.2.1, s1.2.2.1, s1.2.2.2.1, s1.2.2.2.2)).bind (fun b77 =>
 some (.inl ((w64 (b77.1 + 1)), b77.2.1, b77.2.2.1, b77.2.2.2.1, b77.2.2.2.2))
))
 else
 some (.inr (s1.2.1, s1.2.2.1, s1.2.2.2.1, s1.2.2.2.2))
)
def m_spec_l2Simple (c : Tl1Cur) (n : Int) (odd : Int) : Option (TGraph × Tl1Cur) :=
((loopM (m_spec_l2Simple_L3 n odd) BIG (0, c.b, c.i, c.h, ([] : List TBar))).bind (fun b52 =>
 some ((TGraph.mk n b52.2.2.2), (Tl1Cur.mk b52.1 b52.2.1 b52.2.2.1))
))
def m_spec_l6Third (c : Tl1Cur) (n : Int) (x : TBar) (other : Int) : Option (Int × Tl1Cur) :=
(m_spec_l1Below c n).bind (fun r1 =>
(((
(bif (r1.1 == x.A) then
 some true
 else
 some (r1.1 == x.B)
)
) : Option Bool).bind (fun j3 =>
(bif j3 then
 some (other, r1.2)
 else
 some (r1.1, r1.2)
)
))
)
def m_spec_RemoveBar (g : TGraph) (k : Int) : Option (TGraph × Bool) :=
(((
(m_spec_IsGraph g).bind (fun r5 =>
(bif (!r5) then
 some true
 else
(bif (decide (k < 0)) then
 some true
 else
 some (decide ((g.Bars.length : Int) ≤ k))
)
)
)
) : Option Bool).bind (fun j4 =>
(bif j4 then
(m_spec_l2Copy g).bind (fun r9 =>
 some (r9, false)
)
 else
(slc g.Bars 0 k).bind (fun v10 =>
(lim (([] : List TBar).length + ((g.Bars.take k.toNat).drop 0).length)).bind (fun u11 =>
(slc g.Bars (w64 (k + 1)) (g.Bars.length : Int)).bind (fun v12 =>
(lim ((([] : List TBar) ++ ((g.Bars.take k.toNat).drop 0)).length + ((g.Bars.take g.Bars.length).drop ((w64 (k + 1)).toNat)).length)).bind (fun u13 =>
 some ((TGraph.mk g.Points ((([] : List TBar) ++ ((g.Bars.take k.toNat).drop 0)) ++ ((g.Bars.take g.Bars.length).drop ((w64 (k + 1)).toNat)))), true)
)
)
)
)
)
))
def m_spec_l6Laman_L7 (s3 : (Int × (List Int) × Int × Int × Int × (List TBar))) (r135 : (Int × Tl1Cur)) (x136 : TBar) (s137 : Int) : Option (Int ⊕ (Int × Int × Int × (List Int) × Int × Int × Int × (List TBar) × Int × Int)) :=
(((
(bif (s137 == x136.A) then
 some true
 else
 some (s137 == x136.B)
)
) : Option Bool).bind (fun j148 =>
(bif j148 then
 some (.inl (w64 (s137 + 1)))
 else
 some (.inr (s3.1, r135.1, s137, r135.2.b, r135.2.i, r135.2.h, s3.2.2.2.2.1, s3.2.2.2.2.2, x136.A, x136.B))
)
))
def m_spec_l6Laman_L5 (n : Int) (s3 : (Int × (List Int) × Int × Int × Int × (List TBar))) : Option ((Int × (List Int) × Int × Int × Int × (List TBar)) ⊕ ((List Int) × Int × Int × Int × (List TBar))) :=
(bif (decide (s3.1 < n)) then
(m_spec_l1Below (Tl1Cur.mk s3.2.1 s3.2.2.1 s3.2.2.2.1) s3.1).bind (fun r105 =>
(m_spec_l1Below r105.2 (w64 (s3.1 - 1))).bind (fun r106 =>
(nz s3.1).bind (fun u107 =>
(((
(m_spec_l1Once r106.2 2).bind (fun r111 =>
(bif r111.1 then
 some ((decide (2 < s3.1)), r111.2.b, r111.2.i, r111.2.h)
 else
 some (false, r111.2.b, r111.2.i, r111.2.h)
)
)
) : Option (Bool × (List Int) × Int × Int)).bind (fun j110 =>
(((
(bif j110.1 then
(m_spec_l1Below (Tl1Cur.mk j110.2.1 j110.2.2.1 j110.2.2.2) (s3.2.2.2.2.2.length : Int)).bind (fun r135 =>
(idx s3.2.2.2.2.2 r135.1).bind (fun x136 =>
((loopM (m_spec_l6Laman_L7 s3 r135 x136) BIG 0).bind (fun b146 =>
(m_spec_l6Third (Tl1Cur.mk b146.2.2.2.1 b146.2.2.2.2.1 b146.2.2.2.2.2.1) b146.1 (TBar.mk b146.2.2.2.2.2.2.2.2.1 b146.2.2.2.2.2.2.2.2.2) b146.2.2.1).bind (fun r151 =>
(m_spec_RemoveBar (TGraph.mk b146.2.2.2.2.2.2.1 b146.2.2.2.2.2.2.2.1) b146.2.1).bind (fun r152 =>
(m_spec_l2Put r152.1 (TBar.mk b146.2.2.2.2.2.2.2.2.1 b146.1)).bind (fun r153 =>
(m_spec_l2Put r153 (TBar.mk b146.2.2.2.2.2.2.2.2.2 b146.1)).bind (fun r154 =>
(m_spec_l2Put r154 (TBar.mk r151.1 b146.1)).bind (fun r155 =>
 some (b146.1, r151.2.b, r151.2.i, r151.2.h, r155.Points, r155.Bars)
)
)
)
)
)
))
)
)
 else
(m_spec_l2Put (TGraph.mk s3.2.2.2.2.1 s3.2.2.2.2.2) (TBar.mk r105.1 s3.1)).bind (fun r156 =>
(m_spec_l2Put r156 (TBar.mk (Int.tmod (w64 ((w64 (r105.1 + 1)) + r106.1)) s3.1) s3.1)).bind (fun r157 =>
 some (s3.1, j110.2.1, j110.2.2.1, j110.2.2.2, r157.Points, r157.Bars)
)
)
)
) : Option (Int × (List Int) × Int × Int × Int × (List TBar))).bind (fun j133 =>
 some (.inl ((w64 (j133.1 + 1)), j133.2.1, j133.2.2.1, j133.2.2.2.1, j133.2.2.2.2.1, j133.2.2.2.2.2))
))
))
)
)
)
 else
 some (.inr (s3.2.1, s3.2.2.1, s3.2.2.2.1, s3.2.2.2.2.1, s3.2.2.2.2.2))
)
def m_spec_l6Laman (c : Tl1Cur) (n : Int) : Option (TGraph × Tl1Cur) :=
(bif (decide (n < 2)) then
 some ((TGraph.mk n ([] : List TBar)), c)
 else
(m_spec_l2Put (TGraph.mk n ([] : List TBar)) (TBar.mk 0 1)).bind (fun r2 =>
((loopM (m_spec_l6Laman_L5 n) BIG (2, c.b, c.i, c.h, r2.Points, r2.Bars)).bind (fun b103 =>
 some ((TGraph.mk b103.2.2.2.1 b103.2.2.2.2), (Tl1Cur.mk b103.1 b103.2.1 b103.2.2.1))
))
)
)
def m_spec_AddBar (g : TGraph) (a : Int) (b : Int) : Option (TGraph × Bool) :=
(((
(m_spec_IsGraph g).bind (fun r9 =>
(bif (!r9) then
 some true
 else
(bif (decide (a < 0)) then
 some true
 else
(bif (decide (b < 0)) then
 some true
 else
(bif (decide (g.Points ≤ a)) then
 some true
 else
(bif (decide (g.Points ≤ b)) then
 some true
 else
(bif (a == b) then
 some true
 else
 some (decide (24 ≤ (g.Bars.length : Int)))
)
)
)
)
)
)
)
) : Option Bool).bind (fun j8 =>
(bif j8 then
(m_spec_l2Copy g).bind (fun r17 =>
 some (r17, false)
)
 else
(m_spec_l2Put g (TBar.mk (if b < a then b else a) (if a < b then b else a))).bind (fun r18 =>
 some (r18, true)
)
)
))
def m_spec_l1PickInt (c : Tl1Cur) (list : (List Int)) : Option (Int × Tl1Cur) :=
(m_spec_l1Below c (list.length : Int)).bind (fun r1 =>
(idx list r1.1).bind (fun x2 =>
 some (x2, r1.2)
)
)
def m_spec_IsRange (k : Int) (l : Int) : Option Bool :=
(((
(m_spec_l1In k 1 3).bind (fun r5 =>
(bif r5 then
(bif (decide (0 ≤ l)) then
 some (decide (l < (w64 (2 * k))))
 else
 some false
)
 else
 some false
)
)
) : Option Bool).bind (fun j4 =>
 some j4
))
def m_spec_l4Tail_L1 (p : TPebbles) (v : Int) (s1 : (Int × Int)) : Option ((Int × Int) ⊕ Int) :=
(bif (decide (s1.2 < (p.Tails.length : Int))) then
(idx p.Tails s1.2).bind (fun x14 =>
(((
(bif (x14 == v) then
 some (w64 (s1.1 + 1))
 else
 some s1.1
)
) : Option Int).bind (fun j16 =>
 some (.inl (j16, (w64 (s1.2 + 1))))
))
)
 else
 some (.inr s1.1)
)
def m_spec_l4Tail (p : TPebbles) (v : Int) : Option Int :=
((loopM (m_spec_l4Tail_L1 p v) BIG (0, 0)).bind (fun b12 =>
 some b12
))
def m_spec_IsPebbles_L1 (g : TGraph) (p : TPebbles) (s13 : Int) : Option (Int ⊕ (Unit ⊕ Bool)) :=
(bif (decide (s13 < (p.Placed.length : Int))) then
(idx p.Placed s13).bind (fun x84 =>
(((
(bif (decide (x84 < 0)) then
 some true
 else
(bif (decide ((g.Bars.length : Int) ≤ x84)) then
 some true
 else
(bif (decide (0 < s13)) then
(idx p.Placed (w64 (s13 - 1))).bind (fun x104 =>
(bif (decide (x84 ≤ x104)) then
 some true
 else
(idx p.Tails s13).bind (fun x106 =>
(idx g.Bars x84).bind (fun x107 =>
(bif (x106 != x107.A) then
(idx p.Tails s13).bind (fun x109 =>
(idx g.Bars x84).bind (fun x110 =>
 some (x109 != x110.B)
)
)
 else
 some false
)
)
)
)
)
 else
(idx p.Tails s13).bind (fun x111 =>
(idx g.Bars x84).bind (fun x112 =>
(bif (x111 != x112.A) then
(idx p.Tails s13).bind (fun x114 =>
(idx g.Bars x84).bind (fun x115 =>
 some (x114 != x115.B)
)
)
 else
 some false
)
)
)
)
)
)
) : Option Bool).bind (fun j100 =>
(bif j100 then
 some (.inr (.inr false))
 else
 some (.inl (w64 (s13 + 1)))
)
))
)
 else
 some (.inr (.inl ()))
)
def m_spec_IsPebbles_L2 (g : TGraph) (k : Int) (p : TPebbles) (s117 : Int) : Option (Int ⊕ (Unit ⊕ Bool)) :=
(bif (decide (s117 < g.Points)) then
(((
(idx p.Free s117).bind (fun x147 =>
(bif (decide (x147 < 0)) then
 some true
 else
(idx p.Free s117).bind (fun x149 =>
(m_spec_l4Tail p s117).bind (fun r150 =>
 some ((w64 (x149 + r150)) != k)
)
)
)
)
) : Option Bool).bind (fun j146 =>
(bif j146 then
 some (.inr (.inr false))
 else
 some (.inl (w64 (s117 + 1)))
)
))
 else
 some (.inr (.inl ()))
)
def m_spec_IsPebbles (g : TGraph) (k : Int) (p : TPebbles) : Option Bool :=
(((
(m_spec_IsGraph g).bind (fun r7 =>
(bif (!r7) then
 some true
 else
(m_spec_l1In k 1 3).bind (fun r9 =>
(bif (!r9) then
 some true
 else
(bif ((p.Free.length : Int) != g.Points) then
 some true
 else
 some ((p.Tails.length : Int) != (p.Placed.length : Int))
)
)
)
)
)
) : Option Bool).bind (fun j6 =>
(bif j6 then
 some false
 else
((loopM (m_spec_IsPebbles_L1 g p) BIG 0).bind (Sum.elim (fun b82 => (
((loopM (m_spec_IsPebbles_L2 g k p) BIG 0).bind (Sum.elim (fun b140 => (
 some true
)) (fun r => some r)))
)) (fun r => some r)))
)
))
def m_spec_PlaceBar (g : TGraph) (k : Int) (l : Int) (p : TPebbles) (bar : Int) : Option (TPebbles × Bool) :=
(((
(m_spec_IsPebbles g k p).bind (fun r10 =>
(bif (!r10) then
 some true
 else
(m_spec_IsRange k l).bind (fun r12 =>
(bif (!r12) then
 some true
 else
(bif (decide (bar < 0)) then
 some true
 else
(bif (decide ((g.Bars.length : Int) ≤ bar)) then
 some true
 else
(bif (decide (0 < (p.Placed.length : Int))) then
(idx p.Placed (w64 ((p.Placed.length : Int) - 1))).bind (fun x17 =>
 some (decide (bar ≤ x17))
)
 else
 some false
)
)
)
)
)
)
)
) : Option Bool).bind (fun j9 =>
(bif j9 then
(m_spec_l4Copy p).bind (fun r19 =>
 some (r19, false)
)
 else
(idx g.Bars bar).bind (fun x20 =>
(m_spec_l4Gather g p x20.A x20.B (w64 (l + 1))).bind (fun r21 =>
(bif (!r21.2) then
(m_spec_l4Copy p).bind (fun r23 =>
 some (r23, false)
)
 else
(idx r21.1.Free x20.A).bind (fun x24 =>
(((
(bif (x24 == 0) then
 some x20.B
 else
 some x20.A
)
) : Option Int).bind (fun j26 =>
(idx r21.1.Free j26).bind (fun x28 =>
(idx r21.1.Free j26).bind (fun x29 =>
(lim (r21.1.Tails.length + ([j26] : List Int).length)).bind (fun u30 =>
(lim (r21.1.Placed.length + ([bar] : List Int).length)).bind (fun u31 =>
 some ((TPebbles.mk (r21.1.Free.set j26.toNat (w64 (x28 - 1))) (r21.1.Tails ++ ([j26] : List Int)) (r21.1.Placed ++ ([bar] : List Int))), true)
)
)
)
)
))
)
)
)
)
)
))
def m_spec_RunPebbles_L1 (g : TGraph) (k : Int) (l : Int) (s8 : (Int × (List Int) × (List Int) × (List Int))) : Option ((Int × (List Int) × (List Int) × (List Int)) ⊕ ((List Int) × (List Int) × (List Int))) :=
(bif (decide (s8.1 < (g.Bars.length : Int))) then
(m_spec_PlaceBar g k l (TPebbles.mk s8.2.1 s8.2.2.1 s8.2.2.2) s8.1).bind (fun r15 =>
 some (.inl ((w64 (s8.1 + 1)), r15.1.Free, r15.1.Tails, r15.1.Placed))
)
 else
 some (.inr (s8.2.1, s8.2.2.1, s8.2.2.2))
)
def m_spec_RunPebbles (g : TGraph) (k : Int) (l : Int) : Option (TPebbles × Bool) :=
(m_spec_NewPebbles g k).bind (fun r1 =>
(((
(bif (!r1.2) then
 some true
 else
(m_spec_IsRange k l).bind (fun r6 =>
 some (!r6)
)
)
) : Option Bool).bind (fun j4 =>
(bif j4 then
 some ((TPebbles.mk ([] : List Int) ([] : List Int) ([] : List Int)), false)
 else
((loopM (m_spec_RunPebbles_L1 g k l) BIG (0, r1.1.Free, r1.1.Tails, r1.1.Placed)).bind (fun b13 =>
 some ((TPebbles.mk b13.1 b13.2.1 b13.2.2), true)
))
)
))
)
def m_spec_RankOf (g : TGraph) (k : Int) (l : Int) : Option Int :=
(m_spec_RunPebbles g k l).bind (fun r1 =>
(bif (!r1.2) then
 some (-1)
 else
 some (r1.1.Placed.length : Int)
)
)
def m_spec_l3Set_L1 (n : Int) (mask : Int) (s1 : (Int × (List Int))) : Option ((Int × (List Int)) ⊕ (List Int)) :=
(bif (decide (s1.1 < n)) then
(nn s1.1).bind (fun u17 =>
(((
(bif ((bits .and .i64 (shrI mask s1.1) 1) == 1) then
(lim (s1.2.length + ([s1.1] : List Int).length)).bind (fun u22 =>
 some (s1.2 ++ ([s1.1] : List Int))
)
 else
 some s1.2
)
) : Option (List Int)).bind (fun j20 =>
 some (.inl ((w64 (s1.1 + 1)), j20))
))
)
 else
 some (.inr s1.2)
)
def m_spec_l3Set (n : Int) (mask : Int) : Option (List Int) :=
((loopM (m_spec_l3Set_L1 n mask) BIG (0, ([] : List Int))).bind (fun b15 =>
 some b15
))
def m_impl_IsRange (k : Int) (l : Int) : Option Bool :=
(((
(m_impl_within k 1 3).bind (fun r5 =>
(bif r5 then
(m_impl_within l 0 (w64 ((w64 (2 * k)) - 1))).bind (fun r7 =>
 some r7
)
 else
 some false
)
)
) : Option Bool).bind (fun j4 =>
 some j4
))
def m_impl_RunPebbles (g : TGraph) (k : Int) (l : Int) : Option (TPebbles × Bool) :=
(((
(m_impl_IsGraph g).bind (fun r5 =>
(bif (!r5) then
 some true
 else
(m_impl_IsRange k l).bind (fun r7 =>
 some (!r7)
)
)
)
) : Option Bool).bind (fun j4 =>
(bif j4 then
 some ((TPebbles.mk ([] : List Int) ([] : List Int) ([] : List Int)), false)
 else
(m_impl_play g.Points g.Bars k l).bind (fun r9 =>
 some (r9, true)
)
)
))
def m_impl_RankOf (g : TGraph) (k : Int) (l : Int) : Option Int :=
(m_impl_RunPebbles g k l).bind (fun r1 =>
(bif (!r1.2) then
 some (-1)
 else
 some (r1.1.Placed.length : Int)
)
)
def m_impl_setOf_L1 (mask : Int) (n : Int) (s1 : (Int × (List Int))) : Option ((Int × (List Int)) ⊕ (List Int)) :=
(bif (decide (s1.1 < n)) then
(nn s1.1).bind (fun u17 =>
(((
(bif ((bits .and .i64 (shrI mask s1.1) 1) == 1) then
(lim (s1.2.length + ([s1.1] : List Int).length)).bind (fun u22 =>
 some (s1.2 ++ ([s1.1] : List Int))
)
 else
 some s1.2
)
) : Option (List Int)).bind (fun j20 =>
 some (.inl ((w64 (s1.1 + 1)), j20))
))
)
 else
 some (.inr s1.2)
)
def m_impl_setOf (mask : Int) (n : Int) : Option (List Int) :=
((loopM (m_impl_setOf_L1 mask n) BIG (0, ([] : List Int))).bind (fun b15 =>
 some b15
))
def m_spec_l2Graph_L1  (s6 : (Int × (List Int) × Int × Int × Int × (List TBar))) : Option ((Int × (List Int) × Int × Int × Int × (List TBar)) ⊕ ((List Int) × Int × Int × (List TBar) × Int)) :=
(bif (decide (0 < s6.1)) then
(m_spec_l1Below (Tl1Cur.mk s6.2.1 s6.2.2.1 s6.2.2.2.1) s6.2.2.2.2.1).bind (fun r17 =>
(m_spec_l1Below r17.2 s6.2.2.2.2.1).bind (fun r18 =>
(m_spec_AddBar (TGraph.mk s6.2.2.2.2.1 s6.2.2.2.2.2) r17.1 r18.1).bind (fun r19 =>
 some (.inl ((w64 (s6.1 - 1)), r18.2.b, r18.2.i, r18.2.h, r19.1.Points, r19.1.Bars))
)
)
)
 else
 some (.inr (s6.2.1, s6.2.2.1, s6.2.2.2.1, s6.2.2.2.2.2, s6.2.2.2.2.1))
)
def m_spec_l2Graph (c : Tl1Cur) : Option (TGraph × Tl1Cur) :=
(m_spec_l1Below c 5).bind (fun r1 =>
(m_spec_l1Below r1.2 4).bind (fun r2 =>
(m_spec_l2Simple r2.2 (w64 (2 + r1.1)) (w64 (5 + r2.1))).bind (fun r3 =>
(m_spec_l1Below r3.2 3).bind (fun r4 =>
(m_spec_l1Below r4.2 2).bind (fun r5 =>
((loopM (m_spec_l2Graph_L1) BIG ((w64 (r4.1 * r5.1)), r5.2.b, r5.2.i, r5.2.h, r3.1.Points, r3.1.Bars)).bind (fun b15 =>
 some ((TGraph.mk b15.2.2.2.2 b15.2.2.2.1), (Tl1Cur.mk b15.1 b15.2.1 b15.2.2.1))
))
)
)
)
)
)
def m_spec_l2Any (c : Tl1Cur) : Option (TGraph × Tl1Cur) :=
(m_spec_l2Graph c).bind (fun r1 =>
(m_spec_l1Below r1.2 16).bind (fun r2 =>
(((
(bif (r2.1 == 0) then
(m_spec_l1PickInt r2.2 ([0, (-1), 9, 3] : List Int)).bind (fun r11 =>
 some (r11.2.b, r11.2.i, r11.2.h, r11.1, r1.1.Bars)
)
 else
(bif (r2.1 == 1) then
(m_spec_l1Below r2.2 3).bind (fun r13 =>
(m_spec_l1Below r13.2 9).bind (fun r14 =>
(lim (r1.1.Bars.length + [(TBar.mk r13.1 r14.1)].length)).bind (fun u15 =>
 some (r14.2.b, r14.2.i, r14.2.h, r1.1.Points, (r1.1.Bars ++ [(TBar.mk r13.1 r14.1)]))
)
)
)
 else
 some (r2.2.b, r2.2.i, r2.2.h, r1.1.Points, r1.1.Bars)
)
)
) : Option ((List Int) × Int × Int × Int × (List TBar))).bind (fun j9 =>
 some ((TGraph.mk j9.2.2.2.1 j9.2.2.2.2), (Tl1Cur.mk j9.1 j9.2.1 j9.2.2.1))
))
)
)
def m_spec_l6Any (c : Tl1Cur) : Option (TGraph × Tl1Cur) :=
(m_spec_l1Below c 4).bind (fun r1 =>
(bif (r1.1 == 0) then
(m_spec_l2Any r1.2).bind (fun r3 =>
 some (r3.1, r3.2)
)
 else
(bif (r1.1 == 1) then
(m_spec_l1Below r1.2 5).bind (fun r5 =>
(m_spec_l6Laman r5.2 (w64 (2 + r5.1))).bind (fun r6 =>
(m_spec_l1Below r6.2 (r6.1.Bars.length : Int)).bind (fun r7 =>
(m_spec_RemoveBar r6.1 r7.1).bind (fun r8 =>
 some (r8.1, r7.2)
)
)
)
)
 else
(bif (r1.1 == 2) then
(m_spec_l1Below r1.2 5).bind (fun r10 =>
(m_spec_l6Laman r10.2 (w64 (2 + r10.1))).bind (fun r11 =>
(m_spec_l1Below r11.2 r11.1.Points).bind (fun r12 =>
(m_spec_l1Below r12.2 r11.1.Points).bind (fun r13 =>
(m_spec_AddBar r11.1 r12.1 r13.1).bind (fun r14 =>
 some (r14.1, r13.2)
)
)
)
)
)
 else
(m_spec_l1Below r1.2 6).bind (fun r15 =>
(m_spec_l6Laman r15.2 (w64 (1 + r15.1))).bind (fun r16 =>
 some (r16.1, r16.2)
)
)
)
)
)
)
def m_spec_CountBar_L1 (g : TGraph) (a : Int) (b : Int) (s1 : (Int × Int)) : Option ((Int × Int) ⊕ Int) :=
(bif (decide (s1.2 < (g.Bars.length : Int))) then
(((
(idx g.Bars s1.2).bind (fun x65 =>
(bif (x65.A == a) then
(idx g.Bars s1.2).bind (fun x67 =>
(bif (x67.B == b) then
 some true
 else
(idx g.Bars s1.2).bind (fun x69 =>
(bif (x69.A == b) then
(idx g.Bars s1.2).bind (fun x71 =>
 some (x71.B == a)
)
 else
 some false
)
)
)
)
 else
(idx g.Bars s1.2).bind (fun x72 =>
(bif (x72.A == b) then
(idx g.Bars s1.2).bind (fun x74 =>
 some (x74.B == a)
)
 else
 some false
)
)
)
)
) : Option Bool).bind (fun j64 =>
(((
(bif j64 then
 some (w64 (s1.1 + 1))
 else
 some s1.1
)
) : Option Int).bind (fun j76 =>
 some (.inl (j76, (w64 (s1.2 + 1))))
))
))
 else
 some (.inr s1.1)
)
def m_spec_CountBar (g : TGraph) (a : Int) (b : Int) : Option Int :=
((loopM (m_spec_CountBar_L1 g a b) BIG (0, 0)).bind (fun b52 =>
 some b52
))
def m_spec_l15Any_L1  (s3 : (Int × (List Int) × Int × Int × Int × (List TBar))) : Option ((Int × (List Int) × Int × Int × Int × (List TBar)) ⊕ ((List Int) × Int × Int × (List TBar) × Int)) :=
(bif (decide (0 < s3.1)) then
(m_spec_l1Below (Tl1Cur.mk s3.2.1 s3.2.2.1 s3.2.2.2.1) 6).bind (fun r24 =>
(m_spec_l1Below r24.2 6).bind (fun r25 =>
(m_spec_CountBar (TGraph.mk s3.2.2.2.2.1 s3.2.2.2.2.2) r24.1 r25.1).bind (fun r26 =>
(((
(bif (r26 == 0) then
(m_spec_AddBar (TGraph.mk s3.2.2.2.2.1 s3.2.2.2.2.2) r24.1 r25.1).bind (fun r31 =>
 some (r31.1.Points, r31.1.Bars)
)
 else
 some (s3.2.2.2.2.1, s3.2.2.2.2.2)
)
) : Option (Int × (List TBar))).bind (fun j29 =>
 some (.inl ((w64 (s3.1 - 1)), r25.2.b, r25.2.i, r25.2.h, j29.1, j29.2))
))
)
)
)
 else
 some (.inr (s3.2.1, s3.2.2.1, s3.2.2.2.1, s3.2.2.2.2.2, s3.2.2.2.2.1))
)
def m_spec_l15Any (c : Tl1Cur) : Option (TGraph × Tl1Cur) :=
(m_spec_l6Any c).bind (fun r1 =>
(m_spec_l1Below r1.2 4).bind (fun r2 =>
((loopM (m_spec_l15Any_L1) BIG (r2.1, r2.2.b, r2.2.i, r2.2.h, r1.1.Points, r1.1.Bars)).bind (fun b22 =>
 some ((TGraph.mk b22.2.2.2.2 b22.2.2.2.1), (Tl1Cur.mk b22.1 b22.2.1 b22.2.2.1))
))
)
)
def m_spec_DrawConnectivityOf (code : (List Int)) : Option TGraph :=
(m_spec_l1New code).bind (fun r1 =>
(m_spec_l15Any r1).bind (fun r2 =>
 some r2.1
)
)
def m_impl_WithoutPoints_L1 (g : TGraph) (setV : (List Int)) (s2 : (Int × (List Int) × Int)) : Option ((Int × (List Int) × Int) ⊕ ((List Int) × Int)) :=
(bif (decide (s2.1 < ((List.replicate (if 0 < (if 8 < g.Points then 8 else g.Points) then (if 8 < g.Points then 8 else g.Points) else 0).toNat (0 : Int)).length : Int))) then
(idx s2.2.1 s2.1).bind (fun x21 =>
(m_slices_Contains setV s2.1).bind (fun r22 =>
(((
(bif (!r22) then
(idx (s2.2.1.set s2.1.toNat (-1)) s2.1).bind (fun x27 =>
 some (((s2.2.1.set s2.1.toNat (-1)).set s2.1.toNat s2.2.2), (w64 (s2.2.2 + 1)))
)
 else
 some ((s2.2.1.set s2.1.toNat (-1)), s2.2.2)
)
) : Option ((List Int) × Int)).bind (fun j25 =>
 some (.inl ((w64 (s2.1 + 1)), j25.1, j25.2))
))
)
)
 else
 some (.inr (s2.2.1, s2.2.2))
)
def m_impl_WithoutPoints_L2 (g : TGraph) (b19 : ((List Int) × Int)) (s30 : (Int × (List TBar))) : Option ((Int × (List TBar)) ⊕ (Int × (List TBar))) :=
(bif (decide (s30.1 < (g.Bars.length : Int))) then
(idx g.Bars s30.1).bind (fun x57 =>
(idx b19.1 x57.A).bind (fun x58 =>
(idx b19.1 x57.B).bind (fun x59 =>
(((
(bif (decide (0 ≤ x58)) then
 some (decide (0 ≤ x59))
 else
 some false
)
) : Option Bool).bind (fun j61 =>
(((
(bif j61 then
(lim (s30.2.length + [(TBar.mk x58 x59)].length)).bind (fun u67 =>
 some (s30.2 ++ [(TBar.mk x58 x59)])
)
 else
 some s30.2
)
) : Option (List TBar)).bind (fun j65 =>
 some (.inl ((w64 (s30.1 + 1)), j65))
))
))
)
)
)
 else
 some (.inr (b19.2, s30.2))
)
def m_impl_WithoutPoints (g : TGraph) (setV : (List Int)) : Option TGraph :=
(lenOk (if 0 < (if 8 < g.Points then 8 else g.Points) then (if 8 < g.Points then 8 else g.Points) else 0)).bind (fun u1 =>
((loopM (m_impl_WithoutPoints_L1 g setV) BIG (0, (List.replicate (if 0 < (if 8 < g.Points then 8 else g.Points) then (if 8 < g.Points then 8 else g.Points) else 0).toNat (0 : Int)), 0)).bind (fun b19 =>
(m_impl_IsGraph g).bind (fun r28 =>
(bif (!r28) then
 some (TGraph.mk b19.2 ([] : List TBar))
 else
((loopM (m_impl_WithoutPoints_L2 g b19) BIG (0, ([] : List TBar))).bind (fun b55 =>
 some (TGraph.mk b55.1 b55.2)
))
)
)
))
)
def m_impl_Graph_reach_L4 (g : TGraph) (s56 : (Bool × Int × (List Bool))) : Option ((Bool × Int × (List Bool)) ⊕ (Bool × (List Bool))) :=
(bif (decide (s56.2.1 < (g.Bars.length : Int))) then
(idx g.Bars s56.2.1).bind (fun x81 =>
(idx s56.2.2 x81.A).bind (fun x82 =>
(idx s56.2.2 x81.B).bind (fun x83 =>
(((
(bif (x82 != x83) then
(idx s56.2.2 x81.A).bind (fun x89 =>
(idx (s56.2.2.set x81.A.toNat true) x81.B).bind (fun x90 =>
 some (true, ((s56.2.2.set x81.A.toNat true).set x81.B.toNat true))
)
)
 else
 some (s56.1, s56.2.2)
)
) : Option (Bool × (List Bool))).bind (fun j87 =>
 some (.inl (j87.1, (w64 (s56.2.1 + 1)), j87.2))
))
)
)
)
 else
 some (.inr (s56.1, s56.2.2))
)
def m_impl_Graph_reach_L3 (g : TGraph) (s3 : (Bool × (List Bool))) : Option ((Bool × (List Bool)) ⊕ (List Bool)) :=
(bif s3.1 then
((loopM (m_impl_Graph_reach_L4 g) BIG (false, 0, s3.2)).bind (fun b79 =>
 some (.inl (b79.1, b79.2))
))
 else
 some (.inr s3.2)
)
def m_impl_Graph_reach (g : TGraph) (v : Int) : Option (List Bool) :=
(lenOk g.Points).bind (fun u1 =>
(idx (List.replicate g.Points.toNat false) v).bind (fun x2 =>
((loopM (m_impl_Graph_reach_L3 g) BIG (true, ((List.replicate g.Points.toNat false).set v.toNat true))).bind (fun b54 =>
 some b54
))
)
)
def m_impl_ReachOf_L1 (r9 : (List Bool)) (s10 : (Int × (List Int))) : Option ((Int × (List Int)) ⊕ (List Int)) :=
(bif (decide (s10.1 < (r9.length : Int))) then
(idx r9 s10.1).bind (fun x27 =>
(((
(bif x27 then
(lim (s10.2.length + ([s10.1] : List Int).length)).bind (fun u32 =>
 some (s10.2 ++ ([s10.1] : List Int))
)
 else
 some s10.2
)
) : Option (List Int)).bind (fun j30 =>
 some (.inl ((w64 (s10.1 + 1)), j30))
))
)
 else
 some (.inr s10.2)
)
def m_impl_ReachOf (g : TGraph) (v : Int) : Option (List Int) :=
(((
(m_impl_IsGraph g).bind (fun r5 =>
(bif (!r5) then
 some true
 else
(m_impl_Graph_has g v).bind (fun r7 =>
 some (!r7)
)
)
)
) : Option Bool).bind (fun j4 =>
(bif j4 then
 some ([] : List Int)
 else
(m_impl_Graph_reach g v).bind (fun r9 =>
((loopM (m_impl_ReachOf_L1 r9) BIG (0, ([] : List Int))).bind (fun b25 =>
 some b25
))
)
)
))
def m_impl_IsConnected (g : TGraph) : Option Bool :=
(((
(m_impl_IsGraph g).bind (fun r5 =>
(bif r5 then
(m_impl_ReachOf g 0).bind (fun r7 =>
 some ((r7.length : Int) == g.Points)
)
 else
 some false
)
)
) : Option Bool).bind (fun j4 =>
 some j4
))
def m_impl_CutSets_L1 (g : TGraph) (k : Int) (s10 : (Int × (List (List Int)))) : Option ((Int × (List (List Int))) ⊕ (List (List Int))) :=
(bif (decide (s10.1 < (shlI 1 g.Points))) then
(m_impl_setOf s10.1 g.Points).bind (fun r41 =>
(bif ((r41.length : Int) != k) then
 some (.inl ((w64 (s10.1 + 1)), s10.2))
 else
(m_impl_WithoutPoints g r41).bind (fun r43 =>
(((
(bif (decide (2 ≤ r43.Points)) then
(m_impl_IsConnected r43).bind (fun r48 =>
 some (!r48)
)
 else
 some false
)
) : Option Bool).bind (fun j46 =>
(((
(bif j46 then
(lim (s10.2.length + 1)).bind (fun u53 =>
 some (s10.2 ++ [r41])
)
 else
 some s10.2
)
) : Option (List (List Int))).bind (fun j51 =>
 some (.inl ((w64 (s10.1 + 1)), j51))
))
))
)
)
)
 else
 some (.inr s10.2)
)
def m_impl_CutSets (g : TGraph) (k : Int) : Option (List (List Int)) :=
(((
(m_impl_IsGraph g).bind (fun r5 =>
(bif (!r5) then
 some true
 else
(m_impl_within k 0 3).bind (fun r7 =>
 some (!r7)
)
)
)
) : Option Bool).bind (fun j4 =>
(bif j4 then
 some ([] : List (List Int))
 else
(nn g.Points).bind (fun u9 =>
((loopM (m_impl_CutSets_L1 g k) BIG (0, ([] : List (List Int)))).bind (fun b39 =>
 some b39
))
)
)
))
def m_impl_IsKConnected_L1 (g : TGraph) (k : Int) (s11 : Int) : Option (Int ⊕ (Unit ⊕ Bool)) :=
(bif (decide (s11 < k)) then
(m_impl_CutSets g s11).bind (fun r20 =>
(bif (decide (0 < (r20.length : Int))) then
 some (.inr (.inr false))
 else
 some (.inl (w64 (s11 + 1)))
)
)
 else
 some (.inr (.inl ()))
)
def m_impl_IsKConnected (g : TGraph) (k : Int) : Option Bool :=
(((
(m_impl_IsGraph g).bind (fun r6 =>
(bif (!r6) then
 some true
 else
(m_impl_within k 1 3).bind (fun r8 =>
(bif (!r8) then
 some true
 else
 some (decide (g.Points ≤ k))
)
)
)
)
) : Option Bool).bind (fun j5 =>
(bif j5 then
 some false
 else
((loopM (m_impl_IsKConnected_L1 g k) BIG 0).bind (Sum.elim (fun b18 => (
 some true
)) (fun r => some r)))
)
))
def m_impl_ConnectivityOf_L1 (g : TGraph) (s1 : Int) : Option (Int ⊕ (Unit ⊕ Int)) :=
(bif (decide (0 < s1)) then
(m_impl_IsKConnected g s1).bind (fun r10 =>
(bif r10 then
 some (.inr (.inr s1))
 else
 some (.inl (w64 (s1 - 1)))
)
)
 else
 some (.inr (.inl ()))
)
def m_impl_ConnectivityOf (g : TGraph) : Option Int :=
((loopM (m_impl_ConnectivityOf_L1 g) BIG 3).bind (Sum.elim (fun b8 => (
 some 0
)) (fun r => some r)))
def m_spec_WithoutPoints_L1 (setV : (List Int)) (s2 : (Int × Int × (List Int))) : Option ((Int × Int × (List Int)) ⊕ (Int × (List Int))) :=
(bif (decide (s2.2.1 < (s2.2.2.length : Int))) then
(idx s2.2.2 s2.2.1).bind (fun x21 =>
(m_spec_l2Has setV s2.2.1).bind (fun r22 =>
(((
(bif (!r22) then
(idx (s2.2.2.set s2.2.1.toNat (-1)) s2.2.1).bind (fun x27 =>
 some ((w64 (s2.1 + 1)), ((s2.2.2.set s2.2.1.toNat (-1)).set s2.2.1.toNat s2.1))
)
 else
 some (s2.1, (s2.2.2.set s2.2.1.toNat (-1)))
)
) : Option (Int × (List Int))).bind (fun j25 =>
 some (.inl (j25.1, (w64 (s2.2.1 + 1)), j25.2))
))
)
)
 else
 some (.inr (s2.1, s2.2.2))
)
def m_spec_WithoutPoints_L2 (g : TGraph) (b19 : (Int × (List Int))) (s28 : (Int × (List TBar))) : Option ((Int × (List TBar)) ⊕ ((List TBar) × Int)) :=
(((
(bif (decide (s28.1 < (g.Bars.length : Int))) then
(m_spec_IsGraph g).bind (fun r70 =>
 some r70
)
 else
 some false
)
) : Option Bool).bind (fun j68 =>
(bif j68 then
(idx g.Bars s28.1).bind (fun x72 =>
(idx b19.2 x72.A).bind (fun x73 =>
(idx g.Bars s28.1).bind (fun x74 =>
(idx b19.2 x74.B).bind (fun x75 =>
(((
(bif (decide (0 ≤ x73)) then
 some (decide (0 ≤ x75))
 else
 some false
)
) : Option Bool).bind (fun j77 =>
(((
(bif j77 then
(lim (s28.2.length + [(TBar.mk x73 x75)].length)).bind (fun u83 =>
 some (s28.2 ++ [(TBar.mk x73 x75)])
)
 else
 some s28.2
)
) : Option (List TBar)).bind (fun j81 =>
 some (.inl ((w64 (s28.1 + 1)), j81))
))
))
)
)
)
)
 else
 some (.inr (s28.2, b19.1))
)
))
def m_spec_WithoutPoints (g : TGraph) (setV : (List Int)) : Option TGraph :=
(lenOk (if 0 < (if g.Points < 8 then g.Points else 8) then (if g.Points < 8 then g.Points else 8) else 0)).bind (fun u1 =>
((loopM (m_spec_WithoutPoints_L1 setV) BIG (0, 0, (List.replicate (if 0 < (if g.Points < 8 then g.Points else 8) then (if g.Points < 8 then g.Points else 8) else 0).toNat (0 : Int)))).bind (fun b19 =>
((loopM (m_spec_WithoutPoints_L2 g b19) BIG (0, ([] : List TBar))).bind (fun b65 =>
 some (TGraph.mk b65.2 b65.1)
))
))
)
def m_spec_ReachOf_L4 (g : TGraph) (s11 : (Int × (List Bool))) (s112 : (Int × (List Bool))) : Option ((Int × (List Bool)) ⊕ (Int × (List Bool))) :=
(bif (decide (s112.1 < (g.Bars.length : Int))) then
(((
(idx g.Bars s112.1).bind (fun x167 =>
(idx s112.2 x167.A).bind (fun x168 =>
(bif x168 then
 some true
 else
(idx g.Bars s112.1).bind (fun x170 =>
(idx s112.2 x170.B).bind (fun x171 =>
 some x171
)
)
)
)
)
) : Option Bool).bind (fun j166 =>
(((
(bif j166 then
(idx g.Bars s112.1).bind (fun x179 =>
(idx s112.2 x179.A).bind (fun x180 =>
(idx g.Bars s112.1).bind (fun x181 =>
(idx (s112.2.set x179.A.toNat true) x181.B).bind (fun x182 =>
 some ((s112.2.set x179.A.toNat true).set x181.B.toNat true)
)
)
)
)
 else
 some s112.2
)
) : Option (List Bool)).bind (fun j177 =>
 some (.inl ((w64 (s112.1 + 1)), j177))
))
))
 else
 some (.inr (s11.1, s112.2))
)
def m_spec_ReachOf_L3 (g : TGraph) (s11 : (Int × (List Bool))) : Option ((Int × (List Bool)) ⊕ (List Bool)) :=
(bif (decide (s11.1 < g.Points)) then
((loopM (m_spec_ReachOf_L4 g s11) BIG (0, s11.2)).bind (fun b159 =>
 some (.inl ((w64 (b159.1 + 1)), b159.2))
))
 else
 some (.inr s11.2)
)
def m_spec_ReachOf_L5 (g : TGraph) (b110 : (List Bool)) (s183 : (Int × (List Int))) : Option ((Int × (List Int)) ⊕ (List Int)) :=
(bif (decide (s183.1 < g.Points)) then
(idx b110 s183.1).bind (fun x200 =>
(((
(bif x200 then
(lim (s183.2.length + ([s183.1] : List Int).length)).bind (fun u205 =>
 some (s183.2 ++ ([s183.1] : List Int))
)
 else
 some s183.2
)
) : Option (List Int)).bind (fun j203 =>
 some (.inl ((w64 (s183.1 + 1)), j203))
))
)
 else
 some (.inr s183.2)
)
def m_spec_ReachOf (g : TGraph) (v : Int) : Option (List Int) :=
(((
(m_spec_IsGraph g).bind (fun r5 =>
(bif (!r5) then
 some true
 else
(bif (decide (v < 0)) then
 some true
 else
 some (decide (g.Points ≤ v))
)
)
)
) : Option Bool).bind (fun j4 =>
(bif j4 then
 some ([] : List Int)
 else
(lenOk g.Points).bind (fun u9 =>
(idx (List.replicate g.Points.toNat false) v).bind (fun x10 =>
((loopM (m_spec_ReachOf_L3 g) BIG (0, ((List.replicate g.Points.toNat false).set v.toNat true))).bind (fun b110 =>
((loopM (m_spec_ReachOf_L5 g b110) BIG (0, ([] : List Int))).bind (fun b198 =>
 some b198
))
))
)
)
)
))
def m_spec_IsConnected (g : TGraph) : Option Bool :=
(((
(m_spec_IsGraph g).bind (fun r5 =>
(bif r5 then
(m_spec_ReachOf g 0).bind (fun r7 =>
 some ((r7.length : Int) == g.Points)
)
 else
 some false
)
)
) : Option Bool).bind (fun j4 =>
 some j4
))
def m_spec_CutSets_L1 (g : TGraph) (k : Int) (s9 : (Int × (List (List Int)))) : Option ((Int × (List (List Int))) ⊕ (List (List Int))) :=
(nn g.Points).bind (fun u45 =>
(bif (decide (s9.1 < (shlI 1 g.Points))) then
(m_spec_l3Set g.Points s9.1).bind (fun r47 =>
(((
(bif ((r47.length : Int) == k) then
(bif (decide (2 ≤ (w64 (g.Points - k)))) then
(m_spec_WithoutPoints g r47).bind (fun r55 =>
(m_spec_IsConnected r55).bind (fun r56 =>
 some (!r56)
)
)
 else
 some false
)
 else
 some false
)
) : Option Bool).bind (fun j52 =>
(((
(bif j52 then
(lim (s9.2.length + [r47].length)).bind (fun u61 =>
 some (s9.2 ++ [r47])
)
 else
 some s9.2
)
) : Option (List (List Int))).bind (fun j59 =>
 some (.inl ((w64 (s9.1 + 1)), j59))
))
))
)
 else
 some (.inr s9.2)
)
)
def m_spec_CutSets (g : TGraph) (k : Int) : Option (List (List Int)) :=
(((
(m_spec_IsGraph g).bind (fun r5 =>
(bif (!r5) then
 some true
 else
(m_spec_l1In k 0 3).bind (fun r7 =>
 some (!r7)
)
)
)
) : Option Bool).bind (fun j4 =>
(bif j4 then
 some ([] : List (List Int))
 else
((loopM (m_spec_CutSets_L1 g k) BIG (0, ([] : List (List Int)))).bind (fun b44 =>
 some b44
))
)
))
def m_spec_IsKConnected_L1 (g : TGraph) (k : Int) (s11 : Int) : Option (Int ⊕ (Unit ⊕ Bool)) :=
(bif (decide (s11 < k)) then
(m_spec_CutSets g s11).bind (fun r20 =>
(bif (decide (0 < (r20.length : Int))) then
 some (.inr (.inr false))
 else
 some (.inl (w64 (s11 + 1)))
)
)
 else
 some (.inr (.inl ()))
)
def m_spec_IsKConnected (g : TGraph) (k : Int) : Option Bool :=
(((
(m_spec_IsGraph g).bind (fun r6 =>
(bif (!r6) then
 some true
 else
(m_spec_l1In k 1 3).bind (fun r8 =>
(bif (!r8) then
 some true
 else
 some (decide (g.Points ≤ k))
)
)
)
)
) : Option Bool).bind (fun j5 =>
(bif j5 then
 some false
 else
((loopM (m_spec_IsKConnected_L1 g k) BIG 0).bind (Sum.elim (fun b18 => (
 some true
)) (fun r => some r)))
)
))
def m_spec_ConnectivityOf_L1 (g : TGraph) (s1 : (Int × Int)) : Option ((Int × Int) ⊕ Int) :=
(bif (decide (s1.2 ≤ 3)) then
(m_spec_IsKConnected g s1.2).bind (fun r14 =>
(((
(bif r14 then
 some s1.2
 else
 some s1.1
)
) : Option Int).bind (fun j16 =>
 some (.inl (j16, (w64 (s1.2 + 1))))
))
)
 else
 some (.inr s1.1)
)
def m_spec_ConnectivityOf (g : TGraph) : Option Int :=
((loopM (m_spec_ConnectivityOf_L1 g) BIG (0, 1)).bind (fun b12 =>
 some b12
))
def m_impl_CountBar_L1 (g : TGraph) (a : Int) (b : Int) (s1 : (Int × Int)) : Option ((Int × Int) ⊕ Int) :=
(bif (decide (s1.2 < (g.Bars.length : Int))) then
(idx g.Bars s1.2).bind (fun x32 =>
(((
(bif (x32.A == a) then
(bif (x32.B == b) then
 some true
 else
(bif (x32.A == b) then
 some (x32.B == a)
 else
 some false
)
)
 else
(bif (x32.A == b) then
 some (x32.B == a)
 else
 some false
)
)
) : Option Bool).bind (fun j37 =>
(((
(bif j37 then
 some (w64 (s1.1 + 1))
 else
 some s1.1
)
) : Option Int).bind (fun j43 =>
 some (.inl (j43, (w64 (s1.2 + 1))))
))
))
)
 else
 some (.inr s1.1)
)
def m_impl_CountBar (g : TGraph) (a : Int) (b : Int) : Option Int :=
((loopM (m_impl_CountBar_L1 g a b) BIG (0, 0)).bind (fun b30 =>
 some b30
))
def m_impl_MissingBars_L4 (g : TGraph) (s3 : (Int × (List TBar))) (s40 : (Int × (List TBar))) : Option ((Int × (List TBar)) ⊕ (Int × (List TBar))) :=
(bif (decide (s40.1 < g.Points)) then
(m_impl_CountBar g s3.1 s40.1).bind (fun r57 =>
(((
(bif (r57 == 0) then
(lim (s40.2.length + [(TBar.mk s3.1 s40.1)].length)).bind (fun u62 =>
 some (s40.2 ++ [(TBar.mk s3.1 s40.1)])
)
 else
 some s40.2
)
) : Option (List TBar)).bind (fun j60 =>
 some (.inl ((w64 (s40.1 + 1)), j60))
))
)
 else
 some (.inr (s3.1, s40.2))
)
def m_impl_MissingBars_L3 (g : TGraph) (s3 : (Int × (List TBar))) : Option ((Int × (List TBar)) ⊕ (List TBar)) :=
(bif (decide (s3.1 < g.Points)) then
((loopM (m_impl_MissingBars_L4 g s3) BIG ((w64 (s3.1 + 1)), s3.2)).bind (fun b55 =>
 some (.inl ((w64 (b55.1 + 1)), b55.2))
))
 else
 some (.inr s3.2)
)
def m_impl_MissingBars (g : TGraph) : Option (List TBar) :=
(m_impl_IsGraph g).bind (fun r1 =>
(bif (!r1) then
 some ([] : List TBar)
 else
((loopM (m_impl_MissingBars_L3 g) BIG (0, ([] : List TBar))).bind (fun b38 =>
 some b38
))
)
)
def m_impl_FreedomOf (g : TGraph) : Option Int :=
(m_impl_IsGraph g).bind (fun r1 =>
(bif (!r1) then
 some (-1)
 else
(m_impl_RankOf g 2 3).bind (fun r3 =>
 some (w64 ((if 0 < (w64 ((w64 (2 * g.Points)) - 3)) then (w64 ((w64 (2 * g.Points)) - 3)) else 0) - r3))
)
)
)
def m_impl_IsRigid (g : TGraph) : Option Bool :=
(m_impl_FreedomOf g).bind (fun r1 =>
 some (r1 == 0)
)
def m_impl_RemoveBar (g : TGraph) (k : Int) : Option (TGraph × Bool) :=
(m_impl_copyGraph g).bind (fun r1 =>
(((
(m_impl_IsGraph g).bind (fun r6 =>
(bif (!r6) then
 some true
 else
(m_impl_within k 0 (w64 ((g.Bars.length : Int) - 1))).bind (fun r8 =>
 some (!r8)
)
)
)
) : Option Bool).bind (fun j5 =>
(bif j5 then
 some (r1, false)
 else
(slc r1.Bars 0 k).bind (fun v10 =>
(slc r1.Bars (w64 (k + 1)) (r1.Bars.length : Int)).bind (fun v11 =>
(lim ((k.toNat - 0) + (r1.Bars.length - (w64 (k + 1)).toNat))).bind (fun u12 =>
(same ((w64 (k + 1)).toNat + (r1.Bars.length - (w64 (k + 1)).toNat) - r1.Bars.length) 0).bind (fun u13 =>
(same ((k.toNat - 0) - r1.Bars.length) 0).bind (fun u14 =>
 some ((TGraph.mk r1.Points (r1.Bars.take (k.toNat - 0) ++ (r1.Bars.drop ((w64 (k + 1)).toNat)).take (r1.Bars.length - (w64 (k + 1)).toNat))), true)
)))
)
)
)
))
)
def m_impl_BridgesOf_L1 (g : TGraph) (k : Int) (l : Int) (r1 : Int) (s3 : (Int × (List Int))) : Option ((Int × (List Int)) ⊕ (List Int)) :=
(bif (decide (s3.1 < (g.Bars.length : Int))) then
(m_impl_RemoveBar g s3.1).bind (fun r22 =>
(m_impl_RankOf r22.1 k l).bind (fun r23 =>
(((
(bif (decide (r23 < r1)) then
(lim (s3.2.length + ([s3.1] : List Int).length)).bind (fun u28 =>
 some (s3.2 ++ ([s3.1] : List Int))
)
 else
 some s3.2
)
) : Option (List Int)).bind (fun j26 =>
 some (.inl ((w64 (s3.1 + 1)), j26))
))
)
)
 else
 some (.inr s3.2)
)
def m_impl_BridgesOf (g : TGraph) (k : Int) (l : Int) : Option (List Int) :=
(m_impl_RankOf g k l).bind (fun r1 =>
(bif (decide (r1 < 0)) then
 some ([] : List Int)
 else
((loopM (m_impl_BridgesOf_L1 g k l r1) BIG (0, ([] : List Int))).bind (fun b20 =>
 some b20
))
)
)
def m_impl_FragileBars (g : TGraph) : Option (List Int) :=
(m_impl_BridgesOf g 2 3).bind (fun r1 =>
 some r1
)
def m_impl_IsRedundantlyRigid (g : TGraph) : Option Bool :=
(((
(m_impl_IsRigid g).bind (fun r5 =>
(bif r5 then
(m_impl_FragileBars g).bind (fun r7 =>
 some ((r7.length : Int) == 0)
)
 else
 some false
)
)
) : Option Bool).bind (fun j4 =>
 some j4
))
def m_impl_WhyNotGlobal (g : TGraph) : Option ByteArray :=
(((
(m_impl_IsGraph g).bind (fun r5 =>
(bif (!r5) then
 some true
 else
(m_impl_hasDoubles g).bind (fun r7 =>
 some r7
)
)
)
) : Option Bool).bind (fun j4 =>
(bif j4 then
 some (ByteArray.mk #[103, 114, 97, 112, 104])
 else
(((
(bif (decide (g.Points ≤ 3)) then
(m_impl_MissingBars g).bind (fun r18 =>
(bif (decide (0 < (r18.length : Int))) then
 some true
 else
(bif (decide (3 < g.Points)) then
(m_impl_IsRigid g).bind (fun r21 =>
 some (!r21)
)
 else
 some false
)
)
)
 else
(bif (decide (3 < g.Points)) then
(m_impl_IsRigid g).bind (fun r23 =>
 some (!r23)
)
 else
 some false
)
)
) : Option Bool).bind (fun j16 =>
(bif j16 then
 some (ByteArray.mk #[114, 105, 103, 105, 100])
 else
(((
(bif (decide (3 < g.Points)) then
(m_impl_IsKConnected g 3).bind (fun r29 =>
 some (!r29)
)
 else
 some false
)
) : Option Bool).bind (fun j27 =>
(bif j27 then
 some (ByteArray.mk #[99, 111, 110, 110, 101, 99, 116, 101, 100])
 else
(((
(bif (decide (3 < g.Points)) then
(m_impl_IsRedundantlyRigid g).bind (fun r35 =>
 some (!r35)
)
 else
 some false
)
) : Option Bool).bind (fun j33 =>
(bif j33 then
 some (ByteArray.mk #[114, 101, 100, 117, 110, 100, 97, 110, 116])
 else
 some ByteArray.empty
)
))
)
))
)
))
)
))
def m_impl_IsGloballyRigid (g : TGraph) : Option Bool :=
(m_impl_WhyNotGlobal g).bind (fun r1 =>
 some (r1.toList == ByteArray.empty.toList)
)
def m_spec_FreedomOf (g : TGraph) : Option Int :=
(m_spec_IsGraph g).bind (fun r1 =>
(bif (!r1) then
 some (-1)
 else
(m_spec_RankOf g 2 3).bind (fun r3 =>
 some (w64 ((if 0 < (w64 ((w64 (2 * g.Points)) - 3)) then (w64 ((w64 (2 * g.Points)) - 3)) else 0) - r3))
)
)
)
def m_spec_IsRigid (g : TGraph) : Option Bool :=
(m_spec_FreedomOf g).bind (fun r1 =>
 some (r1 == 0)
)
def m_spec_BridgesOf_L1 (g : TGraph) (k : Int) (l : Int) (r1 : Int) (s2 : (Int × (List Int))) : Option ((Int × (List Int)) ⊕ (List Int)) :=
(((
(bif (decide (s2.1 < (g.Bars.length : Int))) then
 some (decide (0 ≤ r1))
 else
 some false
)
) : Option Bool).bind (fun j27 =>
(bif j27 then
(m_spec_RemoveBar g s2.1).bind (fun r30 =>
(m_spec_RankOf r30.1 k l).bind (fun r31 =>
(((
(bif (decide (r31 < r1)) then
(lim (s2.2.length + ([s2.1] : List Int).length)).bind (fun u36 =>
 some (s2.2 ++ ([s2.1] : List Int))
)
 else
 some s2.2
)
) : Option (List Int)).bind (fun j34 =>
 some (.inl ((w64 (s2.1 + 1)), j34))
))
)
)
 else
 some (.inr s2.2)
)
))
def m_spec_BridgesOf (g : TGraph) (k : Int) (l : Int) : Option (List Int) :=
(m_spec_RankOf g k l).bind (fun r1 =>
((loopM (m_spec_BridgesOf_L1 g k l r1) BIG (0, ([] : List Int))).bind (fun b25 =>
 some b25
))
)
def m_spec_FragileBars (g : TGraph) : Option (List Int) :=
(m_spec_BridgesOf g 2 3).bind (fun r1 =>
 some r1
)
def m_spec_IsRedundantlyRigid (g : TGraph) : Option Bool :=
(((
(m_spec_IsRigid g).bind (fun r5 =>
(bif r5 then
(m_spec_FragileBars g).bind (fun r7 =>
 some ((r7.length : Int) == 0)
)
 else
 some false
)
)
) : Option Bool).bind (fun j4 =>
 some j4
))
def m_spec_WhyNotGlobal (g : TGraph) : Option ByteArray :=
(m_spec_l17Simple g).bind (fun r1 =>
(bif (!r1) then
 some (ByteArray.mk #[103, 114, 97, 112, 104])
 else
(bif (decide (g.Points ≤ 3)) then
(bif (decide ((g.Bars.length : Int) < (w64 (Int.tdiv (w64 (g.Points * (w64 (g.Points - 1)))) 2)))) then
 some (ByteArray.mk #[114, 105, 103, 105, 100])
 else
 some ByteArray.empty
)
 else
(m_spec_IsRigid g).bind (fun r5 =>
(bif (!r5) then
 some (ByteArray.mk #[114, 105, 103, 105, 100])
 else
(m_spec_IsKConnected g 3).bind (fun r7 =>
(bif (!r7) then
 some (ByteArray.mk #[99, 111, 110, 110, 101, 99, 116, 101, 100])
 else
(m_spec_IsRedundantlyRigid g).bind (fun r9 =>
(bif (!r9) then
 some (ByteArray.mk #[114, 101, 100, 117, 110, 100, 97, 110, 116])
 else
 some ByteArray.empty
)
)
)
)
)
)
)
)
)
def m_spec_IsGloballyRigid (g : TGraph) : Option Bool :=
(m_spec_WhyNotGlobal g).bind (fun r1 =>
 some (r1.toList == ByteArray.empty.toList)
)
def m_impl_HingePairs (g : TGraph) : Option (List (List Int)) :=
(m_impl_CutSets g 2).bind (fun r1 =>
 some r1
)
def m_spec_HingePairs (g : TGraph) : Option (List (List Int)) :=
(m_spec_CutSets g 2).bind (fun r1 =>
 some r1
)
def m_laws_sameInts_L1 (a : (List Int)) (b : (List Int)) (s2 : Int) : Option (Int ⊕ (Unit ⊕ Bool)) :=
(bif (decide (s2 < (a.length : Int))) then
(idx a s2).bind (fun x13 =>
(idx b s2).bind (fun x14 =>
(bif (x13 != x14) then
 some (.inr (.inr false))
 else
 some (.inl (w64 (s2 + 1)))
)
)
)
 else
 some (.inr (.inl ()))
)
def m_laws_sameInts (a : (List Int)) (b : (List Int)) : Option Bool :=
(bif ((a.length : Int) != (b.length : Int)) then
 some false
 else
((loopM (m_laws_sameInts_L1 a b) BIG 0).bind (Sum.elim (fun b11 => (
 some true
)) (fun r => some r)))
)
def m_laws_sameSets_L1 (a : (List (List Int))) (b : (List (List Int))) (s2 : Int) : Option (Int ⊕ (Unit ⊕ Bool)) :=
(bif (decide (s2 < (a.length : Int))) then
(idx a s2).bind (fun x15 =>
(idx b s2).bind (fun x16 =>
(m_laws_sameInts x15 x16).bind (fun r17 =>
(bif (!r17) then
 some (.inr (.inr false))
 else
 some (.inl (w64 (s2 + 1)))
)
)
)
)
 else
 some (.inr (.inl ()))
)
def m_laws_sameSets (a : (List (List Int))) (b : (List (List Int))) : Option Bool :=
(bif ((a.length : Int) != (b.length : Int)) then
 some false
 else
((loopM (m_laws_sameSets_L1 a b) BIG 0).bind (Sum.elim (fun b13 => (
 some true
)) (fun r => some r)))
)
def m_spec_l16Draw (code : (List Int)) : Option (TGraph × Int) :=
(m_spec_l1New code).bind (fun r1 =>
(m_spec_l15Any r1).bind (fun r2 =>
(m_spec_l1Below r2.2 6).bind (fun r3 =>
 some (r2.1, (w64 (r3.1 - 1)))
)
)
)
def m_spec_DrawCutSets (code : (List Int)) : Option (TGraph × Int) :=
(m_spec_l16Draw code).bind (fun r1 =>
 some (r1.1, r1.2)
)
def m_spec_DrawIsKConnected (code : (List Int)) : Option (TGraph × Int) :=
(m_spec_l16Draw code).bind (fun r1 =>
 some (r1.1, r1.2)
)
def m_spec_DrawWithoutPoints (code : (List Int)) : Option (TGraph × (List Int)) :=
(m_spec_l1New code).bind (fun r1 =>
(m_spec_l2Any r1).bind (fun r2 =>
(m_spec_l1Below r2.2 64).bind (fun r3 =>
(m_spec_l3Set 6 r3.1).bind (fun r4 =>
 some (r2.1, r4)
)
)
)
)
def m_spec_DrawWhyNotGlobal (code : (List Int)) : Option TGraph :=
(m_spec_l1New code).bind (fun r1 =>
(m_spec_l15Any r1).bind (fun r2 =>
 some r2.1
)
)
def m_laws_FnConnected (code : (List Int)) : Option Bool :=
(m_laws_big code).bind (fun r1 =>
(bif r1 then
 some true
 else
(m_spec_DrawConnectivityOf code).bind (fun r3 =>
(m_impl_ConnectivityOf r3).bind (fun r4 =>
(((
(m_spec_ConnectivityOf r3).bind (fun r17 =>
(bif (r4 != r17) then
 some true
 else
(m_impl_IsGloballyRigid r3).bind (fun r19 =>
(m_spec_IsGloballyRigid r3).bind (fun r20 =>
(bif (r19 != r20) then
 some true
 else
(m_impl_WhyNotGlobal r3).bind (fun r22 =>
(m_spec_WhyNotGlobal r3).bind (fun r23 =>
(bif (!(r22.toList == r23.toList)) then
 some true
 else
(m_impl_HingePairs r3).bind (fun r25 =>
(m_spec_HingePairs r3).bind (fun r26 =>
(m_laws_sameSets r25 r26).bind (fun r27 =>
 some (!r27)
)
)
)
)
)
)
)
)
)
)
)
) : Option Bool).bind (fun j16 =>
(bif j16 then
 some false
 else
(((
(m_spec_IsGraph r3).bind (fun r57 =>
(bif r57 then
(m_impl_IsRigid r3).bind (fun r59 =>
(bif r59 then
(bif (decide (3 ≤ r3.Points)) then
(bif (decide (r4 < 2)) then
 some true
 else
(m_impl_IsGloballyRigid r3).bind (fun r63 =>
(bif r63 then
(m_impl_IsRigid r3).bind (fun r65 =>
(bif (!r65) then
 some true
 else
(bif (decide (4 ≤ r3.Points)) then
(bif (decide (r4 < 3)) then
 some true
 else
(m_impl_FragileBars r3).bind (fun r69 =>
 some (decide (0 < (r69.length : Int)))
)
)
 else
 some false
)
)
)
 else
 some false
)
)
)
 else
(m_impl_IsGloballyRigid r3).bind (fun r70 =>
(bif r70 then
(m_impl_IsRigid r3).bind (fun r72 =>
(bif (!r72) then
 some true
 else
(bif (decide (4 ≤ r3.Points)) then
(bif (decide (r4 < 3)) then
 some true
 else
(m_impl_FragileBars r3).bind (fun r76 =>
 some (decide (0 < (r76.length : Int)))
)
)
 else
 some false
)
)
)
 else
 some false
)
)
)
 else
(m_impl_IsGloballyRigid r3).bind (fun r77 =>
(bif r77 then
(m_impl_IsRigid r3).bind (fun r79 =>
(bif (!r79) then
 some true
 else
(bif (decide (4 ≤ r3.Points)) then
(bif (decide (r4 < 3)) then
 some true
 else
(m_impl_FragileBars r3).bind (fun r83 =>
 some (decide (0 < (r83.length : Int)))
)
)
 else
 some false
)
)
)
 else
 some false
)
)
)
)
 else
 some false
)
)
) : Option Bool).bind (fun j56 =>
(bif j56 then
 some false
 else
(m_spec_DrawCutSets code).bind (fun r85 =>
(m_spec_DrawIsKConnected code).bind (fun r86 =>
(m_spec_DrawWithoutPoints code).bind (fun r87 =>
(m_spec_DrawWhyNotGlobal code).bind (fun r88 =>
(((
(m_impl_CutSets r85.1 r85.2).bind (fun r120 =>
(m_spec_CutSets r85.1 r85.2).bind (fun r121 =>
(m_laws_sameSets r120 r121).bind (fun r122 =>
(bif r122 then
(m_impl_IsKConnected r86.1 r86.2).bind (fun r124 =>
(m_spec_IsKConnected r86.1 r86.2).bind (fun r125 =>
(bif (r124 == r125) then
(bif (decide (r86.2 < 2)) then
(m_impl_WithoutPoints r87.1 r87.2).bind (fun r128 =>
(m_spec_WithoutPoints r87.1 r87.2).bind (fun r129 =>
(m_spec_EqualGraphs r128 r129).bind (fun r130 =>
(bif r130 then
(m_impl_WhyNotGlobal r88).bind (fun r132 =>
(m_impl_IsGloballyRigid r88).bind (fun r133 =>
 some ((r132.toList == ByteArray.empty.toList) == r133)
)
)
 else
 some false
)
)
)
)
 else
(m_impl_IsKConnected r86.1 r86.2).bind (fun r134 =>
(bif (!r134) then
(m_impl_WithoutPoints r87.1 r87.2).bind (fun r136 =>
(m_spec_WithoutPoints r87.1 r87.2).bind (fun r137 =>
(m_spec_EqualGraphs r136 r137).bind (fun r138 =>
(bif r138 then
(m_impl_WhyNotGlobal r88).bind (fun r140 =>
(m_impl_IsGloballyRigid r88).bind (fun r141 =>
 some ((r140.toList == ByteArray.empty.toList) == r141)
)
)
 else
 some false
)
)
)
)
 else
(m_impl_IsKConnected r86.1 (w64 (r86.2 - 1))).bind (fun r142 =>
(bif r142 then
(m_impl_WithoutPoints r87.1 r87.2).bind (fun r144 =>
(m_spec_WithoutPoints r87.1 r87.2).bind (fun r145 =>
(m_spec_EqualGraphs r144 r145).bind (fun r146 =>
(bif r146 then
(m_impl_WhyNotGlobal r88).bind (fun r148 =>
(m_impl_IsGloballyRigid r88).bind (fun r149 =>
 some ((r148.toList == ByteArray.empty.toList) == r149)
)
)
 else
 some false
)
)
)
)
 else
 some false
)
)
)
)
)
 else
 some false
)
)
)
 else
 some false
)
)
)
)
) : Option Bool).bind (fun j119 =>
 some j119
))
)
)
)
)
)
))
)
))
)
)
)
)
end Go.Proofs.Yteognanhfpbghaa
end
section
set_option linter.unusedVariables false
set_option linter.unusedSimpArgs false
set_option linter.unnecessarySimpa false
open Go Go.Fw
namespace Go.Proofs.Yteognanhfpbghaa
abbrev SM (n : Nat) : Prop := n ≤ 2147483648
end Go.Proofs.Yteognanhfpbghaa
end
