/- Parts of a proof that a law of the program holds: what the program computes, and why that is right. -/
import Derived.KernelRfl
import Derived.MapKept
import Derived.Carry
import Derived.ChangeMaps5
import Derived.Test.YteognanhfpbghaaZEHasTwin0
section
set_option linter.unusedVariables false
set_option linter.unusedSimpArgs false
set_option linter.unnecessarySimpa false
namespace Go.Fw
def idx {α : Type} (l : List α) (i : Int) : Option α := if 0 ≤ i then l[i.toNat]? else none
def lim (n : Nat) : Option Unit := if n ≤ LIM then some () else none
def lenOk (n : Int) : Option Unit := if 0 ≤ n ∧ n ≤ 2147483648 then some () else none
def same (a b : Nat) : Option Unit := if a = b then some () else none
def BIG : Nat := 18446744073709551616
theorem idx_nn {α : Type} {l : List α} {i : Int} {x : α} (h : idx l i = some x) : 0 ≤ i := by
  unfold idx at h; split at h
  · assumption
  · cases h
theorem idx_get {α : Type} {l : List α} {i : Int} {x : α} (h : idx l i = some x) : l[i.toNat]? = some x := by
  unfold idx at h; split at h
  · assumption
  · cases h
theorem idx_lt {α : Type} {l : List α} {i : Int} {x : α} (h : idx l i = some x) : i < l.length := by
  have h0 := idx_nn h
  have h1 := (List.getElem?_eq_some_iff.1 (idx_get h)).1
  omega
theorem lim_le {n : Nat} {u : Unit} (h : lim n = some u) : n ≤ LIM := by
  unfold lim at h; split at h
  · assumption
  · cases h
theorem lenOk_le {n : Int} {u : Unit} (h : lenOk n = some u) : 0 ≤ n ∧ n ≤ LIM := by
  unfold lenOk at h; split at h
  · assumption
  · cases h
theorem same_eq {a b : Nat} {u : Unit} (h : same a b = some u) : a = b := by
  unfold same at h; split at h
  · assumption
  · cases h
section
variable {P : Program} {C : Ctx} {σ σ' : Slots} {m m' : Mem} {is : List It} {τ υ : Type} {M : Option τ} {K : τ → Post}
def SubS (σ' σ : Slots) : Prop := match σ' with
  | [] => True
  | (t, v) :: r => lk σ t = some v ∧ SubS r σ
def SubM (m' m : Mem) : Prop := match m' with
  | [] => True
  | (n, o) :: r => lk m n = some o ∧ SubM r m
theorem SubS.spec : ∀ {σ' : Slots}, SubS σ' σ → ∀ t v, lk σ' t = some v → lk σ t = some v
  | [], _, _, _, h => by cases h
  | (k, x) :: r, hs, t, v, h => by
    change (bif Nat.beq k t then some x else lk r t) = some v at h
    cases hb : Nat.beq k t with
    | true =>
      rw [hb, cond_true] at h
      injection h with h
      have := Nat.eq_of_beq_eq_true hb
      subst this
      subst h
      exact hs.1
    | false =>
      rw [hb, cond_false] at h
      exact SubS.spec hs.2 t v h
theorem SubM.spec : ∀ {m' : Mem}, SubM m' m → ∀ t v, lk m' t = some v → lk m t = some v
  | [], _, _, _, h => by cases h
  | (k, x) :: r, hs, t, v, h => by
    change (bif Nat.beq k t then some x else lk r t) = some v at h
    cases hb : Nat.beq k t with
    | true =>
      rw [hb, cond_true] at h
      injection h with h
      have := Nat.eq_of_beq_eq_true hb
      subst this
      subst h
      exact hs.1
    | false =>
      rw [hb, cond_false] at h
      exact SubM.spec hs.2 t v h
theorem Ent.of (h1 : SubS σ' σ) (h2 : SubM m' m) : Ent P C σ m σ' m' := fun R B g _ _ hs => ⟨R, B, g, hs.weak (SubS.spec h1) (SubM.spec h2)⟩
theorem Ent.refl : Ent P C σ m σ m := fun R B g _ _ hs => ⟨R, B, g, hs⟩
theorem Ent.trans {σ2 : Slots} {m2 : Mem} (h : Ent P C σ m σ' m') (k : Ent P C σ' m' σ2 m2) : Ent P C σ m σ2 m2 := fun R B g a w hs => by
  obtain ⟨R', B', g', hs'⟩ := h R B g a w hs
  exact k R' B' g' a w hs'
theorem AOR.ent {ops : Array Oper} {rest : List Oper} (h : Ent P C σ m σ' m') (k : AOR P C ops rest is σ' m' M K) : AOR P C ops rest is σ m M K := fun t ht R B g a w hs => by
  obtain ⟨R', B', g', hs'⟩ := h R B g a w hs
  exact k t ht R' B' g' a w hs'
def KL {σs β ρ : Type} (P : Program) (C : Ctx) (id : Nat) (S : σs → Slots × Mem) (Sb : β → Slots × Mem) (Kr : ρ → Post) : σs ⊕ (β ⊕ ρ) → Post := fun o e σ m => match o with
  | .inl s => e = .normal ∧ Ent P C σ m (S s).1 (S s).2
  | .inr (.inl b) => e = .exit id ∧ Ent P C σ m (Sb b).1 (Sb b).2
  | .inr (.inr r) => e = .ret ∧ Kr r .ret σ m
theorem AWR.loopR {σs β ρ : Type} {body : Code} {id : Nat} (bm : σs → Option (σs ⊕ (β ⊕ ρ))) (S : σs → Slots × Mem) (Sb : β → Slots × Mem) (Kr : ρ → Post) {f : β → Option τ} {gr : ρ → Option τ} {n : Nat} {s : σs}
    (hb : ∀ s, AWR P C [.code body] (S s).1 (S s).2 (bm s) (KL P C id S Sb Kr)) (h0 : Ent P C σ m (S s).1 (S s).2) (hid : hasBlk id is = true)
    (hl : ∀ b, loopM bm n s = some (.inl b) → AWR P C (dropTo id is) (Sb b).1 (Sb b).2 (f b) K) (hr : ∀ r t σ m, gr r = some t → Kr r .ret σ m → K t .ret σ m) :
    AWR P C (.code (.loop body) :: is) σ m ((loopM bm n s).bind (Sum.elim f gr)) K :=
  AWR.loop (Lv := fun o e σ m => match o with | .inl b => e = .exit id ∧ Ent P C σ m (Sb b).1 (Sb b).2 | .inr r => e = .ret ∧ Kr r .ret σ m) bm S
    (fun s t ht R B g a w hs => wp_mono (hb s t ht R B g a w hs) fun e a w he => by
      obtain ⟨σ', m', R', B', g', hs', hp⟩ := he
      refine ⟨σ', m', R', B', g', hs', ?_⟩
      rcases t with s' | b | r
      · exact hp
      · obtain ⟨rfl, hp⟩ := hp
        exact ⟨by simp, rfl, hp⟩
      · obtain ⟨rfl, hp⟩ := hp
        exact ⟨by simp, rfl, hp⟩) h0 (fun u e σ' m' hu hlv t ht => by
      rcases u with b | r
      · obtain ⟨rfl, hp⟩ := hlv
        exact AWE.exit_to hid (AWE.ent hp (hl b hu t ht))
      · obtain ⟨rfl, hp⟩ := hlv
        exact AWE.ret_end (hr r t σ' m' ht hp))
def KL1 {σs β : Type} (P : Program) (C : Ctx) (id : Nat) (S : σs → Slots × Mem) (Sb : β → Slots × Mem) : σs ⊕ β → Post := fun o e σ m => match o with
  | .inl s => e = .normal ∧ Ent P C σ m (S s).1 (S s).2
  | .inr b => e = .exit id ∧ Ent P C σ m (Sb b).1 (Sb b).2
theorem AWR.loop1 {σs β : Type} {body : Code} {id : Nat} (bm : σs → Option (σs ⊕ β)) (S : σs → Slots × Mem) (Sb : β → Slots × Mem) {f : β → Option τ} {n : Nat} {s : σs}
    (hb : ∀ s, AWR P C [.code body] (S s).1 (S s).2 (bm s) (KL1 P C id S Sb)) (h0 : Ent P C σ m (S s).1 (S s).2) (hid : hasBlk id is = true)
    (hl : ∀ b, loopM bm n s = some b → AWR P C (dropTo id is) (Sb b).1 (Sb b).2 (f b) K) : AWR P C (.code (.loop body) :: is) σ m ((loopM bm n s).bind f) K :=
  AWR.loop (Lv := fun b e σ m => e = .exit id ∧ Ent P C σ m (Sb b).1 (Sb b).2) bm S
    (fun s t ht R B g a w hs => wp_mono (hb s t ht R B g a w hs) fun e a w he => by
      obtain ⟨σ', m', R', B', g', hs', hp⟩ := he
      refine ⟨σ', m', R', B', g', hs', ?_⟩
      rcases t with s' | b
      · exact hp
      · obtain ⟨rfl, hp⟩ := hp
        exact ⟨by simp, rfl, hp⟩) h0 (fun u e σ' m' hu hlv t ht => by
      obtain ⟨rfl, hp⟩ := hlv
      exact AWE.exit_to hid (AWE.ent hp (hl u hu t ht)))
def KJ (P : Program) (C : Ctx) (S : υ → Slots × Mem) : υ → Post := fun u e σ m => e = .normal ∧ Ent P C σ m (S u).1 (S u).2
theorem AWR.joinK {c : Code} {M1 : Option υ} {f : υ → Option τ} (S : υ → Slots × Mem) (h1 : AWR P C [.code c] σ m M1 (KJ P C S)) (h2 : ∀ t, M1 = some t → AWR P C is (S t).1 (S t).2 (f t) K) : AWR P C (.code c :: is) σ m (M1.bind f) K :=
  AWR.join S h1 h2
theorem AWE.exit_end {id : Nat} {Q : Post} : ∀ {is : List It}, hasBlk id is = false → Q (.exit id) σ m → AWE P C is (.exit id) σ m Q
  | [], _, h => AWE.nil h
  | .code c :: is, hb, h => AWE.exit_code (AWE.exit_end (is := is) hb h)
  | .blk i :: is, hb, h => by
    unfold hasBlk at hb
    rw [Bool.or_eq_false_iff] at hb
    exact AWE.exit_miss (Ne.symm (Nat.ne_of_beq_eq_false hb.1)) (AWE.exit_end (is := is) hb.2 h)
theorem AWR.exit_end {id : Nat} {t : τ} (hb : hasBlk id is = false) (h : K t (.exit id) σ m) : AWR P C (.code (.exit id) :: is) σ m (some t) K := AWR.exit_out (AWE.exit_end hb h)
def FPost {ρ : Type} (P : Program) (res : List ResultVar) (us : Mem) (X : List Nat) (rs : ρ → List SV) (dfs : ρ → Mem) : ρ → Post := fun t e σ m =>
  (e = .normal ∨ e = .ret) ∧ RvL P σ m res (rs t) ∧ LkL m (dfs t) ∧ subL (keys us) (keys (dfs t)) = true ∧ subL X (keys (dfs t)) = true ∧ PermA (resA (rs t)) ∧ (∀ p ∈ dfs t, PermO p.2) ∧ okA (keys us ++ X) (resA (rs t)) = true ∧
    (dfs t).all (fun p => (keys us ++ X).elem p.1 && okO (keys us ++ X) p.2) = true
def PermPL : List PV → Prop
  | [] => True
  | p :: r => PermP p ∧ PermPL r
theorem PermPL.spec : ∀ {l : List PV}, PermPL l → ∀ p ∈ l, PermP p
  | [], _, p, hp => by cases hp
  | q :: r, h, p, hp => by
    cases hp with
    | head => exact h.1
    | tail _ hp => exact PermPL.spec h.2 p hp
def PermCL : List CV → Prop
  | [] => True
  | p :: r => PermC p ∧ PermCL r
theorem PermCL.spec : ∀ {l : List CV}, PermCL l → ∀ p ∈ l, PermC p
  | [], _, p, hp => by cases hp
  | q :: r, h, p, hp => by
    cases hp with
    | head => exact h.1
    | tail _ hp => exact PermCL.spec h.2 p hp
def PermSV : SV → Prop
  | .c x => PermC x
  | .agg cs => PermCL cs
theorem PermSV.spec {x : SV} (h : PermSV x) : PermS x := by
  cases x with
  | c x => exact h
  | agg cs => exact PermCL.spec h
def PermSL : List SV → Prop
  | [] => True
  | x :: r => PermSV x ∧ PermSL r
theorem PermSL.spec : ∀ {l : List SV}, PermSL l → ∀ p ∈ l, PermS p
  | [], _, p, hp => by cases hp
  | q :: r, h, p, hp => by
    cases hp with
    | head => exact h.1.spec
    | tail _ hp => exact PermSL.spec h.2 p hp
theorem PermSL.res {l : List SV} (h : PermSL l) : PermA (resA l) := by
  match l, h with
  | [], _ => intro x hx; cases hx
  | [x], h => exact h.1.spec
  | x :: y :: r, h => exact PermSL.spec h
def PermL : Mem → Prop
  | [] => True
  | (_, o) :: r => PermO o ∧ PermL r
theorem PermL.spec : ∀ {df : Mem}, PermL df → ∀ p ∈ df, PermO p.2
  | [], _, p, hp => by cases hp
  | (n, o) :: r, h, p, hp => by
    cases hp with
    | head => exact h.1
    | tail _ hp => exact PermL.spec h.2 p hp
theorem PermO.prow' {α : Type} {enc : α → List PV} {e : TypeId} {xs : List α} (h : ∀ a, PermPL (enc a)) : PermO (.prow e (xs.map enc)) := fun cs hcs p hp => by
  obtain ⟨a, _, rfl⟩ := List.mem_map.1 hcs
  exact (h a).spec p hp
theorem infS {t : TypeId} (h : (P.info? t).isSome = true) : P.info? t = some ((P.info? t).get h) := (Option.some_get h).symm
theorem FPost.mk {ρ : Type} {res : List ResultVar} {us : Mem} {X : List Nat} {rs : ρ → List SV} {dfs : ρ → Mem} {t : ρ} {e : Exit} (he : e = .normal ∨ e = .ret) (h1 : RvL P σ m res (rs t)) (h2 : LkL m (dfs t))
    (hside : (subL (keys us) (keys (dfs t)) && subL X (keys (dfs t)) && okA (keys us ++ X) (resA (rs t)) && (dfs t).all (fun p => (keys us ++ X).elem p.1 && okO (keys us ++ X) p.2)) = true) (h3 : PermSL (rs t)) (h4 : PermL (dfs t)) :
    FPost P res us X rs dfs t e σ m := by
  simp only [Bool.and_eq_true] at hside
  obtain ⟨⟨⟨a1, a2⟩, a3⟩, a4⟩ := hside
  exact ⟨he, h1, h2, a1, a2, h3.res, h4.spec, a3, a4⟩
theorem FPost.ret {ρ : Type} {res : List ResultVar} {us : Mem} {X : List Nat} {rs : ρ → List SV} {dfs : ρ → Mem} {t : ρ} {e : Exit} {σ : Slots} {m : Mem} (h : FPost P res us X rs dfs t .ret σ m) : FPost P res us X rs dfs t .ret σ m := h
theorem Fn.of {f : FuncId} {fn : Func} {c : Code} {args : List SV} {us : Mem} {pn X : List Nat} {N : Nat} {ρ : Type} {M : Option ρ} {rs : ρ → List SV} {dfs : ρ → Mem} (hf : P.funcs[f]? = some fn) (hb : fn.body = some c) (hN : fn.ntmps = N)
    (hargs : args.length ≤ N) (hside : (subL (keys us) (pn ++ X) && disL X pn && subL pn (keys us)) = true)
    (h : ∀ w0 U0 R0 g0, AWR P ⟨w0, U0, R0, g0, N, pn⟩ [.code c] (argSl 0 args) us M (FPost P fn.results.toList us X rs dfs)) : ∀ t, M = some t → Fn P f args us (resA (rs t)) (dfs t) (keys us) X :=
  Fn.of_body (df := []) hf hb hN hargs hside fun w0 U0 R0 g0 _ => h w0 U0 R0 g0
theorem Fn.ofU {f : FuncId} {fn : Func} {c : Code} {args : List SV} {us : Mem} {pn X : List Nat} {N : Nat} {ρ : Type} {M : Option ρ} {rs : ρ → List SV} {dfs : ρ → Mem} (hf : P.funcs[f]? = some fn) (hb : fn.body = some c) (hN : fn.ntmps = N)
    (hargs : args.length ≤ N) (hside : (subL (keys us) (pn ++ X) && disL X pn && subL pn (keys us)) = true)
    (h : ∀ w0 U0 R0 g0, (∀ b, U0 b → ∃ n ∈ keys us, (g0 n).has b) → AWR P ⟨w0, U0, R0, g0, N, pn⟩ [.code c] (argSl 0 args) us M (FPost P fn.results.toList us X rs dfs)) : ∀ t, M = some t → Fn P f args us (resA (rs t)) (dfs t) (keys us) X :=
  Fn.of_body (df := []) hf hb hN hargs hside h
end
def rn (ρ : List (Nat × Nat)) (n : Nat) : Nat := (lk ρ n).getD 0
def rnC (ρ : List (Nat × Nat)) : CV → CV
  | .loc n o l => .loc (rn ρ n) o l
  | .pl n o => .pl (rn ρ n) o
  | .fn f caps => .fn f (caps.map (rn ρ))
  | .mref n => .mref (rn ρ n)
  | .tl p k o l => .tl (rn ρ p) k o l
  | .tpl p k o => .tpl (rn ρ p) k o
  | x => x
def rnS (ρ : List (Nat × Nat)) : SV → SV
  | .c x => .c (rnC ρ x)
  | .agg cs => .agg (cs.map (rnC ρ))
def rnA (ρ : List (Nat × Nat)) : AV → AV
  | .s x => .s (rnS ρ x)
  | .tup xs => .tup (xs.map (rnS ρ))
def rnO (ρ : List (Nat × Nat)) : Ob → Ob
  | .row e els => .row e (els.map (·.map (rnC ρ)))
  | .prow e els => .prow e els
  | .mp es => .mp es
  | .pool e rows => .pool e rows
  | .trow e p lens => .trow e (rn ρ p) lens
  | .unk => .unk
def rnM (ρ : List (Nat × Nat)) (m : Mem) : Mem := m.map fun p => (rn ρ p.1, rnO ρ p.2)
section
variable {P : Program} {w : World} {R B : Nat → Prop} {g g' : Nat → GS} {ρ : List (Nat × Nat)}
theorem RC.rn {x : CV} {v : Value} (hz : okC (keys ρ) x = true) (hg : ∀ n ∈ keys ρ, g' (rn ρ n) = g n) (h : RC P w R B g x v) : RC P w R B g' (rnC ρ x) v := by
  refine ⟨h.1, ?_⟩
  have h2 := h.2
  cases x with
  | pv p => exact h2
  | px q cells => exact h2
  | loc n off len =>
    have hn := hg n (List.mem_of_elem_eq_true hz)
    rcases h2 with ⟨h3, h4⟩ | h3 | ⟨b, cap, cur, e, h3, h4⟩
    · exact .inl ⟨hn.trans h3, h4⟩
    · exact .inr (.inl h3)
    · exact .inr (.inr ⟨b, cap, cur, e, hn.trans h3, h4⟩)
  | pl n off =>
    obtain ⟨b, h3, h4⟩ := h2
    exact ⟨b, (hg n (List.mem_of_elem_eq_true hz)).trans h3, h4⟩
  | fn f caps =>
    obtain ⟨vs, h3, h4, h5⟩ := h2
    refine ⟨vs, h3, by simpa using h4, fun k n hk => ?_⟩
    rw [List.getElem?_map] at hk
    cases hc : caps[k]? with
    | none => rw [hc] at hk; cases hk
    | some n0 =>
      rw [hc] at hk
      injection hk with hk
      subst hk
      obtain ⟨b, h6, h7⟩ := h5 k n0 hc
      exact ⟨b, (hg n0 (List.mem_of_elem_eq_true (List.all_eq_true.1 hz n0 (List.mem_of_getElem? hc)))).trans h6, h7⟩
  | mref n =>
    obtain ⟨b, h3, h4⟩ := h2
    exact ⟨b, (hg n (List.mem_of_elem_eq_true hz)).trans h3, h4⟩
  | tl p k off len =>
    have hn := hg p (List.mem_of_elem_eq_true hz)
    rcases h2 with ⟨h3, h4⟩ | h3 | ⟨b, cap, cur, e, h3, h4⟩
    · exact .inl ⟨by rw [hn]; exact h3, h4⟩
    · exact .inr (.inl h3)
    · exact .inr (.inr ⟨b, cap, cur, e, by rw [hn]; exact h3, h4⟩)
  | tpl p k off =>
    obtain ⟨b, h3, h4⟩ := h2
    exact ⟨b, by rw [hg p (List.mem_of_elem_eq_true hz)]; exact h3, h4⟩
  | junk => trivial
theorem cells_rn {xs : List CV} {vs : List Value} (hz : xs.all (okC (keys ρ)) = true) (hg : ∀ n ∈ keys ρ, g' (Fw.rn ρ n) = g n) (h : ∀ (k : Nat) x, xs[k]? = some x → ∃ u, vs[k]? = some u ∧ RC P w R B g x u) :
    ∀ (k : Nat) x, (xs.map (rnC ρ))[k]? = some x → ∃ u, vs[k]? = some u ∧ RC P w R B g' x u := fun k x hk => by
  rw [List.getElem?_map] at hk
  cases hc : xs[k]? with
  | none => rw [hc] at hk; cases hk
  | some y =>
    rw [hc] at hk
    injection hk with hk
    subst hk
    obtain ⟨u, h4, h5⟩ := h k y hc
    exact ⟨u, h4, h5.rn (List.all_eq_true.1 hz y (List.mem_of_getElem? hc)) hg⟩
theorem RS.rn {x : SV} {v : Value} (hz : okS (keys ρ) x = true) (hg : ∀ n ∈ keys ρ, g' (Fw.rn ρ n) = g n) (h : RS P w R B g x v) : RS P w R B g' (rnS ρ x) v := by
  cases x with
  | c x => exact RC.rn hz hg h
  | agg cs =>
    obtain ⟨vs, h1, h2, h3⟩ := h
    exact ⟨vs, h1, by simpa using h2, cells_rn hz hg h3⟩
theorem RA.rn {x : AV} {v : Value} (hz : okA (keys ρ) x = true) (hg : ∀ n ∈ keys ρ, g' (Fw.rn ρ n) = g n) (h : RA P w R B g x v) : RA P w R B g' (rnA ρ x) v := by
  cases x with
  | s x => exact RS.rn hz hg h
  | tup xs =>
    obtain ⟨vs, h1, h2, h3⟩ := h
    refine ⟨vs, h1, by simpa using h2, fun k x hk => ?_⟩
    rw [List.getElem?_map] at hk
    cases hc : xs[k]? with
    | none => rw [hc] at hk; cases hk
    | some y =>
      rw [hc] at hk
      injection hk with hk
      subst hk
      obtain ⟨u, h4, h5⟩ := h3 k y hc
      exact ⟨u, h4, h5.rn (List.all_eq_true.1 hz y (List.mem_of_getElem? hc)) hg⟩
theorem pvs_rn (ρ : List (Nat × Nat)) (els : List (List PV)) : (pvs els).map (·.map (rnC ρ)) = pvs els := by simp [pvs, rnC, Function.comp_def]
theorem tcells_rn (ρ : List (Nat × Nat)) (p : Nat) (lens : List Nat) : (tcells p lens).map (·.map (rnC ρ)) = tcells (Fw.rn ρ p) lens := by
  refine List.ext_getElem? fun j => ?_
  simp only [tcells, List.getElem?_map, List.getElem?_mapIdx, Option.map_map]
  cases lens[j]? <;> simp [rnC]
theorem tcells_ok {zs : List Nat} {e : TypeId} {p : Nat} {lens : List Nat} (hz : okO zs (.trow e p lens) = true) : (tcells p lens).all (·.all (okC zs)) = true :=
  List.all_eq_true.2 fun cs hcs => by
    obtain ⟨j, l, rfl⟩ := mem_tcells hcs
    simpa [okC, okO] using hz
theorem ROw.rn {n : Nat} {e : TypeId} {els : List (List CV)} (hn : n ∈ keys ρ) (hz : els.all (·.all (okC (keys ρ))) = true) (hg : ∀ n ∈ keys ρ, g' (Fw.rn ρ n) = g n) (h : ROw P w R B g n e els) : ROw P w R B g' (Fw.rn ρ n) e (els.map (·.map (rnC ρ))) := by
  rcases h with ⟨h1, h2⟩ | ⟨b, cur, h1, h2, h3, h4, h5⟩
  · exact .inl ⟨(hg n hn).trans h1, by simp [h2]⟩
  · refine .inr ⟨b, cur, (hg n hn).trans h1, h2, fun cs hcs => ?_, by simpa using h4, fun j k cs x hj hk => ?_⟩
    · obtain ⟨c0, hc0, rfl⟩ := List.mem_map.1 hcs
      simpa using h3 c0 hc0
    · rw [List.getElem?_map] at hj
      cases hc : els[j]? with
      | none => rw [hc] at hj; cases hj
      | some cs0 =>
        rw [hc] at hj
        injection hj with hj
        subst hj
        rw [List.getElem?_map] at hk
        cases hc2 : cs0[k]? with
        | none => rw [hc2] at hk; cases hk
        | some y =>
          rw [hc2] at hk
          injection hk with hk
          subst hk
          obtain ⟨u, h6, h7⟩ := h5 j k cs0 y hc hc2
          exact ⟨u, h6, h7.rn (List.all_eq_true.1 (List.all_eq_true.1 hz cs0 (List.mem_of_getElem? hc)) y (List.mem_of_getElem? hc2)) hg⟩
theorem RO.rn {n : Nat} {o : Ob} (hn : n ∈ keys ρ) (hz : okO (keys ρ) o = true) (hg : ∀ n ∈ keys ρ, g' (Fw.rn ρ n) = g n) (h : RO P w R B g n o) : RO P w R B g' (Fw.rn ρ n) (rnO ρ o) := by
  cases o with
  | row e els => exact ROw.rn hn hz hg h
  | prow e els =>
    have := ROw.rn hn (by simp [pvs, List.all_eq_true, okC]) hg (els := pvs els) h
    rwa [pvs_rn] at this
  | mp es =>
    obtain ⟨b, ents, clock, h1, h2⟩ := h
    exact ⟨b, ents, clock, (hg n hn).trans h1, h2⟩
  | pool e rows =>
    obtain ⟨⟨bs, h1, h2⟩, h3⟩ := h
    exact ⟨⟨bs, (hg n hn).trans h1, h2⟩, by rw [hg n hn]; exact h3⟩
  | trow e p lens =>
    have := ROw.rn hn (tcells_ok hz) hg (els := tcells p lens) h
    rwa [tcells_rn] at this
  | unk => trivial
theorem rn_mem {n : Nat} (h : n ∈ keys ρ) : ∃ k, lk ρ n = some k ∧ (n, k) ∈ ρ := by
  induction ρ with
  | nil => simp [keys] at h
  | cons p r ih =>
    obtain ⟨a, b⟩ := p
    show ∃ k, (bif Nat.beq a n then some b else lk r n) = some k ∧ _
    cases hb : Nat.beq a n with
    | true => have := Nat.eq_of_beq_eq_true hb; subst this; exact ⟨b, rfl, List.mem_cons_self⟩
    | false =>
      have hne := Nat.ne_of_beq_eq_false hb
      have : n ∈ keys r := by
        simp [keys] at h
        rcases h with h | h
        · exact absurd h.symm hne
        · exact List.mem_map.2 (by simpa using h)
      obtain ⟨k, h1, h2⟩ := ih this
      exact ⟨k, h1, List.mem_cons_of_mem _ h2⟩
def nodup : List Nat → Bool
  | [] => true
  | n :: r => !r.elem n && nodup r
theorem nodup_inj : ∀ {ρ : List (Nat × Nat)}, nodup (ρ.map (·.2)) = true → ∀ p q, p ∈ ρ → q ∈ ρ → p.2 = q.2 → p = q
  | [], _, _, _, h, _, _ => by cases h
  | x :: r, hn, p, q, hp, hq, he => by
    unfold nodup at hn
    simp only [List.map_cons, Bool.and_eq_true, Bool.not_eq_true'] at hn
    have hx := notin_of_elem hn.1
    cases hp with
    | head =>
      cases hq with
      | head => rfl
      | tail _ hq => exact absurd (List.mem_map.2 ⟨q, hq, he.symm⟩) hx
    | tail _ hp =>
      cases hq with
      | head => exact absurd (List.mem_map.2 ⟨p, hp, he⟩) hx
      | tail _ hq => exact nodup_inj hn.2 p q hp hq he
theorem rn_inj (hn : nodup (ρ.map (·.2)) = true) {n k : Nat} (h1 : n ∈ keys ρ) (h2 : k ∈ keys ρ) (h : rn ρ n = rn ρ k) : n = k := by
  obtain ⟨a, ha, hma⟩ := rn_mem h1
  obtain ⟨b, hb, hmb⟩ := rn_mem h2
  unfold rn at h
  rw [ha, hb] at h
  have := nodup_inj hn _ _ hma hmb h
  injection this
theorem RC.un {x : CV} {v : Value} (hz : okC (keys ρ) x = true) (hg : ∀ n ∈ keys ρ, g' n = g (Fw.rn ρ n)) (h : RC P w R B g (rnC ρ x) v) : RC P w R B g' x v := by
  refine ⟨h.1, ?_⟩
  have h2 := h.2
  cases x with
  | pv p => exact h2
  | px q cells => exact h2
  | loc n off len =>
    have hn := hg n (List.mem_of_elem_eq_true hz)
    rcases h2 with ⟨h3, h4⟩ | h3 | ⟨b, cap, cur, e, h3, h4⟩
    · exact .inl ⟨hn.trans h3, h4⟩
    · exact .inr (.inl h3)
    · exact .inr (.inr ⟨b, cap, cur, e, hn.trans h3, h4⟩)
  | pl n off =>
    obtain ⟨b, h3, h4⟩ := h2
    exact ⟨b, (hg n (List.mem_of_elem_eq_true hz)).trans h3, h4⟩
  | fn f caps =>
    obtain ⟨vs, h3, h4, h5⟩ := h2
    refine ⟨vs, h3, by simpa using h4, fun k n hk => ?_⟩
    obtain ⟨b, h6, h7⟩ := h5 k (Fw.rn ρ n) (by rw [List.getElem?_map, hk]; rfl)
    exact ⟨b, (hg n (List.mem_of_elem_eq_true (List.all_eq_true.1 hz n (List.mem_of_getElem? hk)))).trans h6, h7⟩
  | mref n =>
    obtain ⟨b, h3, h4⟩ := h2
    exact ⟨b, (hg n (List.mem_of_elem_eq_true hz)).trans h3, h4⟩
  | tl p k off len =>
    have hn := hg p (List.mem_of_elem_eq_true hz)
    rcases h2 with ⟨h3, h4⟩ | h3 | ⟨b, cap, cur, e, h3, h4⟩
    · exact .inl ⟨by rw [hn]; exact h3, h4⟩
    · exact .inr (.inl h3)
    · exact .inr (.inr ⟨b, cap, cur, e, by rw [hn]; exact h3, h4⟩)
  | tpl p k off =>
    obtain ⟨b, h3, h4⟩ := h2
    exact ⟨b, by rw [hg p (List.mem_of_elem_eq_true hz)]; exact h3, h4⟩
  | junk => trivial
theorem cells_un {xs : List CV} {vs : List Value} (hz : xs.all (okC (keys ρ)) = true) (hg : ∀ n ∈ keys ρ, g' n = g (Fw.rn ρ n)) (h : ∀ (k : Nat) x, (xs.map (rnC ρ))[k]? = some x → ∃ u, vs[k]? = some u ∧ RC P w R B g x u) :
    ∀ (k : Nat) x, xs[k]? = some x → ∃ u, vs[k]? = some u ∧ RC P w R B g' x u := fun k x hk => by
  obtain ⟨u, h4, h5⟩ := h k (rnC ρ x) (by rw [List.getElem?_map, hk]; rfl)
  exact ⟨u, h4, h5.un (List.all_eq_true.1 hz x (List.mem_of_getElem? hk)) hg⟩
theorem RS.un {x : SV} {v : Value} (hz : okS (keys ρ) x = true) (hg : ∀ n ∈ keys ρ, g' n = g (Fw.rn ρ n)) (h : RS P w R B g (rnS ρ x) v) : RS P w R B g' x v := by
  cases x with
  | c x => exact RC.un hz hg h
  | agg cs =>
    obtain ⟨vs, h1, h2, h3⟩ := h
    exact ⟨vs, h1, by simpa using h2, cells_un hz hg h3⟩
theorem ROw.un {n : Nat} {e : TypeId} {els : List (List CV)} (hn : n ∈ keys ρ) (hz : els.all (·.all (okC (keys ρ))) = true) (hg : ∀ n ∈ keys ρ, g' n = g (Fw.rn ρ n)) (h : ROw P w R B g (Fw.rn ρ n) e (els.map (·.map (rnC ρ)))) : ROw P w R B g' n e els := by
  rcases h with ⟨h1, h2⟩ | ⟨b, cur, h1, h2, h3, h4, h5⟩
  · exact .inl ⟨(hg n hn).trans h1, by simpa using h2⟩
  · refine .inr ⟨b, cur, (hg n hn).trans h1, h2, fun cs hcs => ?_, by simpa using h4, fun j k cs x hj hk => ?_⟩
    · have := h3 (cs.map (rnC ρ)) (List.mem_map.2 ⟨cs, hcs, rfl⟩)
      simpa using this
    · obtain ⟨u, h6, h7⟩ := h5 j k (cs.map (rnC ρ)) (rnC ρ x) (by rw [List.getElem?_map, hj]; rfl) (by rw [List.getElem?_map, hk]; rfl)
      exact ⟨u, h6, h7.un (List.all_eq_true.1 (List.all_eq_true.1 hz cs (List.mem_of_getElem? hj)) x (List.mem_of_getElem? hk)) hg⟩
theorem RO.un {n : Nat} {o : Ob} (hn : n ∈ keys ρ) (hz : okO (keys ρ) o = true) (hg : ∀ n ∈ keys ρ, g' n = g (Fw.rn ρ n)) (h : RO P w R B g (Fw.rn ρ n) (rnO ρ o)) : RO P w R B g' n o := by
  cases o with
  | row e els => exact ROw.un hn hz hg h
  | prow e els => exact ROw.un hn (by simp [pvs, List.all_eq_true, okC]) hg (els := pvs els) (by rw [pvs_rn]; exact h)
  | mp es =>
    obtain ⟨b, ents, clock, h1, h2⟩ := h
    exact ⟨b, ents, clock, (hg n hn).trans h1, h2⟩
  | pool e rows =>
    obtain ⟨⟨bs, h1, h2⟩, h3⟩ := h
    exact ⟨⟨bs, (hg n hn).trans h1, h2⟩, by rw [hg n hn]; exact h3⟩
  | trow e p lens => exact ROw.un hn (tcells_ok hz) hg (els := tcells p lens) (by rw [tcells_rn]; exact h)
  | unk => trivial
theorem Fn.ren {f : FuncId} {args : List SV} {us df : Mem} {v : AV} {W X : List Nat} (ρ : List (Nat × Nat)) (h : Fn P f args us v df W X)
    (hc : (nodup (ρ.map (·.2)) && args.all (okS (keys ρ)) && us.all (fun p => (keys ρ).elem p.1 && okO (keys ρ) p.2) && okA (keys ρ) v && df.all (fun p => (keys ρ).elem p.1 && okO (keys ρ) p.2) && subL W (keys ρ) && subL X (keys ρ)) = true) :
    Fn P f (args.map (rnS ρ)) (rnM ρ us) (rnA ρ v) (rnM ρ df) (W.map (rn ρ)) (X.map (rn ρ)) := by
  simp only [Bool.and_eq_true] at hc
  obtain ⟨⟨⟨⟨⟨⟨hnd, hargs⟩, hus⟩, hv⟩, hdf⟩, hW⟩, hX⟩ := hc
  have hWk := subL_spec hW
  have hXk := subL_spec hX
  intro R B g w vs hw hlen hvs hust
  classical
  let gc : Nat → GS := fun n => if n ∈ keys ρ then g (rn ρ n) else .dead
  have hgc : ∀ n ∈ keys ρ, gc n = g (rn ρ n) := fun n hn => if_pos hn
  have hgd : ∀ n, gc n ≠ .dead → n ∈ keys ρ := fun n h => by
    by_cases hn : n ∈ keys ρ
    · exact hn
    · exact absurd (if_neg hn) h
  have hgk : ∀ n b, (gc n).has b → n ∈ keys ρ := fun n b h => hgd n fun e => by rw [e] at h; exact h
  have hwc : WF R B gc w := ⟨hw.rb, hw.lt, fun n b hg => by
    have hn := hgk n b hg
    rw [hgc n hn] at hg
    exact hw.ownH _ b hg, fun n k b h1 h2 => by
    have hn := hgk n b h1
    have hk := hgk k b h2
    rw [hgc n hn] at h1
    rw [hgc k hk] at h2
    exact rn_inj hnd hn hk (hw.injH _ _ b h1 h2), fun n j k b h1 h2 => by
    have hn := hgd n fun e => by rw [e] at h1; cases h1
    rw [hgc n hn] at h1 h2
    exact hw.nd _ j k b h1 h2⟩
  refine (h R B gc w vs hwc (by simpa using hlen) (fun k x hk => ?_) (fun p hp => ?_)).mono fun e w' hp => ?_
  · obtain ⟨u, h1, h2⟩ := hvs k (rnS ρ x) (by rw [List.getElem?_map, hk]; rfl)
    exact ⟨u, h1, h2.un (List.all_eq_true.1 hargs x (List.mem_of_getElem? hk)) hgc⟩
  · have h1 := List.all_eq_true.1 hus p hp
    simp only [Bool.and_eq_true] at h1
    exact RO.un (List.mem_of_elem_eq_true h1.1) h1.2 hgc (hust (rn ρ p.1, rnO ρ p.2) (List.mem_map.2 ⟨p, hp, rfl⟩))
  · obtain ⟨u, R', B', g', rfl, had, hR, hvv, hdfv⟩ := hp
    let g2 : Nat → GS := fun n => if h : ∃ k, k ∈ keys ρ ∧ rn ρ k = n then g' h.choose else g n
    have hin : ∀ k ∈ keys ρ, g2 (rn ρ k) = g' k := fun k hk => by
      have hex : ∃ j, j ∈ keys ρ ∧ rn ρ j = rn ρ k := ⟨k, hk, rfl⟩
      show (if h : ∃ j, j ∈ keys ρ ∧ rn ρ j = rn ρ k then g' h.choose else g (rn ρ k)) = g' k
      rw [dif_pos hex]
      have := hex.choose_spec
      rw [rn_inj hnd this.1 hk this.2]
    have hout : ∀ n, (¬ ∃ k, k ∈ keys ρ ∧ rn ρ k = n) → g2 n = g n := fun n hn => dif_neg hn
    have hRsz : ∀ b, R' b → b < w'.heap.size := fun b hb => had.wf.lt b (had.wf.rb b hb)
    have hcross : ∀ n k b, (¬ ∃ k, k ∈ keys ρ ∧ rn ρ k = n) → k ∈ keys ρ → (g n).has b → (g' k).has b → False := fun n k b hn hk h1 h2 => by
      by_cases hkX : k ∈ X
      · rcases had.fresh k hkX b h2 with h3 | ⟨m, hm, h3⟩
        · exact absurd (hw.ownH n b h1).2 (by omega)
        · rw [hgc m (hWk m hm)] at h3
          exact hn ⟨m, hWk m hm, hw.injH _ _ b h3 h1⟩
      · rw [had.names k hkX, hgc k hk] at h2
        exact hn ⟨k, hk, hw.injH _ _ b h2 h1⟩
    have hwf : WF R' (fun b => B b ∨ R' b) g2 w' := by
      refine ⟨fun b hb => .inr hb, fun b hb => hb.elim (fun hb => Nat.lt_of_lt_of_le (hw.lt b hb) had.size) (hRsz b), fun n b hg => ?_, fun n k b hn hk => ?_, fun n i j b hi hj => ?_⟩
      · by_cases hn : ∃ k, k ∈ keys ρ ∧ rn ρ k = n
        · obtain ⟨k, hk, rfl⟩ := hn
          rw [hin k hk] at hg
          have h1 := had.wf.ownH k b hg
          exact ⟨fun hB => h1.1 (hB.elim (had.b b) (had.wf.rb b)), h1.2⟩
        · rw [hout n hn] at hg
          have h1 := hw.ownH n b hg
          refine ⟨fun hB => ?_, Nat.lt_of_lt_of_le h1.2 had.size⟩
          rcases hB with hB | hB
          · exact h1.1 hB
          · rcases hR b hB with h2 | h2
            · exact h1.1 (hw.rb b h2)
            · exact absurd h1.2 (by omega)
      · by_cases h1 : ∃ j, j ∈ keys ρ ∧ rn ρ j = n <;> by_cases h2 : ∃ j, j ∈ keys ρ ∧ rn ρ j = k
        · obtain ⟨n0, hn0, rfl⟩ := h1
          obtain ⟨k0, hk0, rfl⟩ := h2
          rw [hin n0 hn0] at hn
          rw [hin k0 hk0] at hk
          rw [had.wf.injH n0 k0 b hn hk]
        · obtain ⟨n0, hn0, rfl⟩ := h1
          rw [hin n0 hn0] at hn
          rw [hout k h2] at hk
          exact (hcross k n0 b h2 hn0 hk hn).elim
        · obtain ⟨k0, hk0, rfl⟩ := h2
          rw [hin k0 hk0] at hk
          rw [hout n h1] at hn
          exact (hcross n k0 b h1 hk0 hn hk).elim
        · rw [hout n h1] at hn
          rw [hout k h2] at hk
          exact hw.injH n k b hn hk
      · by_cases hn : ∃ k, k ∈ keys ρ ∧ rn ρ k = n
        · obtain ⟨k, hk, rfl⟩ := hn
          rw [hin k hk] at hi hj
          exact had.wf.nd k i j b hi hj
        · rw [hout n hn] at hi hj
          exact hw.nd n i j b hi hj
    have hadv : Adv R B g w (W.map (rn ρ)) (X.map (rn ρ)) R' (fun b => B b ∨ R' b) g2 w' := by
      refine ⟨hwf, had.r, fun b hb => .inl hb, had.os, had.tape, had.output, had.size, fun b hb hnW => had.heap b hb fun n hn => ?_, fun n hn => ?_, fun n hn b hb => ?_, fun n hnW hnX b cur e hg hh => ?_⟩
      · rw [hgc n (hWk n hn)]
        exact hnW _ (List.mem_map.2 ⟨n, hn, rfl⟩)
      · by_cases h1 : ∃ k, k ∈ keys ρ ∧ rn ρ k = n
        · obtain ⟨k, hk, rfl⟩ := h1
          rw [hin k hk, had.names k fun hkX => hn (List.mem_map.2 ⟨k, hkX, rfl⟩), hgc k hk]
        · exact hout n h1
      · obtain ⟨k, hkX, rfl⟩ := List.mem_map.1 hn
        rw [hin k (hXk k hkX)] at hb
        rcases had.fresh k hkX b hb with h3 | ⟨m, hm, h3⟩
        · exact .inl h3
        · rw [hgc m (hWk m hm)] at h3
          exact .inr ⟨rn ρ m, List.mem_map.2 ⟨m, hm, rfl⟩, h3⟩
      · obtain ⟨k, hkW, rfl⟩ := List.mem_map.1 hnW
        exact had.shape k hkW (fun hkX => hnX (List.mem_map.2 ⟨k, hkX, rfl⟩)) b cur e (by rw [hgc k (hWk k hkW)]; exact hg) hh
    refine ⟨u, R', _, g2, rfl, hadv, hR, hvv.rn hv hin, fun p hp => ?_⟩
    obtain ⟨q, hq, rfl⟩ := List.mem_map.1 hp
    have h1 := List.all_eq_true.1 hdf q hq
    simp only [Bool.and_eq_true] at h1
    exact RO.rn (List.mem_of_elem_eq_true h1.1) h1.2 hin (hdfv q hq)
end
end Go.Fw
end
section
set_option linter.unusedVariables false
set_option linter.unusedSimpArgs false
set_option linter.unnecessarySimpa false
namespace Go.Fw
section
variable {P : Program} {o : Oper} {α : Type} {enc : α → List PV}
theorem LT.tlenRO {x : Operand} {t e : TypeId} {q : Bool} {xs : List α} (ho : o.op = .call { callee := .builtin .len, args := #[x], argTypes := #[t] }) (ht : P.underlying t = some (.slice e)) :
    LT P o [(x, Cc (.pv (.xs q (xs.map enc))))] [] (Iv xs.length) [] [] [] := by
  have := LT.lenRO (P := P) (o := o) (q := q) (els := xs.map enc) ho ht
  rwa [List.length_map] at this
theorem LT.tindexRO {x y : Operand} {t e : TypeId} {i : Int} {q : Bool} {xs : List α} {b : α} (ho : o.op = .indexAddr t x y) (h : elB P t = some e) (hi : idx xs i = some b) (hs : szP P e = (enc b).length) :
    LT P o [(x, Cc (.pv (.xs q (xs.map enc)))), (y, Iv i)] [] (Cc (.px q (enc b))) [] [] [] :=
  LT.indexRO ho h (idx_nn hi) (by rw [List.getElem?_map, idx_get hi]; rfl) hs.symm
theorem LT.tindexLoc {x y : Operand} {t e : TypeId} {i : Int} {n len : Nat} {xs : List α} {b : α} (hl : len = xs.length) (ho : o.op = .indexAddr t x y) (h : elB P t = some e) (hi : idx xs i = some b) :
    LT P o [(x, Cc (.loc n 0 len)), (y, Iv i)] [(n, .prow e (xs.map enc))] (Cc (.pl n (i.toNat * szP P e))) [] [] [] := by
  subst hl
  exact LT.usP (LT.indexLoc ho h (idx_nn hi) (idx_lt hi))
theorem pvs_get {xs : List α} {i : Int} {b : α} (hi : idx xs i = some b) : (pvs (xs.map enc))[i.toNat]? = some ((enc b).map .pv) := by
  simp [pvs, List.getElem?_map, idx_get hi]
theorem LT.tloadN {x : Operand} {t e : TypeId} {n off s : Nat} {i : Int} {xs : List α} {b : α} {it : TypeInfo} (ho : o.op = .load t x) (h : agB P t = some true) (hit : P.info? t = some it) (hs : szP P t = s) (hi : idx xs i = some b) (hl : (enc b).length = s)
    (ha : off = i.toNat * szP P e) : LT P o [(x, Cc (.pl n off))] [(n, .prow e (xs.map enc))] (Ag ((enc b).map .pv)) [] [] [] := by
  have hd : ((((enc b).map CV.pv).drop 0).take (szP P t)) = (enc b).map CV.pv := by
    rw [List.drop_zero, List.take_of_length_le]
    rw [List.length_map, hl, hs]; exact Nat.le_refl _
  have := LT.loadPlN (P := P) (o := o) (n := n) (e := e) (k := 0) ho h hit (pvs_get (enc := enc) hi) ha (by rw [hd, List.length_map, hl, hs])
  rw [hd] at this
  exact LT.usP this
theorem LT.bload1 {x : Operand} {t e : TypeId} {n off : Nat} {cs : List CV} {c : CV} (ho : o.op = .load t x) (h : agB P t = some false) (hk : cs[off]? = some c) : LT P o [(x, Cc (.pl n off))] [(n, .row e [cs])] (Cc c) [] [] [] :=
  LT.loadPl1 (j := 0) ho h rfl hk (by rw [Nat.zero_mul, Nat.zero_add])
theorem LT.bloadN {x : Operand} {t e : TypeId} {n off s : Nat} {cs out : List CV} {it : TypeInfo} (ho : o.op = .load t x) (h : agB P t = some true) (hit : P.info? t = some it) (hs : szP P t = s) (ho2 : (cs.drop off).take s = out) (hl : out.length = s) :
    LT P o [(x, Cc (.pl n off))] [(n, .row e [cs])] (Ag out) [] [] [] := by
  have hd : ((cs.drop off).take (szP P t)) = out := by rw [hs, ho2]
  have := LT.loadPlN (P := P) (o := o) (n := n) (off := off) (e := e) (els := [cs]) (j := 0) (k := off) ho h hit rfl (by rw [Nat.zero_mul, Nat.zero_add]) (by rw [hd, hl, hs])
  rwa [hd] at this
theorem LT.bstore {t e : TypeId} {n off s : Nat} {x y : Operand} {cs out : List CV} {v : SV} {it : TypeInfo} (ho : o.op = .store t x y) (hd : o.dst = none) (hit : P.info? t = some it) (hs : szP P t = s) (hl : (svCells v).length = s) (hk : off + s ≤ cs.length)
    (hout : ow cs off (svCells v) = out) : LT P o [(x, Cc (.pl n off)), (y, .s v)] [(n, .row e [cs])] (.tup []) [(n, .row e [out])] [n] [] := by
  have := LT.store (P := P) (o := o) (n := n) (off := off) (e := e) (els := [cs]) (j := 0) (k := off) ho hd hit hs hl rfl (by rw [Nat.zero_mul, Nat.zero_add]) hk
  subst hout
  exact this
theorem LT.tstore {t e : TypeId} {n off k s : Nat} {x y : Operand} {i : Int} {xs : List α} {b b' : α} {v : SV} {it : TypeInfo} (ho : o.op = .store t x y) (hd : o.dst = none) (hit : P.info? t = some it) (hs : szP P t = s) (hl : (svCells v).length = s) (hi : idx xs i = some b)
    (ha : off = i.toNat * szP P e + k) (hk : k + s ≤ (enc b).length) (hb : ow ((enc b).map .pv) k (svCells v) = (enc b').map .pv) :
    LT P o [(x, Cc (.pl n off)), (y, .s v)] [(n, .prow e (xs.map enc))] (.tup []) [(n, .prow e ((xs.set i.toNat b').map enc))] [n] [] := by
  have := LT.store (P := P) (o := o) (n := n) (off := off) (e := e) (els := pvs (xs.map enc)) ho hd hit hs hl (pvs_get hi) ha (by simpa using hk)
  have e1 : (pvs (xs.map enc)).set i.toNat (ow ((enc b).map .pv) k (svCells v)) = pvs ((xs.set i.toNat b').map enc) := by
    rw [hb]
    simp [pvs, List.map_set]
  rw [e1] at this
  exact LT.dfP (Y := []) (LT.usP (by rw [pvs_junk]; exact this))
section
variable {t e : TypeId} {x y : Operand} {n n2 len len2 : Nat} {xs ys : List α} {z : Value} {s by_ : Nat} {q : Bool}
theorem enc_len (h : ∀ a, (enc a).length = s) : ∀ cs ∈ ys.map enc, cs.length = s := fun cs hcs => by
  obtain ⟨a, _, rfl⟩ := List.mem_map.1 hcs
  exact h a
theorem LT.tappRO (hl : len = xs.length) (ho : o.op = .call { callee := .builtin .append, args := #[x, y], argTypes := #[t, t] }) (ht : P.underlying t = some (.slice e)) (hz : TI P e z s by_) (hzs : z.cells.size = s) (hs : 0 < s) (hb : by_ ≤ 65536)
    (hl2 : ∀ a, (enc a).length = s) (hlim : xs.length + ys.length ≤ LIM) :
    LT P o [(x, Cc (.loc n 0 len)), (y, Cc (.pv (.xs q (ys.map enc))))] [(n, .prow e (xs.map enc))] (Cc (.loc n 0 (xs ++ ys).length)) [(n, .prow e ((xs ++ ys).map enc))] [n] [n] := by
  subst hl
  have := LT.appP_RO (P := P) (o := o) (n := n) (q := q) (pels := xs.map enc) (pels2 := ys.map enc) ho ht hz hzs hs hb (enc_len hl2) (by simpa using hlim)
  rwa [List.length_map, List.length_map, ← List.map_append, ← List.length_append] at this
theorem LT.tappP (hl : len = xs.length) (hl2 : len2 = ys.length) (ho : o.op = .call { callee := .builtin .append, args := #[x, y], argTypes := #[t, t] }) (ht : P.underlying t = some (.slice e)) (hz : TI P e z s by_) (hzs : z.cells.size = s) (hs : 0 < s) (hb : by_ ≤ 65536)
    (hel : ∀ a, (enc a).length = s) (hlim : xs.length + ys.length ≤ LIM) :
    LT P o [(x, Cc (.loc n 0 len)), (y, Cc (.loc n2 0 len2))] [(n, .prow e (xs.map enc)), (n2, .prow e (ys.map enc))] (Cc (.loc n 0 (xs ++ ys).length)) [(n, .prow e ((xs ++ ys).map enc))] [n] [n] := by
  subst hl; subst hl2
  have := LT.appP_P (P := P) (o := o) (n := n) (n2 := n2) (pels := xs.map enc) (pels2 := ys.map enc) ho ht hz hzs hs hb (enc_len hel) (by simpa using hlim)
  rwa [List.length_map, List.length_map, ← List.map_append, ← List.length_append] at this
end
theorem LT.tbuildSlice {t e : TypeId} {len n : Nat} {parts : Array (Nat × Operand)} (ps : Parts) {z : Value} {s b : Nat} {zc : List CV} (xs : List α) (ho : o.op = .buildSlice t len parts) (hps : parts.toList = Parts.ops ps) (he : P.underlying t = some (.slice e)) (hz : TI P e z s b)
    (hzc : z.cells.toList.map sC = zc) (h1 : z.cells.toList.all (·.oneCell') = true) (hsz : zc.length = s) (hlen : xs.length = len) (hmax : len * s ≤ 16777216 ∧ 0 < s) (hel : ∀ a, (enc a).length = s)
    (hf : fillC (fun i => some (i * s, s)) ((List.range (len * s)).map fun i => zc.getD (i % s) .junk) (Parts.vals ps) = some (pvs (xs.map enc)).flatten) :
    LT P o (Parts.ins ps) [] (Cc (.loc n 0 xs.length)) [(n, .prow e (xs.map enc))] [] [n] := by
  have hlen' : (pvs (xs.map enc)).length = xs.length := by simp [pvs]
  have := LT.buildSlice (P := P) (o := o) (n := n) ps (els := pvs (xs.map enc)) ho hps he hz hzc h1 hsz (hlen'.trans hlen) hmax (by
    refine List.all_eq_true.2 fun cs hcs => ?_
    obtain ⟨c, hc, rfl⟩ := List.mem_map.1 hcs
    obtain ⟨a, _, rfl⟩ := List.mem_map.1 hc
    rw [List.length_map, hel a]
    exact Nat.beq_refl s) hf
  rw [hlen'] at this
  exact this.dfP
theorem LT.tmake {t e : TypeId} {n : Nat} {x y : Operand} {len : Int} {z : Value} {s b : Nat} {zc : List CV} (a : α) (ho : o.op = .makeSlice t x y) (he : P.underlying t = some (.slice e)) (hz : TI P e z s b)
    (hzc : z.cells.toList.map sC = zc) (h1 : z.cells.toList.all (·.oneCell') = true) (hsz : zc.length = s) (hs : 0 < s) (hb : b ≤ 65536) (hl : 0 ≤ len ∧ len ≤ LIM) (ha : (enc a).map .pv = zc) :
    LT P o [(x, Iv len), (y, Iv len)] [] (Cc (.loc n 0 (List.replicate len.toNat a).length)) [(n, .prow e ((List.replicate len.toNat a).map enc))] [] [n] := by
  have := LT.makeSlice (P := P) (o := o) (n := n) (x := x) (y := y) ho he hz hzc h1 hsz hs hb hl
  have e1 : List.replicate len.toNat zc = pvs ((List.replicate len.toNat a).map enc) := by simp [pvs, List.map_replicate, ha]
  have e2 : (List.replicate len.toNat zc).length = (List.replicate len.toNat a).length := by simp
  rw [e2, e1] at this
  exact this.dfP
theorem ShC.tloc {sh : Mem} {n len : Nat} {e : TypeId} {xs : List α} (hl : len = xs.length) (h : lk sh n = some (.prow e (xs.map enc))) : ShC sh (.loc n 0 len) (.pv (.xs false (xs.map enc))) := by
  subst hl
  have := ShC.loc h
  rwa [List.length_map] at this
def JunkL (X : List Nat) : Mem → Prop
  | [] => True
  | (_, o) :: r => junkO X o = o ∧ JunkL X r
theorem JunkL.spec {X : List Nat} : ∀ {us : Mem}, JunkL X us → ∀ p ∈ us, junkO X p.2 = p.2
  | [], _, p, hp => by cases hp
  | (n, o) :: r, h, p, hp => by
    cases hp with
    | head => exact h.1
    | tail _ hp => exact JunkL.spec h.2 p hp
theorem LT.callF {cf : Operand} {f : FuncId} {ops : Array Operand} {ts : Array TypeId} {xs ys : List SV} {us sh df : Mem} {v : AV} {W X : List Nat} (hf : Fn P f ys us v df W X)
    (ho : o.op = .call { callee := .value cf, args := ops, argTypes := ts }) (hb : callB P f = true) (hsh : ShA sh xs ys) (hlen : ops.size = xs.length)
    (hside : (disL (keys sh) (W ++ X ++ keys us ++ keys df ++ []) && subL W (keys us)) = true) (hus : JunkL (keys sh) us) : LT P o ((cf, Cc (.fn f [])) :: zipOps ops.toList xs) (us ++ sh) v df W X :=
  LT.call (caps := []) (by rw [List.map_nil, List.append_nil]; exact hf) ho hb hlen hsh hside hus.spec
end
section
variable {P : Program} {C : Ctx} {σ : Slots} {m : Mem}
end
end Go.Fw
end
section
set_option linter.unusedVariables false
set_option linter.unusedSimpArgs false
set_option linter.unnecessarySimpa false
namespace Go.Fw
def mvN (n k j : Nat) : Nat := bif Nat.beq j n then k else j
def mvC (n k : Nat) : CV → CV
  | .loc j o l => .loc (mvN n k j) o l
  | .pl j o => .pl (mvN n k j) o
  | .fn f caps => .fn f (caps.map (mvN n k))
  | .mref j => .mref (mvN n k j)
  | .tl j i o l => .tl (mvN n k j) i o l
  | .tpl j i o => .tpl (mvN n k j) i o
  | x => x
def mvS (n k : Nat) : SV → SV
  | .c x => .c (mvC n k x)
  | .agg cs => .agg (cs.map (mvC n k))
def mvA (n k : Nat) : AV → AV
  | .s x => .s (mvS n k x)
  | .tup xs => .tup (xs.map (mvS n k))
def mvO (n k : Nat) : Ob → Ob
  | .row e els => .row e (els.map (·.map (mvC n k)))
  | .prow e els => .prow e els
  | .mp es => .mp es
  | .pool e rows => .pool e rows
  | .trow e p lens => .trow e (mvN n k p) lens
  | .unk => .unk
def mvSl (n k : Nat) (σ : Slots) : Slots := σ.map fun p => (p.1, mvA n k p.2)
def mvM (n k : Nat) (m : Mem) : Mem := m.map fun p => (mvN n k p.1, mvO n k p.2)
def mvG (n k : Nat) (g : Nat → GS) : Nat → GS := fun j => if j = k then g n else if j = n then .dead else g j
theorem mvG_mv {n k j : Nat} (g : Nat → GS) (hj : j ≠ k) : mvG n k g (mvN n k j) = g j := by
  unfold mvN
  cases hb : Nat.beq j n with
  | true =>
    have := Nat.eq_of_beq_eq_true hb
    subst this
    simp [mvG]
  | false =>
    have := Nat.ne_of_beq_eq_false hb
    simp [mvG, hj, this]
section
variable {P : Program} {w : World} {R B : Nat → Prop} {g : Nat → GS} {n k : Nat}
theorem ne_of_elem1 {j k : Nat} (h : [k].elem j = false) : j ≠ k := by
  have := notin_of_elem h
  simpa using this
theorem RC.mv {x : CV} {v : Value} (hz : nrC [k] x = true) (h : RC P w R B g x v) : RC P w R B (mvG n k g) (mvC n k x) v := by
  refine ⟨h.1, ?_⟩
  have h2 := h.2
  cases x with
  | pv p => exact h2
  | px q cells => exact h2
  | loc j off len =>
    have hn := mvG_mv (n := n) g (ne_of_elem1 (by simpa [nrC] using hz))
    rcases h2 with ⟨h3, h4⟩ | h3 | ⟨b, cap, cur, e, h3, h4⟩
    · exact .inl ⟨hn.trans h3, h4⟩
    · exact .inr (.inl h3)
    · exact .inr (.inr ⟨b, cap, cur, e, hn.trans h3, h4⟩)
  | pl j off =>
    obtain ⟨b, h3, h4⟩ := h2
    exact ⟨b, (mvG_mv g (ne_of_elem1 (by simpa [nrC] using hz))).trans h3, h4⟩
  | fn f caps =>
    obtain ⟨vs, h3, h4, h5⟩ := h2
    refine ⟨vs, h3, by simpa using h4, fun i j hk => ?_⟩
    rw [List.getElem?_map] at hk
    cases hc : caps[i]? with
    | none => rw [hc] at hk; cases hk
    | some n0 =>
      rw [hc] at hk
      injection hk with hk
      subst hk
      obtain ⟨b, h6, h7⟩ := h5 i n0 hc
      have hz' : caps.any [k].elem = false := by simpa [nrC] using hz
      have hne : [k].elem n0 = false := by
        cases hx : [k].elem n0 with
        | false => rfl
        | true =>
          have : caps.any [k].elem = true := List.any_eq_true.2 ⟨n0, List.mem_of_getElem? hc, hx⟩
          rw [hz'] at this
          cases this
      exact ⟨b, (mvG_mv g (ne_of_elem1 hne)).trans h6, h7⟩
  | mref j =>
    obtain ⟨b, h3, h4⟩ := h2
    exact ⟨b, (mvG_mv g (ne_of_elem1 (by simpa [nrC] using hz))).trans h3, h4⟩
  | tl j i off len =>
    have hn := mvG_mv (n := n) g (ne_of_elem1 (by simpa [nrC] using hz))
    rcases h2 with ⟨h3, h4⟩ | h3 | ⟨b, cap, cur, e, h3, h4⟩
    · exact .inl ⟨by rw [hn]; exact h3, h4⟩
    · exact .inr (.inl h3)
    · exact .inr (.inr ⟨b, cap, cur, e, by rw [hn]; exact h3, h4⟩)
  | tpl j i off =>
    obtain ⟨b, h3, h4⟩ := h2
    exact ⟨b, by rw [mvG_mv (n := n) g (ne_of_elem1 (by simpa [nrC] using hz))]; exact h3, h4⟩
  | junk => trivial
theorem nr_junkC (X : List Nat) (x : CV) : nrC X (junkC X x) = true := by
  cases x with
  | loc j o l => cases hx : X.elem j <;> simp only [nrC, junkC, hx, cond_true, cond_false, Bool.not_false]
  | pl j o => cases hx : X.elem j <;> simp only [nrC, junkC, hx, cond_true, cond_false, Bool.not_false]
  | fn f caps => cases hx : caps.any X.elem <;> simp only [nrC, junkC, hx, cond_true, cond_false, Bool.not_false]
  | mref j => cases hx : X.elem j <;> simp only [nrC, junkC, hx, cond_true, cond_false, Bool.not_false]
  | tl j i o l => cases hx : X.elem j <;> simp only [nrC, junkC, hx, cond_true, cond_false, Bool.not_false]
  | tpl j i o => cases hx : X.elem j <;> simp only [nrC, junkC, hx, cond_true, cond_false, Bool.not_false]
  | _ => rfl
theorem cells_mv {xs : List CV} {us : Nat → Option Value} (h : ∀ (i : Nat) x, (xs.map (junkC [k]))[i]? = some x → ∃ u, us i = some u ∧ RC P w R B g x u) :
    ∀ (i : Nat) x, ((xs.map (junkC [k])).map (mvC n k))[i]? = some x → ∃ u, us i = some u ∧ RC P w R B (mvG n k g) x u := fun i x hi => by
  rw [List.getElem?_map] at hi
  cases hc : (xs.map (junkC [k]))[i]? with
  | none => rw [hc] at hi; cases hi
  | some y =>
    rw [hc] at hi
    injection hi with hi
    subst hi
    obtain ⟨u, h1, h2⟩ := h i y hc
    refine ⟨u, h1, h2.mv ?_⟩
    rw [List.getElem?_map] at hc
    cases hx : xs[i]? with
    | none => rw [hx] at hc; cases hc
    | some z =>
      rw [hx] at hc
      injection hc with hc
      subst hc
      exact nr_junkC _ _
theorem RS.mv {x : SV} {v : Value} (h : RS P w R B g (junkS [k] x) v) : RS P w R B (mvG n k g) (mvS n k (junkS [k] x)) v := by
  cases x with
  | c x => exact RC.mv (nr_junkC _ _) h
  | agg cs =>
    obtain ⟨vs, h1, h2, h3⟩ := h
    exact ⟨vs, h1, by simpa using h2, cells_mv (us := fun i => vs[i]?) h3⟩
theorem RA.mv {x : AV} {v : Value} (h : RA P w R B g (junkA [k] x) v) : RA P w R B (mvG n k g) (mvA n k (junkA [k] x)) v := by
  cases x with
  | s x => exact RS.mv h
  | tup xs =>
    obtain ⟨vs, h1, h2, h3⟩ := h
    refine ⟨vs, h1, by simpa using h2, fun i x hi => ?_⟩
    rw [List.getElem?_map, List.getElem?_map] at hi
    cases hx : xs[i]? with
    | none => rw [hx] at hi; cases hi
    | some z =>
      rw [hx] at hi
      injection hi with hi
      subst hi
      obtain ⟨u, h4, h5⟩ := h3 i (junkS [k] z) (by rw [List.getElem?_map, hx]; rfl)
      exact ⟨u, h4, h5.mv⟩
theorem RO.mv {j : Nat} {o : Ob} (hj : j ≠ k) (h : RO P w R B g j (junkO [k] o)) : RO P w R B (mvG n k g) (mvN n k j) (mvO n k (junkO [k] o)) := by
  have hg := mvG_mv (n := n) g hj
  have hrow : ∀ {e : TypeId} {els : List (List CV)}, ROw P w R B g j e (els.map (·.map (junkC [k]))) → ROw P w R B (mvG n k g) (mvN n k j) e ((els.map (·.map (junkC [k]))).map (·.map (mvC n k))) := fun {e els} h => by
    rcases h with ⟨h1, h2⟩ | ⟨b, cur, h1, h2, h3, h4, h5⟩
    · exact .inl ⟨hg.trans h1, by rw [h2]; rfl⟩
    · refine .inr ⟨b, cur, hg.trans h1, h2, fun cs hcs => ?_, by simpa using h4, fun i q cs x hi hq => ?_⟩
      · obtain ⟨c0, hc0, rfl⟩ := List.mem_map.1 hcs
        simpa using h3 c0 hc0
      · rw [List.getElem?_map, List.getElem?_map] at hi
        cases hc : els[i]? with
        | none => rw [hc] at hi; cases hi
        | some c0 =>
          rw [hc] at hi
          injection hi with hi
          subst hi
          exact cells_mv (us := fun q => cur[i * szP P e + q]?) (fun q y hq => h5 i q _ y (by rw [List.getElem?_map, hc]; rfl) hq) q x hq
  cases o with
  | row e els => exact hrow h
  | prow e els =>
    have h' : ROw P w R B g j e ((pvs els).map (·.map (junkC [k]))) := by rw [pvs_junk]; exact h
    have := hrow h'
    rw [pvs_junk] at this
    have e1 : (pvs els).map (·.map (mvC n k)) = pvs els := by simp [pvs, mvC, Function.comp_def]
    rw [e1] at this
    exact this
  | mp es =>
    obtain ⟨b, ents, clock, h1, h2⟩ := h
    exact ⟨b, ents, clock, hg.trans h1, h2⟩
  | pool e rows =>
    obtain ⟨⟨bs, h1, h2⟩, h3⟩ := h
    exact ⟨⟨bs, hg.trans h1, h2⟩, by rw [hg]; exact h3⟩
  | trow e p lens =>
    change RO P w R B g j (bif [k].elem p then .unk else .trow e p lens) at h
    show RO P w R B (mvG n k g) (mvN n k j) (mvO n k (bif [k].elem p then .unk else .trow e p lens))
    cases hx : [k].elem p with
    | true => trivial
    | false =>
      rw [hx] at h
      have h' : ROw P w R B g j e ((tcells p lens).map (·.map (junkC [k]))) := by
        rw [tcells_junk hx]
        exact h
      have := hrow h'
      rw [tcells_junk hx] at this
      have e1 : (tcells p lens).map (·.map (mvC n k)) = tcells (mvN n k p) lens := by
        refine List.ext_getElem? fun i => ?_
        simp only [tcells, List.getElem?_map, List.getElem?_mapIdx, Option.map_map]
        cases lens[i]? <;> simp [mvC]
      rw [e1] at this
      exact this
  | unk => trivial
end
section
variable {P : Program} {C : Ctx} {σ : Slots} {m : Mem} {n k : Nat}
theorem lk_mvSl (n k : Nat) : ∀ (σ : Slots) (t : Nat), lk (mvSl n k σ) t = (lk σ t).map (mvA n k)
  | [], _ => rfl
  | (j, v) :: r, t => by
    show (bif Nat.beq j t then some (mvA n k v) else lk (mvSl n k r) t) = Option.map (mvA n k) (bif Nat.beq j t then some v else lk r t)
    cases Nat.beq j t
    · exact lk_mvSl n k r t
    · rfl
theorem mem_mvM {m : Mem} {j : Nat} {o : Ob} (h : lk (mvM n k m) j = some o) : ∃ j0 o0, (j0, o0) ∈ m ∧ j = mvN n k j0 ∧ o = mvO n k o0 := by
  obtain ⟨p, hp, he⟩ := List.mem_map.1 (lk_mem h)
  injection he with h1 h2
  exact ⟨p.1, p.2, hp, h1.symm, h2.symm⟩
def uniqM : Mem → Bool
  | [] => true
  | (n, _) :: r => !(keys r).elem n && uniqM r
theorem uniqM_lk : ∀ {m : Mem} {n : Nat} {o : Ob}, uniqM m = true → (n, o) ∈ m → lk m n = some o
  | [], _, _, _, h => by cases h
  | (j, x) :: r, n, o, hu, h => by
    unfold uniqM at hu
    simp only [Bool.and_eq_true, Bool.not_eq_true'] at hu
    show (bif Nat.beq j n then some x else lk r n) = some o
    cases h with
    | head => rw [Nat.beq_refl]; rfl
    | tail _ h =>
      have hne : j ≠ n := fun e => notin_of_elem hu.1 (e ▸ List.mem_map.2 ⟨_, h, rfl⟩)
      cases hb : Nat.beq j n with
      | true => exact absurd (Nat.eq_of_beq_eq_true hb) hne
      | false => exact uniqM_lk hu.2 h
theorem Ent.mv (n k : Nat) (hp : (!C.pn.elem n && !C.pn.elem k) = true) (hu : uniqM m = true) : Ent P C σ m (mvSl n k (junkSl [k] σ)) (mvM n k (junkM [k] m)) := fun R B g a w hs => by
  simp only [Bool.and_eq_true, Bool.not_eq_true'] at hp
  have hpn := notin_of_elem hp.1
  have hpk := notin_of_elem hp.2
  -- forget k first
  have had : Adv R B g w [] [k] R B (upd g k .dead) w := by
    refine ⟨hs.wf.upd k _ (Nat.le_refl _) (fun b hb => hb.elim) (fun i j b hi => by cases hi), fun _ h => h, fun _ h => h, rfl, rfl, rfl, Nat.le_refl _, fun _ _ _ => rfl, fun i hi => upd_ne g _ (by simpa using hi), fun i hi b hb => ?_, fun i hi => by cases hi⟩
    · have : i = k := by simpa using hi
      subst this
      rw [upd_same] at hb; exact hb.elim
  have h1 : St P C (junkSl [k] σ) (junkM [k] m) R B (upd g k .dead) a w :=
    hs.step (us := []) (df := []) (W := []) (X := [k]) (d := none) (v := .tup []) (u := undef) trivial (fun _ h => by cases h) (fun p hp => by cases hp) rfl (fun j hj => by
      have : j = k := by simpa using hj
      subst this; exact hpk) had (fun b hb => .inl hb) (fun h => by cases h) (fun p hp => by cases hp)
  have hjm : ∀ (m0 : Mem) (j : Nat) (o : Ob), (j, o) ∈ junkM [k] m0 → j ≠ k ∧ ∃ o0, (j, o0) ∈ m0 ∧ o = junkO [k] o0 := by
    intro m0
    induction m0 with
    | nil => intro j o h; cases h
    | cons p r ih =>
      intro j o h
      obtain ⟨i, x⟩ := p
      unfold junkM at h
      cases hi : [k].elem i with
      | true =>
        rw [hi, cond_true] at h
        obtain ⟨h1, o0, h2, h3⟩ := ih j o h
        exact ⟨h1, o0, List.mem_cons_of_mem _ h2, h3⟩
      | false =>
        rw [hi, cond_false] at h
        cases h with
        | head => exact ⟨ne_of_elem1 hi, x, List.mem_cons_self, rfl⟩
        | tail _ h =>
          obtain ⟨h1, o0, h2, h3⟩ := ih j o h
          exact ⟨h1, o0, List.mem_cons_of_mem _ h2, h3⟩
  have hlk : ∀ j o, (j, o) ∈ junkM [k] m → lk (junkM [k] m) j = some o := fun j o hm => by
    obtain ⟨h2, o0, h3, rfl⟩ := hjm m j o hm
    rw [lk_junkM', if_neg (by simpa using h2), uniqM_lk hu h3]
    rfl
  generalize upd g k .dead = g1 at h1
  refine ⟨R, B, mvG n k g1, { h1 with wf := ⟨h1.wf.rb, h1.wf.lt, fun j b hj => ?_, fun i j b hi hj => ?_, fun q i j b hi hj => ?_⟩, sl := fun t v ht => ?_, ob := fun j o hj => ?_, ow := fun j o b hj hb => ?_, pin := fun j hj => ?_ }⟩
  · unfold mvG at hj
    split at hj
    · exact h1.wf.ownH n b hj
    · split at hj
      · exact hj.elim
      · exact h1.wf.ownH j b hj
  · unfold mvG at hi hj
    split at hi
    · rename_i e1
      split at hj
      · rename_i e2; rw [e1, e2]
      · split at hj
        · exact hj.elim
        · rename_i e3; exact absurd (h1.wf.injH n j b hi hj).symm e3
    · split at hi
      · exact hi.elim
      · rename_i e1 e2
        split at hj
        · exact absurd (h1.wf.injH i n b hi hj) e2
        · split at hj
          · exact hj.elim
          · exact h1.wf.injH i j b hi hj
  · unfold mvG at hi hj
    split at hi
    · rename_i e1
      rw [if_pos e1] at hj
      exact h1.wf.nd n i j b hi hj
    · rename_i e1
      rw [if_neg e1] at hj
      split at hi
      · cases hi
      · rename_i e2
        rw [if_neg e2] at hj
        exact h1.wf.nd q i j b hi hj
  · rw [lk_mvSl, lk_junkSl] at ht
    cases hl : lk σ t with
    | none => rw [hl] at ht; cases ht
    | some x =>
      rw [hl] at ht
      injection ht with ht
      subst ht
      exact RA.mv (h1.sl t _ (by rw [lk_junkSl, hl]; rfl))
  · obtain ⟨j0, o0, hm, rfl, rfl⟩ := mem_mvM hj
    obtain ⟨h2, o1, h3, rfl⟩ := hjm m j0 o0 hm
    exact RO.mv h2 (h1.ob j0 _ (hlk j0 _ hm))
  · obtain ⟨j0, o0, hm, rfl, rfl⟩ := mem_mvM hj
    obtain ⟨h2, _⟩ := hjm m j0 o0 hm
    rw [mvG_mv g1 h2] at hb
    exact h1.ow j0 o0 b (hlk j0 o0 hm) hb
  · have e1 : j ≠ k := fun e => hpk (e ▸ hj)
    have e2 : j ≠ n := fun e => hpn (e ▸ hj)
    have : mvG n k g1 j = g1 j := by simp [mvG, e1, e2]
    rw [this]
    exact h1.pin j hj
end
end Go.Fw
end
section
set_option linter.unusedVariables false
set_option linter.unusedSimpArgs false
set_option linter.unnecessarySimpa false
namespace Go.Fw
def eqI : List Int → List Int → Bool
  | [], [] => true
  | a :: r, b :: s => (a == b) && eqI r s
  | _, _ => false
def istF (P : Program) : Nat → List Field → Bool
  | _, [] => true
  | k, f :: r => (f.name != "_") && Nat.beq f.offset k && (match P.underlying f.type with | some (.int _) => true | _ => false) && istF P (k + 1) r
def istB (P : Program) (t : TypeId) : Option Nat := match P.underlying t with
  | some (.struct fs) => if (istF P 0 fs.toList && !P.stoodInHeld t && !P.eqGuardType P.depth t) = true then some fs.size else none
  | _ => none
section
variable {P : Program} {o : Oper}
def ivs (l : List Int) : Array Value := (l.map fun n => Value.int .i64 n).toArray
theorem run_eqInts (w : World) (d : Nat) : ∀ (fs : List Field) (k : Nat) (xs ys : List Int), istF P k fs = true → xs.length = k + fs.length → ys.length = k + fs.length →
    (Op.eqFields (d + 1) (ivs xs) (ivs ys) fs).run P w = .ok (eqI (xs.drop k) (ys.drop k)) w
  | [], k, xs, ys, _, hx, hy => by
    rw [List.drop_eq_nil_of_le (by simp at hx; omega), List.drop_eq_nil_of_le (by simp at hy; omega)]
    rfl
  | f :: r, k, xs, ys, h, hx, hy => by
    unfold istF at h
    simp only [Bool.and_eq_true] at h
    obtain ⟨⟨⟨h1, h2⟩, h3⟩, h4⟩ := h
    have hoff : f.offset = k := Nat.eq_of_beq_eq_true h2
    have hname : f.name ≠ "_" := by simpa using h1
    have hkx : k < xs.length := by simp at hx; omega
    have hky : k < ys.length := by simp at hy; omega
    have hkind : ∃ kd, P.underlying f.type = some (.int kd) := by
      split at h3
      · exact ⟨_, by assumption⟩
      · cases h3
    obtain ⟨kd, hk⟩ := hkind
    have hpx : (part f.type (ivs xs) f.offset).run P w = .ok (.int .i64 xs[k]) w := by simp [part, isAgg, run_underlying hk, hoff, ivs, List.getElem?_map, hkx]
    have hpy : (part f.type (ivs ys) f.offset).run P w = .ok (.int .i64 ys[k]) w := by simp [part, isAgg, run_underlying hk, hoff, ivs, List.getElem?_map, hky]
    have ih := run_eqInts w d r (k + 1) xs ys h4 (by simp at hx ⊢; omega) (by simp at hy ⊢; omega)
    rw [List.drop_eq_getElem_cons hkx, List.drop_eq_getElem_cons hky]
    unfold Op.eqFields
    rw [if_pos hname]
    simp only [Sem.run_bind, hpx, hpy, Result.andThen_ok, run_equalIn_int w d f.type .i64 kd _ _ hk]
    cases hb : (xs[k] == ys[k]) with
    | true => simp [ih, eqI, hb]
    | false => simp [eqI, hb]
theorem run_eqlInts {t : TypeId} {n : Nat} (h : istB P t = some n) (xs ys : List Int) (hx : xs.length = n) (hy : ys.length = n) (w : World) :
    (Op.equalIn 10000 t (.agg (ivs xs)) (.agg (ivs ys))).run P w = .ok (eqI xs ys) w ∧ P.eqGuardType P.depth t = false := by
  unfold istB at h
  split at h
  · rename_i fs hfs
    split at h
    · rename_i hc
      simp only [Bool.and_eq_true, Bool.not_eq_true'] at hc
      injection h with h
      subst h
      have hf : P.fieldsOf t = fs := by simp [Program.fieldsOf, hfs]
      refine ⟨?_, hc.2⟩
      rw [show (10000 : Nat) = 9999 + 1 from rfl, run_equalIn_agg w 9999 t _ _ (by rw [hf]; exact hfs) hc.1.2, hf]
      have := run_eqInts (P := P) w 9998 fs.toList 0 xs ys hc.1.1 (by simpa using hx) (by simpa using hy)
      simpa using this
    · cases h
  · cases h
theorem ag_inv {w : World} {R B : Nat → Prop} {g : Nat → GS} {xs : List Int} {v : Value} (h : RA P w R B g (Ag (xs.map iC)) v) : v = .agg (ivs xs) := by
  obtain ⟨vs, rfl, hl, hc⟩ := h
  have : vs = xs.map fun n => Value.int .i64 n := by
    refine List.ext_getElem (by simpa using hl) fun i h1 h2 => ?_
    have hi : i < xs.length := by simpa using h2
    obtain ⟨u, h3, h4⟩ := hc i (iC xs[i]) (by rw [List.getElem?_map, List.getElem?_eq_getElem hi]; rfl)
    obtain ⟨_, h4⟩ := h4
    cases h4
    rw [List.getElem?_eq_getElem h1] at h3
    injection h3 with h3
    rw [h3]
    simp
  rw [this]
  rfl
theorem LT.eqlStruct {t t' : TypeId} {x y : Operand} {n : Nat} (xs ys : List Int) (ho : o.op = .binOp .eql t x y t') (h : istB P t = some n) (hx : xs.length = n) (hy : ys.length = n) :
    LT P o [(x, Ag (xs.map iC)), (y, Ag (ys.map iC))] [] (Bv (eqI xs ys)) [] [] [] := .calm fun R B g w a _ hi _ => by
  obtain ⟨h1, h2⟩ := run_eqlInts h xs ys hx hy w
  refine ⟨.bool (eqI xs ys), ?_, sc_mk rfl⟩
  simp only [execOp, ho, ag_inv (in1 hi), ag_inv (in2 hi), Sem.run_bind, run_eqGuard_agg w .eql t x y _ _ h2, Result.andThen_ok, run_eql_struct, h1, Sem.run_pure]
theorem LT.neqStruct {t t' : TypeId} {x y : Operand} {n : Nat} (xs ys : List Int) (ho : o.op = .binOp .neq t x y t') (h : istB P t = some n) (hx : xs.length = n) (hy : ys.length = n) :
    LT P o [(x, Ag (xs.map iC)), (y, Ag (ys.map iC))] [] (Bv (!eqI xs ys)) [] [] [] := .calm fun R B g w a _ hi _ => by
  obtain ⟨h1, h2⟩ := run_eqlInts h xs ys hx hy w
  refine ⟨.bool (!eqI xs ys), ?_, sc_mk rfl⟩
  simp only [execOp, ho, ag_inv (in1 hi), ag_inv (in2 hi), Sem.run_bind, run_eqGuard_agg w .neq t x y _ _ h2, Result.andThen_ok, run_neq_struct, h1, Sem.run_pure]
end
end Go.Fw
end
section
set_option linter.unusedVariables false
set_option linter.unusedSimpArgs false
set_option linter.unnecessarySimpa false
namespace Go.Fw
theorem BIG_gt {n : Nat} (h : n ≤ 1099511627776) : n < BIG := by unfold BIG; omega
theorem w64_small {n : Int} (h1 : -4611686018427387904 ≤ n) (h2 : n ≤ 4611686018427387904) : w64 n = n := w64_id (by omega) (by omega)
theorem loopM_go {σ τ : Type} {b : σ → Option (σ ⊕ τ)} {r : τ} (st : Nat → σ) (n : Nat) (h : ∀ k, k < n → b (st k) = some (.inl (st (k + 1)))) (hr : b (st n) = some (.inr r)) : ∀ (j k f : Nat), k + j = n → j < f → loopM b f (st k) = some r
  | 0, k, f, hk, hf => by
    obtain ⟨f, rfl⟩ : ∃ g, f = g + 1 := ⟨f - 1, by omega⟩
    have : k = n := by omega
    subst this
    unfold loopM
    rw [hr]
  | j + 1, k, f, hk, hf => by
    obtain ⟨f, rfl⟩ : ∃ g, f = g + 1 := ⟨f - 1, by omega⟩
    unfold loopM
    rw [h k (by omega)]
    exact loopM_go st n h hr j (k + 1) f (by omega) (by omega)
theorem loopM_run {σ τ : Type} {b : σ → Option (σ ⊕ τ)} {r : τ} {s : σ} (st : Nat → σ) (n : Nat) (hn : n ≤ 1099511627776) (h0 : st 0 = s) (h : ∀ k, k < n → b (st k) = some (.inl (st (k + 1)))) (hr : b (st n) = some (.inr r)) : loopM b BIG s = some r := by
  subst h0
  exact loopM_go st n h hr n 0 BIG (by omega) (BIG_gt hn)
theorem idx_at {α : Type} {l : List α} {k : Nat} (h : k < l.length) : idx l (k : Int) = some l[k] := by
  unfold idx
  rw [if_pos (by omega), Int.toNat_natCast, List.getElem?_eq_getElem h]
theorem idx_of {α : Type} {l : List α} {k : Nat} {x : α} (h : l[k]? = some x) : idx l (k : Int) = some x := by
  unfold idx
  rw [if_pos (by omega), Int.toNat_natCast, h]
theorem w64_succ {k : Nat} (h : k ≤ 1099511627776) : w64 ((k : Int) + 1) = ((k + 1 : Nat) : Int) := by
  rw [w64_small (by omega) (by omega)]; omega
theorem count_loop {τ : Type} {b : Int → Option (Int ⊕ τ)} {r : τ} (n : Nat) (hn : n ≤ 1099511627776) (h : ∀ k : Nat, k < n → b k = some (.inl (w64 ((k : Int) + 1)))) (hr : b n = some (.inr r)) : loopM b BIG 0 = some r :=
  loopM_run (fun k => (k : Int)) n hn rfl (fun k hk => by rw [h k hk, w64_succ (by omega)]) hr
theorem any_loop {γ : Type} {b : Int → Option (Int ⊕ (Unit ⊕ γ))} (bad : Nat → Bool) (c : γ) (k0 n : Nat) (hn : n ≤ 1099511627776) (h0 : k0 ≤ n) (h : ∀ k : Nat, k0 ≤ k → k < n → b k = bif bad k then some (.inr (.inr c)) else some (.inl (w64 ((k : Int) + 1)))) (hr : b n = some (.inr (.inl ()))) :
    loopM b BIG k0 = some (bif (List.range' k0 (n - k0)).any bad then .inr c else .inl ()) := by
  have go : ∀ (j k f : Nat), k + j = n → k0 ≤ k → j < f → loopM b f (k : Int) = some (bif (List.range' k j).any bad then .inr c else .inl ()) := by
    intro j
    induction j with
    | zero =>
      intro k f hk _ hf
      obtain ⟨f, rfl⟩ : ∃ g, f = g + 1 := ⟨f - 1, by omega⟩
      have : k = n := by omega
      subst this
      unfold loopM
      rw [hr]
      rfl
    | succ j ih =>
      intro k f hk hk0 hf
      obtain ⟨f, rfl⟩ : ∃ g, f = g + 1 := ⟨f - 1, by omega⟩
      have h1 := h k hk0 (by omega)
      unfold loopM
      cases hb : bad k with
      | true =>
        rw [hb, cond_true] at h1
        rw [h1, List.range'_succ, List.any_cons, hb]
        rfl
      | false =>
        rw [hb, cond_false, w64_succ (by omega)] at h1
        rw [h1, List.range'_succ, List.any_cons, hb, Bool.false_or]
        exact ih (k + 1) f (by omega) (by omega) (by omega)
  exact go (n - k0) k0 BIG (by omega) (Nat.le_refl _) (by have := BIG_gt hn; omega)
theorem loop_inv {σ τ : Type} {b : σ → Option (σ ⊕ τ)} {s : σ} (I : Nat → σ → Prop) (Q : τ → Prop) (n : Nat) (hn : n ≤ 1099511627776) (h0 : I 0 s)
    (h : ∀ k s, k < n → I k s → (∃ s', b s = some (.inl s') ∧ I (k + 1) s') ∨ ∃ r, b s = some (.inr r) ∧ Q r) (hr : ∀ s, I n s → ∃ r, b s = some (.inr r) ∧ Q r) : ∃ r, loopM b BIG s = some r ∧ Q r := by
  have go : ∀ (j k f : Nat) (s : σ), k + j = n → j < f → I k s → ∃ r, loopM b f s = some r ∧ Q r := by
    intro j
    induction j with
    | zero =>
      intro k f s hk hf hi
      obtain ⟨f, rfl⟩ : ∃ g, f = g + 1 := ⟨f - 1, by omega⟩
      have : k = n := by omega
      subst this
      obtain ⟨r, h1, h2⟩ := hr s hi
      exact ⟨r, by unfold loopM; rw [h1], h2⟩
    | succ j ih =>
      intro k f s hk hf hi
      obtain ⟨f, rfl⟩ : ∃ g, f = g + 1 := ⟨f - 1, by omega⟩
      rcases h k s (by omega) hi with ⟨s', h1, h2⟩ | ⟨r, h1, h2⟩
      · obtain ⟨r, h3, h4⟩ := ih (k + 1) f s' (by omega) (by omega) h2
        exact ⟨r, by unfold loopM; rw [h1]; exact h3, h4⟩
      · exact ⟨r, by unfold loopM; rw [h1], h2⟩
  exact go n 0 BIG s (by omega) (BIG_gt hn) h0
theorem copy_loop {α : Type} {b : Int × List α → Option ((Int × List α) ⊕ List α)} (a : List α) (z : α) (ha : a.length ≤ 1099511627776)
    (h : ∀ (k : Nat) (l : List α) x y, a[k]? = some x → l[k]? = some y → b (k, l) = some (.inl (w64 ((k : Int) + 1), l.set k x))) (hr : ∀ l, b ((a.length : Int), l) = some (.inr l)) :
    loopM b BIG (0, List.replicate a.length z) = some a := by
  refine loopM_run (fun k => ((k : Int), a.take k ++ List.replicate (a.length - k) z)) a.length ha (by simp) (fun k hk => ?_) (by simp [hr])
  have h1 : (a.take k ++ List.replicate (a.length - k) z)[k]? = some z := by
    have hl : (a.take k).length = k := by simp; omega
    rw [List.getElem?_append_right (by omega), hl, Nat.sub_self, List.getElem?_replicate, if_pos (by omega)]
  rw [h k _ a[k] z (List.getElem?_eq_getElem hk) h1, w64_succ (by omega)]
  congr 3
  obtain ⟨m, hm⟩ : ∃ m, a.length - k = m + 1 := ⟨a.length - k - 1, by omega⟩
  have hm2 : a.length - (k + 1) = m := by omega
  rw [hm, hm2, List.set_append_right _ _ (by simp; omega)]
  have : k - (a.take k).length = 0 := by simp; omega
  rw [this, List.replicate_succ, List.set_cons_zero]
  have ht : a.take (k + 1) = a.take k ++ [a[k]] := by rw [List.take_add_one, List.getElem?_eq_getElem hk]; rfl
  rw [ht, List.append_assoc]
  rfl
theorem lim_ok {n : Nat} (h : n ≤ 2147483648) : lim n = some () := by unfold lim LIM; rw [if_pos h]
theorem lenOk_ok {n : Int} (h0 : 0 ≤ n) (h : n ≤ 2147483648) : lenOk n = some () := by unfold lenOk; rw [if_pos ⟨h0, h⟩]
theorem same_ok {a b : Nat} (h : a = b) : same a b = some () := by unfold same; rw [if_pos h]
end Go.Fw
end
section
set_option linter.unusedVariables false
set_option linter.unusedSimpArgs false
set_option linter.unnecessarySimpa false
namespace Go.Fw
def iter {β : Type} (f : Nat → β → β) : Nat → β → β
  | 0, a => a
  | n + 1, a => f n (iter f n a)
def pieces {α : Type} (f : Nat → List α) : Nat → List α
  | 0 => []
  | n + 1 => pieces f n ++ f n
theorem pieces_len {α : Type} {f : Nat → List α} {c : Nat} : ∀ n, (∀ k, k < n → (f k).length ≤ c) → (pieces f n).length ≤ c * n
  | 0, _ => by simp [pieces]
  | n + 1, h => by
    have h1 := pieces_len n fun k hk => h k (by omega)
    have h2 := h n (by omega)
    show (pieces f n ++ f n).length ≤ _
    rw [List.length_append, Nat.mul_add, Nat.mul_one]
    omega
theorem pieces_congr {α : Type} {f g : Nat → List α} : ∀ n, (∀ k, k < n → f k = g k) → pieces f n = pieces g n
  | 0, _ => rfl
  | n + 1, h => by
    show pieces f n ++ f n = pieces g n ++ g n
    rw [pieces_congr n fun k hk => h k (by omega), h n (by omega)]
theorem app_loop {α τ σ : Type} {b : σ → Option (σ ⊕ τ)} {s : σ} (mk : Nat → List α → σ) (f : Nat → List α) (fin : List α → τ) (c n : Nat) (out0 : List α) (hn : n ≤ 1099511627776) (hs : s = mk 0 out0) (hc : ∀ k, k < n → (f k).length ≤ c)
    (h : ∀ k out, k < n → out.length ≤ out0.length + c * k → b (mk k out) = some (.inl (mk (k + 1) (out ++ f k)))) (hr : ∀ out, b (mk n out) = some (.inr (fin out))) :
    loopM b BIG s = some (fin (out0 ++ pieces f n)) := by
  subst hs
  refine loopM_run (fun k => mk k (out0 ++ pieces f k)) n hn (by simp [pieces]) (fun k hk => ?_) (hr _)
  have h1 := pieces_len (f := f) (c := c) k fun j hj => hc j (by omega)
  rw [h k _ hk (by rw [List.length_append]; omega), List.append_assoc]
  rfl
theorem any_range {p : Nat → Bool} {k0 n : Nat} : (List.range' k0 n).any p = true ↔ ∃ k, k0 ≤ k ∧ k < k0 + n ∧ p k = true := by
  rw [List.any_eq_true]
  constructor
  · rintro ⟨k, hk, h⟩
    rw [List.mem_range'_1] at hk
    exact ⟨k, hk.1, hk.2, h⟩
  · rintro ⟨k, h1, h2, h⟩
    exact ⟨k, List.mem_range'_1.2 ⟨h1, h2⟩, h⟩
theorem any_range_false {p : Nat → Bool} {k0 n : Nat} : (List.range' k0 n).any p = false ↔ ∀ k, k0 ≤ k → k < k0 + n → p k = false := by
  rw [← Bool.not_eq_true, any_range]
  constructor
  · intro h k h1 h2
    cases hp : p k
    · rfl
    · exact absurd ⟨k, h1, h2, hp⟩ h
  · rintro h ⟨k, h1, h2, h3⟩
    rw [h k h1 h2] at h3
    cases h3
theorem any_loop0 {γ : Type} {b : Int → Option (Int ⊕ (Unit ⊕ γ))} (bad : Nat → Bool) (c : γ) (n : Nat) (hn : n ≤ 1099511627776) (h : ∀ k : Nat, k < n → b k = bif bad k then some (.inr (.inr c)) else some (.inl (w64 ((k : Int) + 1)))) (hr : b n = some (.inr (.inl ()))) :
    loopM b BIG 0 = some (bif (List.range' 0 n).any bad then .inr c else .inl ()) := by
  have := any_loop (b := b) bad c 0 n hn (by omega) (fun k _ hk => h k hk) hr
  rwa [Nat.sub_zero] at this
theorem set_repl {α : Type} (a : List α) (z x : α) (k n : Nat) (ha : a.length = k) (hk : k < n) : (a ++ List.replicate (n - k) z).set k x = (a ++ [x]) ++ List.replicate (n - (k + 1)) z := by
  obtain ⟨m, hm⟩ : ∃ m, n - k = m + 1 := ⟨n - k - 1, by omega⟩
  rw [hm, show n - (k + 1) = m by omega, List.set_append_right _ _ (by omega), ha, Nat.sub_self, List.replicate_succ, List.set_cons_zero, List.append_assoc]
  rfl
end Go.Fw
end
section
set_option linter.unusedVariables false
set_option linter.unusedSimpArgs false
set_option linter.unnecessarySimpa false
namespace Go.Fw
open Go.ChangeMaps
def mget : List (Int × Int) → Int → Int
  | [], _ => 0
  | e :: r, k => bif k == e.1 then e.2 else mget r k
def mhas : List (Int × Int) → Int → Bool
  | [], _ => false
  | e :: r, k => bif k == e.1 then true else mhas r k
def mput : List (Int × Int) → Int → Int → List (Int × Int)
  | [], k, v => [(k, v)]
  | e :: r, k, v => bif k == e.1 then (k, v) :: r else e :: mput r k v
section
variable {P : Program} {o : Oper} {w : World} {R B : Nat → Prop} {g : Nat → GS}
variable {α : Type} {enc : α → List PV}
theorem PermO.row1 {e : TypeId} {cs : List CV} (h : PermCL cs) : PermO (.row e [cs]) := fun c hc x hx => by
  have : c = cs := by simpa using hc
  subst this
  exact h.spec x hx
end
end Go.Fw
end
section
set_option linter.unusedVariables false
set_option linter.unusedSimpArgs false
set_option linter.unnecessarySimpa false
namespace Go.Fw
section
variable {P : Program} {C : Ctx} {σ : Slots} {m : Mem}
theorem RC.junk {w : World} {R B : Nat → Prop} {g : Nat → GS} {x : CV} {v : Value} (h : RC P w R B g x v) : RC P w R B g .junk v := ⟨h.1, trivial⟩
theorem St.slot {R B : Nat → Prop} {g : Nat → GS} {a : Act} {w : World} (hs : St P C σ m R B g a w) {t : Nat} {v : AV} (h : RA P w R B g v (a.tmps.getD t undef)) : St P C ((t, v) :: σ) m R B g a w := by
  refine { hs with sl := ?_ }
  intro t' v' hl
  change (bif Nat.beq t t' then some v else lk σ t') = some v' at hl
  cases hb : Nat.beq t t' with
  | true =>
    rw [hb, cond_true] at hl
    injection hl with hl
    subst hl
    rw [← Nat.eq_of_beq_eq_true hb]
    exact h
  | false =>
    rw [hb, cond_false] at hl
    exact hs.sl t' v' hl
theorem St.obj {R B : Nat → Prop} {g : Nat → GS} {a : Act} {w : World} (hs : St P C σ m R B g a w) {n : Nat} {o0 o : Ob} (h0 : lk m n = some o0) (h : RO P w R B g n o) : St P C σ ((n, o) :: m) R B g a w := by
  refine { hs with ob := ?_, ow := ?_ }
  · intro n' o' hl
    change (bif Nat.beq n n' then some o else lk m n') = some o' at hl
    cases hb : Nat.beq n n' with
    | true =>
      rw [hb, cond_true] at hl
      injection hl with hl
      subst hl
      rw [← Nat.eq_of_beq_eq_true hb]
      exact h
    | false =>
      rw [hb, cond_false] at hl
      exact hs.ob n' o' hl
  · intro n' o' b hl hg
    change (bif Nat.beq n n' then some o else lk m n') = some o' at hl
    cases hb : Nat.beq n n' with
    | true =>
      have := Nat.eq_of_beq_eq_true hb
      subst this
      exact hs.ow n o0 b h0 hg
    | false =>
      rw [hb, cond_false] at hl
      exact hs.ow n' o' b hl hg
theorem Ent.junkS (t : Nat) {x : CV} (h : lk σ t = some (Cc x)) : Ent P C σ m ((t, Cc .junk) :: σ) m := fun R B g a w hs =>
  ⟨R, B, g, hs.slot (v := Cc .junk) (RC.junk (x := x) (hs.sl t _ h))⟩
def QWL : List PV → List PV → Prop
  | [], [] => True
  | p :: r, p' :: r' => QW p p' ∧ QWL r r'
  | _, _ => False
theorem QWL.get : ∀ {l l' : List PV}, QWL l l' → l'.length = l.length ∧ ∀ (k : Nat) p p', l[k]? = some p → l'[k]? = some p' → QW p p'
  | [], [], _ => ⟨rfl, fun k p p' h => by simp at h⟩
  | p :: r, p' :: r', h => by
    obtain ⟨h1, h2⟩ := QWL.get h.2
    refine ⟨by simp [h1], fun k x x' hx hx' => ?_⟩
    cases k with
    | zero =>
      simp at hx hx'
      subst hx
      subst hx'
      exact h.1
    | succ k => exact h2 k x x' (by simpa using hx) (by simpa using hx')
  | [], _ :: _, h => h.elim
  | _ :: _, [], h => h.elim
theorem QW.xsm {α : Type} {enc enc' : α → List PV} (h : ∀ a, QWL (enc a) (enc' a)) {q q' : Bool} (hq : q' = true → q = true) (xs : List α) : QW (.xs q (xs.map enc)) (.xs q' (xs.map enc')) := by
  refine .xs hq (by simp) (fun j cs cs' h1 h2 => ?_) (fun j k cs cs' p p' h1 h2 h3 h4 => ?_)
  · rw [List.getElem?_map] at h1 h2
    cases hx : xs[j]? with
    | none => rw [hx] at h1; cases h1
    | some a =>
      rw [hx] at h1 h2
      injection h1 with h1
      injection h2 with h2
      subst h1
      subst h2
      exact (h a).get.1
  · rw [List.getElem?_map] at h1 h2
    cases hx : xs[j]? with
    | none => rw [hx] at h1; cases h1
    | some a =>
      rw [hx] at h1 h2
      injection h1 with h1
      injection h2 with h2
      subst h1
      subst h2
      exact (h a).get.2 k p p' h3 h4
theorem permP_xs {α : Type} {enc : α → List PV} (h : ∀ a, PermPL (enc a)) (xs : List α) : PermP (.xs true (xs.map enc)) := .xs fun cs hcs p hp => by
  obtain ⟨a, _, rfl⟩ := List.mem_map.1 hcs
  exact (h a).spec p hp
theorem St.freeze {R B : Nat → Prop} {g : Nat → GS} {a : Act} {w : World} (hs : St P C σ m R B g a w) {n : Nat} {e : TypeId} {els : List (List PV)} (ho : lk m n = some (.prow e els)) (hn : n ∉ C.pn) (hU : ∀ b, C.U0 b → ∃ k ∈ C.pn, (C.g0 k).has b) :
    ∃ R' B' g', Adv R B g w [] [n] R' B' g' w ∧ St P C (junkSl [n] σ) (junkM [n] m) R' B' g' a w ∧ ∀ v, RC P w R B g (.loc n 0 els.length) v → RPV w R' B' (.xs true els) v := by
  have hro : ROw P w R B g n e (pvs els) := hs.ob n _ ho
  have hw := hs.wf
  let R' : Nat → Prop := fun b => R b ∨ (g n).has b
  let B' : Nat → Prop := fun b => B b ∨ (g n).has b
  have hne : ∀ k, k ≠ n → upd g n .dead k = g k := fun k hk => upd_ne g _ hk
  have hwf : WF R' B' (upd g n .dead) w := by
    have h0 := hw.upd n .dead (w' := w) (Nat.le_refl _) (fun b hb => hb.elim) (fun i j b hi => by cases hi)
    refine ⟨fun b hb => hb.imp (hw.rb b) id, fun b hb => hb.elim (hw.lt b) fun h => (hw.ownH n b h).2, fun k b hk => ⟨fun hB => ?_, (h0.ownH k b hk).2⟩, h0.injH, h0.nd⟩
    rcases hB with hB | hB
    · exact (h0.ownH k b hk).1 hB
    · by_cases hkn : k = n
      · subst hkn; rw [upd_same] at hk; exact hk.elim
      · rw [hne k hkn] at hk
        exact hkn (hw.injH k n b hk hB)
  have had : Adv R B g w [] [n] R' B' (upd g n .dead) w := by
    refine ⟨hwf, fun _ h => .inl h, fun _ h => .inl h, rfl, rfl, rfl, Nat.le_refl _, fun _ _ _ => rfl, fun k hk => hne k (by simpa using hk), fun k hk b hb => ?_, fun k hk => by cases hk⟩
    have : k = n := by simpa using hk
    subst this
    rw [upd_same] at hb
    exact hb.elim
  refine ⟨R', B', upd g n .dead, had, ?_, fun v hv => ?_⟩
  · refine { hs with wf := hwf, sl := ?_, ob := ?_, ow := ?_, perm := ?_, r0 := ?_, pin := ?_ }
    · intro t v hl
      rw [lk_junkSl] at hl
      cases hv : lk σ t with
      | none => rw [hv] at hl; cases hl
      | some u =>
        rw [hv] at hl
        injection hl with hl
        subst hl
        exact had.ra hw (hs.sl t u hv)
    · intro k o hl
      obtain ⟨hk, o0, h0, rfl⟩ := lk_junkM [n] m k o hl
      exact had.ro hw hk (by simp) (hs.ob k o0 h0)
    · intro k o b hl hg
      obtain ⟨hk, o0, h0, _⟩ := lk_junkM [n] m k o hl
      rw [hne k (by simpa using hk)] at hg
      exact hs.ow k o0 b h0 hg
    · intro b hb
      rcases hb with hb | hb
      · exact hs.perm b hb
      · rcases hs.ow n _ b ho hb with h | h
        · exact .inr h
        · obtain ⟨k, hk, hg⟩ := hU b h
          have := hw.injH k n b (by rw [hs.pin k hk]; exact hg) hb
          subst this
          exact absurd hk hn
    · intro b hb
      exact .inl (hs.r0 b hb)
    · intro k hk
      rw [hne k (fun h => hn (h ▸ hk))]
      exact hs.pin k hk
  · obtain ⟨_, hv⟩ := hv
    rcases hv with ⟨h1, _, h3, h4⟩ | ⟨_, h2, _⟩ | ⟨b, cap, cur, e', k1, k2, k3, k4, k5, k6⟩
    · have : els = [] := List.eq_nil_of_length_eq_zero h3
      subst this
      subst h4
      exact .emp
    · exact absurd rfl h2
    · rcases hro with ⟨h1, _⟩ | ⟨b', cur', h1, h2, h3, h4, h5⟩
      · rw [k1] at h1; cases h1
      · rw [k1] at h1
        injection h1 with h1
        subst h1
        rw [k2] at h2
        injection h2 with h2
        injection h2 with h2 h6 h7
        subst h2
        subst h6
        subst k6
        have hval : ∀ j k cs p, els[j]? = some cs → cs[k]? = some p → ∃ u, cur[j * szP P e' + k]? = some u ∧ RC P w R B g (.pv p) u := fun j k cs p hj hk => by
          have := h5 j k (cs.map .pv) (.pv p) (by simp [pvs, hj]) (by simp [hk])
          exact this
        refine .xs (s := szP P e') (fun j k => cur.getD (j * szP P e' + k) undef) rfl (.inr (GS.has_blk k1)) k3 (fun cs hcs => ?_) (fun j k cs p hj hk => ?_) (fun j k cs p hj hk => ?_)
        · have := h3 (cs.map .pv) (List.mem_map.2 ⟨cs, hcs, rfl⟩)
          simpa using this
        · obtain ⟨u, hu, _⟩ := hval j k cs p hj hk
          rw [Nat.zero_mul, add_lit, Nat.zero_add, row_cell k2, hu]
          simp [Array.getD_eq_getD_getElem?, hu]
        · obtain ⟨u, hu, hr⟩ := hval j k cs p hj hk
          have : cur.getD (j * szP P e' + k) undef = u := by simp [Array.getD_eq_getD_getElem?, hu]
          rw [this]
          exact (had.rc hw (x := .pv p) hr).2
section
variable {α : Type} {enc : α → List PV}
end
end
end Go.Fw
end
section
set_option linter.unusedVariables false
set_option linter.unusedSimpArgs false
set_option linter.unnecessarySimpa false
namespace Go.Fw
section
variable {P : Program} {w : World} {R B : Nat → Prop} {g g' : Nat → GS} {X : List Nat} {p k m : Nat}
theorem RC.av {x : CV} {v : Value} (hz : nrC X x = true) (hg : ∀ n, n ∉ X → g' n = g n) (h : RC P w R B g x v) : RC P w R B g' x v := by
  refine ⟨h.1, ?_⟩
  have h2 := h.2
  cases x with
  | pv p => exact h2
  | px q cells => exact h2
  | loc n off len =>
    have hn := hg n (notin_of_elem (by simpa [nrC] using hz))
    rcases h2 with ⟨h3, h4⟩ | h3 | ⟨b, cap, cur, e, h3, h4⟩
    · exact .inl ⟨hn.trans h3, h4⟩
    · exact .inr (.inl h3)
    · exact .inr (.inr ⟨b, cap, cur, e, hn.trans h3, h4⟩)
  | pl n off =>
    obtain ⟨b, h3, h4⟩ := h2
    exact ⟨b, (hg n (notin_of_elem (by simpa [nrC] using hz))).trans h3, h4⟩
  | fn f caps =>
    obtain ⟨vs, h3, h4, h5⟩ := h2
    exact ⟨vs, h3, h4, fun k n hk => by
      obtain ⟨b, h6, h7⟩ := h5 k n hk
      have hc : caps.any X.elem = false := by simpa [nrC] using hz
      have hn : X.elem n = false := by
        have := List.any_eq_false.1 hc n (List.mem_of_getElem? hk)
        simpa using this
      exact ⟨b, (hg n (notin_of_elem hn)).trans h6, h7⟩⟩
  | mref n =>
    obtain ⟨b, h3, h4⟩ := h2
    exact ⟨b, (hg n (notin_of_elem (by simpa [nrC] using hz))).trans h3, h4⟩
  | tl q j off len =>
    have hn := hg q (notin_of_elem (by simpa [nrC] using hz))
    rcases h2 with ⟨h3, h4⟩ | h3 | ⟨b, cap, cur, e, h3, h4⟩
    · exact .inl ⟨by rw [hn]; exact h3, h4⟩
    · exact .inr (.inl h3)
    · exact .inr (.inr ⟨b, cap, cur, e, by rw [hn]; exact h3, h4⟩)
  | tpl q j off =>
    obtain ⟨b, h3, h4⟩ := h2
    exact ⟨b, by rw [hg q (notin_of_elem (by simpa [nrC] using hz))]; exact h3, h4⟩
  | junk => trivial
theorem RS.av {x : SV} {v : Value} (hz : nrS X x = true) (hg : ∀ n, n ∉ X → g' n = g n) (h : RS P w R B g x v) : RS P w R B g' x v := by
  cases x with
  | c x => exact RC.av hz hg h
  | agg cs =>
    obtain ⟨vs, h1, h2, h3⟩ := h
    exact ⟨vs, h1, h2, fun k x hk => by
      obtain ⟨u, h4, h5⟩ := h3 k x hk
      exact ⟨u, h4, h5.av (List.all_eq_true.1 hz x (List.mem_of_getElem? hk)) hg⟩⟩
theorem ROw.av {n : Nat} {e : TypeId} {els : List (List CV)} (hn : n ∉ X) (hz : els.all (·.all (nrC X)) = true) (hg : ∀ n, n ∉ X → g' n = g n) (h : ROw P w R B g n e els) : ROw P w R B g' n e els := by
  rcases h with ⟨h1, h2⟩ | ⟨b, cur, h1, h2, h3, h4, h5⟩
  · exact .inl ⟨(hg n hn).trans h1, h2⟩
  · exact .inr ⟨b, cur, (hg n hn).trans h1, h2, h3, h4, fun j k cs x hj hk => by
      obtain ⟨u, h6, h7⟩ := h5 j k cs x hj hk
      exact ⟨u, h6, h7.av (List.all_eq_true.1 (List.all_eq_true.1 hz cs (List.mem_of_getElem? hj)) x (List.mem_of_getElem? hk)) hg⟩⟩
theorem RO.av {n : Nat} {o : Ob} (hn : n ∉ X) (hz : nrO X o = true) (hg : ∀ n, n ∉ X → g' n = g n) (h : RO P w R B g n o) : RO P w R B g' n o := by
  cases o with
  | row e els => exact ROw.av hn hz hg h
  | prow e els => exact ROw.av hn (by simp [pvs, List.all_eq_true, nrC]) hg h
  | mp es =>
    obtain ⟨b, ents, clock, h1, h2⟩ := h
    exact ⟨b, ents, clock, (hg n hn).trans h1, h2⟩
  | pool e rows =>
    obtain ⟨⟨bs, h1, h2⟩, h3⟩ := h
    exact ⟨⟨bs, (hg n hn).trans h1, h2⟩, by rw [hg n hn]; exact h3⟩
  | trow e p lens => exact ROw.av hn (List.all_eq_true.2 fun cs hcs => by
      obtain ⟨j, l, rfl⟩ := mem_tcells hcs
      simpa [nrC, nrO] using hz) hg h
  | unk => trivial
theorem PRow.of {n : Nat} {e : TypeId} {els : List (List PV)} (h : ROw P w R B g n e (pvs els)) : PRow P w R B (g n) e els := by
  rcases h with ⟨h1, h2⟩ | ⟨b, cur, h1, h2, h3, h4, h5⟩
  · exact .inl ⟨h1, by simpa [pvs] using h2⟩
  · refine .inr ⟨b, cur, h1, h2, fun cs hcs => ?_, by simpa [pvs] using h4, fun j k cs x hj hk => ?_⟩
    · have := h3 (cs.map .pv) (List.mem_map.2 ⟨cs, hcs, rfl⟩)
      simpa using this
    · obtain ⟨u, hu, hr⟩ := h5 j k (cs.map .pv) (.pv x) (by simp [pvs, hj]) (by simp [hk])
      exact ⟨u, hu, hr.2⟩
theorem PRow.row {n : Nat} {s : GS} {e : TypeId} {els : List (List PV)} (h : PRow P w R B s e els) (hn : g n = s) : ROw P w R B g n e (pvs els) := by
  rcases h with ⟨h1, h2⟩ | ⟨b, cur, h1, h2, h3, h4, h5⟩
  · exact .inl ⟨hn.trans h1, by rw [h2]; rfl⟩
  · refine .inr ⟨b, cur, hn.trans h1, h2, fun cs hcs => ?_, by simpa [pvs] using h4, fun j k cs x hj hk => ?_⟩
    · obtain ⟨c0, hc0, rfl⟩ := List.mem_map.1 hcs
      simpa using h3 c0 hc0
    · simp only [pvs, List.getElem?_map] at hj
      cases hc : els[j]? with
      | none => rw [hc] at hj; cases hj
      | some c0 =>
        rw [hc] at hj
        injection hj with hj
        subst hj
        rw [List.getElem?_map] at hk
        cases hc2 : c0[k]? with
        | none => rw [hc2] at hk; cases hk
        | some y =>
          rw [hc2] at hk
          injection hk with hk
          subst hk
          obtain ⟨u, hu, hr⟩ := h5 j k c0 y hc hc2
          exact ⟨u, hu, hr.oneCell, hr⟩
end
end Go.Fw
end
section
set_option linter.unusedVariables false
set_option linter.unusedSimpArgs false
set_option linter.unnecessarySimpa false
namespace Go.Fw
section
variable {P : Program} {C : Ctx} {σ : Slots} {mm : Mem} {α : Type} {enc : α → List PV}
theorem Ent.trow {n p : Nat} {e : TypeId} {lens : List Nat} {cells : List (List CV)} (hc : cells = tcells p lens) (h : lk mm n = some (.row e cells)) : Ent P C σ mm σ ((n, .trow e p lens) :: mm) := fun R B g a w hs => by
  subst hc
  exact ⟨R, B, g, hs.obj (o := .trow e p lens) h (show ROw P w R B g n e (tcells p lens) from hs.ob n (.row e (tcells p lens)) h)⟩
end
end Go.Fw
end
section
set_option linter.unusedVariables false
set_option linter.unusedSimpArgs false
set_option linter.unnecessarySimpa false
namespace Go.Fw
section
variable {P : Program} {o : Oper} {α : Type} {enc : α → List PV}
theorem PRow.blk {w : World} {R B : Nat → Prop} {s : GS} {e : TypeId} {els : List (List PV)} (h : PRow P w R B s e els) {b : Nat} (hb : s = .blk b) {cur : Array Value} {e' : TypeId} (hh : w.heap[b]? = some (.cells cur e' (0, 0))) :
    e' = e ∧ (∀ cs ∈ els, cs.length = szP P e) ∧ els.length * szP P e ≤ cur.size ∧ ∀ (j k : Nat) cs x, els[j]? = some cs → cs[k]? = some x → ∃ u, cur[j * szP P e + k]? = some u ∧ RPV w R B x u := by
  rcases h with ⟨h1, _⟩ | ⟨b', cur', h1, h2, h3, h4, h5⟩
  · rw [hb] at h1; cases h1
  · rw [hb] at h1
    injection h1 with h1
    subst h1
    rw [hh] at h2
    injection h2 with h2
    injection h2 with h2 h6 h7
    subst h2
    subst h6
    exact ⟨rfl, h3, h4, h5⟩
end
end Go.Fw
end
section
set_option linter.unusedVariables false
set_option linter.unusedSimpArgs false
set_option linter.unnecessarySimpa false
namespace Go.Fw
section
variable {P : Program} {C : Ctx} {σ : Slots} {mm : Mem} {α : Type} {enc : α → List PV}
theorem Ent.lens {n p : Nat} {e : TypeId} {lens lens' : List Nat} (he : lens = lens') (h : lk mm n = some (.trow e p lens)) : Ent P C σ mm σ ((n, .trow e p lens') :: mm) := fun R B g a w hs => by
  subst he
  exact ⟨R, B, g, hs.obj h (hs.ob n _ h)⟩
end
end Go.Fw
end
section
set_option linter.unusedVariables false
set_option linter.unusedSimpArgs false
set_option linter.unnecessarySimpa false
namespace Go.Fw
section
variable {P : Program} {o : Oper}
theorem LT.makeFuncC {f : FuncId} {ops : Array Operand} (caps : List Nat) (ho : o.op = .makeFunc (.func f) #[] ops) (hlen : ops.size = caps.length) : LT P o (zipOps ops.toList (caps.map plS)) [] (Cc (.fn f caps)) [] [] [] := .calm fun R B g w a _ hin _ => by
  have hget : ∀ (k n : Nat), caps[k]? = some n → ∃ b, g n = .blk b ∧ (ops.toList.map a.eval)[k]? = some (Value.pointer (some ⟨b, 0, none⟩)) := fun k n hk => by
    have hkl : k < ops.toList.length := by rw [Array.length_toList, hlen]; exact (List.getElem?_eq_some_iff.1 hk).1
    have hm : (ops.toList[k], AV.s (plS n)) ∈ zipOps ops.toList (caps.map plS) := by
      refine List.mem_map.2 ⟨(ops.toList[k], plS n), ?_, rfl⟩
      refine List.mem_of_getElem? (i := k) ?_
      rw [List.getElem?_zip_eq_some]
      exact ⟨List.getElem?_eq_getElem hkl, by rw [List.getElem?_map, hk]; rfl⟩
    obtain ⟨_, b, h1, h2⟩ := hin _ hm
    exact ⟨b, h1, by rw [List.getElem?_map, List.getElem?_eq_getElem hkl]; exact congrArg some h2⟩
  refine ⟨.func (.func f) #[] (ops.map a.eval), by simp [execOp, ho, Instr.makeFunc], rfl, ops.toList.map a.eval, ?_, by rw [List.length_map, Array.length_toList, hlen], hget⟩
  congr 1
  apply Array.ext'
  simp
theorem LT.callC {cf : Operand} {f : FuncId} {ops : Array Operand} {ts : Array TypeId} (caps : List Nat) {xs : List SV} (ys : List SV) {us sh df : Mem} {v : AV} {W X : List Nat} (hf : Fn P f (ys ++ caps.map plS) us v df W X)
    (ho : o.op = .call { callee := .value cf, args := ops, argTypes := ts }) (hb : callB P f = true) (hsh : ShA sh xs ys) (hlen : ops.size = xs.length)
    (hside : (disL (keys sh) (W ++ X ++ keys us ++ keys df ++ caps) && subL W (keys us)) = true) (hus : JunkL (keys sh) us) : LT P o ((cf, Cc (.fn f caps)) :: zipOps ops.toList xs) (us ++ sh) v df W X :=
  LT.call hf ho hb hlen hsh hside hus.spec
end
end Go.Fw
end
section
set_option linter.unusedVariables false
set_option linter.unusedSimpArgs false
set_option linter.unnecessarySimpa false
namespace Go.Fw
inductive FrC (n : Nat) (els : List (List PV)) : CV → CV → Prop
  | same {x y : CV} (h : junkC [n] x = y) : FrC n els x y
  | fr {l : Nat} (h : l = els.length) : FrC n els (.loc n 0 l) (.pv (.xs true els))
inductive FrL (n : Nat) (els : List (List PV)) : List CV → List CV → Prop
  | nil : FrL n els [] []
  | cons {x y : CV} {xs ys : List CV} (h : FrC n els x y) (t : FrL n els xs ys) : FrL n els (x :: xs) (y :: ys)
inductive FrA (n : Nat) (els : List (List PV)) : AV → AV → Prop
  | same {x y : AV} (h : junkA [n] x = y) : FrA n els x y
  | c {x y : CV} (h : FrC n els x y) : FrA n els (.s (.c x)) (.s (.c y))
  | agg {xs ys : List CV} (h : FrL n els xs ys) : FrA n els (.s (.agg xs)) (.s (.agg ys))
inductive FrO (n : Nat) (els : List (List PV)) : Ob → Ob → Prop
  | same {x y : Ob} (h : junkO [n] x = y) : FrO n els x y
  | row {e : TypeId} {xs ys : List CV} (h : FrL n els xs ys) : FrO n els (.row e [xs]) (.row e [ys])
def FrSl (n : Nat) (els : List (List PV)) (σ : Slots) : Slots → Prop
  | [] => True
  | (t, v) :: r => (∃ x, lk σ t = some x ∧ FrA n els x v) ∧ FrSl n els σ r
def FrM (n : Nat) (els : List (List PV)) (m : Mem) : Mem → Prop
  | [] => True
  | (k, o) :: r => (Nat.beq k n = false ∧ ∃ x, lk m k = some x ∧ FrO n els x o) ∧ FrM n els m r
section
variable {P : Program} {C : Ctx} {σ σ' : Slots} {m m' : Mem} {n : Nat} {els : List (List PV)}
theorem FrSl.get : ∀ {σ' : Slots}, FrSl n els σ σ' → ∀ t v, lk σ' t = some v → ∃ x, lk σ t = some x ∧ FrA n els x v
  | [], _, t, v, h => by cases h
  | (k, v') :: r, h, t, v, hl => by
    change (bif Nat.beq k t then some v' else lk r t) = some v at hl
    cases hb : Nat.beq k t with
    | true =>
      rw [hb, cond_true] at hl
      injection hl with hl
      subst hl
      have := Nat.eq_of_beq_eq_true hb
      subst this
      exact h.1
    | false =>
      rw [hb, cond_false] at hl
      exact FrSl.get h.2 t v hl
theorem FrM.get : ∀ {m' : Mem}, FrM n els m m' → ∀ k o, lk m' k = some o → k ≠ n ∧ ∃ x, lk m k = some x ∧ FrO n els x o
  | [], _, t, v, h => by cases h
  | (k, v') :: r, h, t, v, hl => by
    change (bif Nat.beq k t then some v' else lk r t) = some v at hl
    cases hb : Nat.beq k t with
    | true =>
      rw [hb, cond_true] at hl
      injection hl with hl
      subst hl
      have := Nat.eq_of_beq_eq_true hb
      subst this
      exact ⟨Nat.ne_of_beq_eq_false h.1.1, h.1.2⟩
    | false =>
      rw [hb, cond_false] at hl
      exact FrM.get h.2 t v hl
theorem FrL.get {xs ys : List CV} (h : FrL n els xs ys) : xs.length = ys.length ∧ ∀ (k : Nat) y, ys[k]? = some y → ∃ x, xs[k]? = some x ∧ FrC n els x y := by
  induction h with
  | nil => exact ⟨rfl, fun k y h => by simp at h⟩
  | cons h _ ih =>
    refine ⟨by simp [ih.1], fun k y hk => ?_⟩
    cases k with
    | zero => simp at hk; subst hk; exact ⟨_, rfl, h⟩
    | succ k => exact ih.2 k y (by simpa using hk)
section
variable {w : World} {R B R' B' : Nat → Prop} {g g' : Nat → GS}
theorem FrC.rc (had : Adv R B g w [] [n] R' B' g' w) (hw : WF R B g w) (hv : ∀ v, RC P w R B g (.loc n 0 els.length) v → RPV w R' B' (.xs true els) v) {x y : CV} {v : Value} (h : FrC n els x y) (hx : RC P w R B g x v) : RC P w R' B' g' y v := by
  cases h with
  | same h => subst h; exact had.rc hw hx
  | fr h => subst h; exact ⟨hx.1, hv v hx⟩
theorem FrL.rl (had : Adv R B g w [] [n] R' B' g' w) (hw : WF R B g w) (hv : ∀ v, RC P w R B g (.loc n 0 els.length) v → RPV w R' B' (.xs true els) v) {xs ys : List CV} (h : FrL n els xs ys) {us : Nat → Option Value} (hx : ∀ (k : Nat) x, xs[k]? = some x → ∃ u, us k = some u ∧ RC P w R B g x u) :
    ∀ (k : Nat) y, ys[k]? = some y → ∃ u, us k = some u ∧ RC P w R' B' g' y u := fun k y hk => by
  obtain ⟨x, h1, h2⟩ := h.get.2 k y hk
  obtain ⟨u, h3, h4⟩ := hx k x h1
  exact ⟨u, h3, h2.rc had hw hv h4⟩
theorem FrA.ra (had : Adv R B g w [] [n] R' B' g' w) (hw : WF R B g w) (hv : ∀ v, RC P w R B g (.loc n 0 els.length) v → RPV w R' B' (.xs true els) v) {x y : AV} {v : Value} (h : FrA n els x y) (hx : RA P w R B g x v) : RA P w R' B' g' y v := by
  cases h with
  | same h => subst h; exact had.ra hw hx
  | c h => exact FrC.rc had hw hv h hx
  | agg h =>
    obtain ⟨vs, h1, h2, h3⟩ := hx
    exact ⟨vs, h1, h2.trans h.get.1, FrL.rl had hw hv h h3⟩
theorem FrO.ro (had : Adv R B g w [] [n] R' B' g' w) (hw : WF R B g w) (hv : ∀ v, RC P w R B g (.loc n 0 els.length) v → RPV w R' B' (.xs true els) v) {k : Nat} (hk : k ≠ n) {x y : Ob} (h : FrO n els x y) (hx : RO P w R B g k x) : RO P w R' B' g' k y := by
  cases h with
  | same h => subst h; exact had.ro hw (by simpa using hk) (by simp) hx
  | @row e xs ys h =>
    have hg : g' k = g k := had.names k (by simpa using hk)
    rcases hx with ⟨h1, h2⟩ | ⟨b, cur, h1, h2, h3, h4, h5⟩
    · cases h2
    · refine .inr ⟨b, cur, hg.trans h1, h2, fun cs hcs => ?_, h4, fun j i cs y hj hi => ?_⟩
      · have : cs = ys := by simpa using hcs
        subst this
        rw [← h.get.1]
        exact h3 xs (by simp)
      · cases j with
        | succ j => simp at hj
        | zero =>
          have : ys = cs := by simpa using hj
          subst this
          exact FrL.rl had hw hv h (us := fun i => cur[0 * szP P e + i]?) (fun i x hi => h5 0 i xs x rfl hi) i y hi
end
variable {α : Type} {enc : α → List PV}
theorem Ent.freezeA (n : Nat) {e : TypeId} {xs : List α} (hU : ∀ b, C.U0 b → ∃ k ∈ C.pn, (C.g0 k).has b) (hn : C.pn.elem n = false) (ho : lk m n = some (.prow e (xs.map enc)))
    (h1 : FrSl n (xs.map enc) σ σ') (h2 : FrM n (xs.map enc) m m') : Ent P C σ m σ' m' := fun R B g a w hs => by
  obtain ⟨R', B', g', had, hs', hv⟩ := hs.freeze ho (fun h => by rw [List.elem_eq_true_of_mem h] at hn; cases hn) hU
  refine ⟨R', B', g', { hs' with sl := fun t v hl => ?_, ob := fun k o hl => ?_, ow := fun k o b hl hg => ?_ }⟩
  · obtain ⟨x, h3, h4⟩ := h1.get t v hl
    exact h4.ra had hs.wf hv (hs.sl t x h3)
  · obtain ⟨hk, x, h3, h4⟩ := h2.get k o hl
    exact h4.ro had hs.wf hv hk (hs.ob k x h3)
  · obtain ⟨hk, x, h3, h4⟩ := h2.get k o hl
    rw [had.names k (by simpa using hk)] at hg
    exact hs.ow k x b h3 hg
end
end Go.Fw
end
section
set_option linter.unusedVariables false
set_option linter.unusedSimpArgs false
set_option linter.unnecessarySimpa false
namespace Go.Fw
section
variable {P : Program} {w : World} {R B : Nat → Prop} {g : Nat → GS}
theorem freeze_raw (hw : WF R B g w) {n : Nat} {e : TypeId} {els : List (List PV)} (hro : ROw P w R B g n e (pvs els)) :
    ∃ R' B' g', Adv R B g w [] [n] R' B' g' w ∧ (∀ b, R' b → R b ∨ (g n).has b) ∧ ∀ v, RC P w R B g (.loc n 0 els.length) v → RPV w R' B' (.xs true els) v := by
  let R' : Nat → Prop := fun b => R b ∨ (g n).has b
  let B' : Nat → Prop := fun b => B b ∨ (g n).has b
  have hne : ∀ k, k ≠ n → upd g n .dead k = g k := fun k hk => upd_ne g _ hk
  have hwf : WF R' B' (upd g n .dead) w := by
    have h0 := hw.upd n .dead (w' := w) (Nat.le_refl _) (fun b hb => hb.elim) (fun i j b hi => by cases hi)
    refine ⟨fun b hb => hb.imp (hw.rb b) id, fun b hb => hb.elim (hw.lt b) fun h => (hw.ownH n b h).2, fun k b hk => ⟨fun hB => ?_, (h0.ownH k b hk).2⟩, h0.injH, h0.nd⟩
    rcases hB with hB | hB
    · exact (h0.ownH k b hk).1 hB
    · by_cases hkn : k = n
      · subst hkn; rw [upd_same] at hk; exact hk.elim
      · rw [hne k hkn] at hk
        exact hkn (hw.injH k n b hk hB)
  have had : Adv R B g w [] [n] R' B' (upd g n .dead) w := by
    refine ⟨hwf, fun _ h => .inl h, fun _ h => .inl h, rfl, rfl, rfl, Nat.le_refl _, fun _ _ _ => rfl, fun k hk => hne k (by simpa using hk), fun k hk b hb => ?_, fun k hk => by cases hk⟩
    have : k = n := by simpa using hk
    subst this
    rw [upd_same] at hb
    exact hb.elim
  refine ⟨R', B', upd g n .dead, had, fun b hb => hb, fun v hv => ?_⟩
  obtain ⟨_, hv⟩ := hv
  rcases hv with ⟨h1, _, h3, h4⟩ | ⟨_, h2, _⟩ | ⟨b, cap, cur, e', k1, k2, k3, k4, k5, k6⟩
  · have : els = [] := List.eq_nil_of_length_eq_zero h3
    subst this
    subst h4
    exact .emp
  · exact absurd rfl h2
  · rcases hro with ⟨h1, _⟩ | ⟨b', cur', h1, h2, h3, h4, h5⟩
    · rw [k1] at h1; cases h1
    · rw [k1] at h1
      injection h1 with h1
      subst h1
      rw [k2] at h2
      injection h2 with h2
      injection h2 with h2 h6 h7
      subst h2
      subst h6
      subst k6
      have hval : ∀ j k cs p, els[j]? = some cs → cs[k]? = some p → ∃ u, cur[j * szP P e' + k]? = some u ∧ RC P w R B g (.pv p) u := fun j k cs p hj hk => by
        have := h5 j k (cs.map .pv) (.pv p) (by simp [pvs, hj]) (by simp [hk])
        exact this
      refine .xs (s := szP P e') (fun j k => cur.getD (j * szP P e' + k) undef) rfl (.inr (GS.has_blk k1)) k3 (fun cs hcs => ?_) (fun j k cs p hj hk => ?_) (fun j k cs p hj hk => ?_)
      · have := h3 (cs.map .pv) (List.mem_map.2 ⟨cs, hcs, rfl⟩)
        simpa using this
      · obtain ⟨u, hu, _⟩ := hval j k cs p hj hk
        rw [Nat.zero_mul, add_lit, Nat.zero_add, row_cell k2, hu]
        simp [Array.getD_eq_getD_getElem?, hu]
      · obtain ⟨u, hu, hr⟩ := hval j k cs p hj hk
        have : cur.getD (j * szP P e' + k) undef = u := by simp [Array.getD_eq_getD_getElem?, hu]
        rw [this]
        exact (had.rc hw (x := .pv p) hr).2
variable {o : Oper} {α : Type} {enc : α → List PV}
theorem LT.frzR (n : Nat) {e : TypeId} {xs : List α} {ins : List (Operand × AV)} {us df df' : Mem} {v v' : AV} {X : List Nat} (h : LT P o ins us v df [] X) (hn : X.elem n = true) (hdn : lk df n = some (.prow e (xs.map enc)))
    (hv : FrA n (xs.map enc) v v') (hdf : FrM n (xs.map enc) df df') : LT P o ins us v' df' [] X := fun R B g w a hw hin hu K Q hK => by
  refine h R B g w a hw hin hu K Q fun u R' B' g' w' had hR hru hrd => ?_
  have hnX : n ∈ X := List.mem_of_elem_eq_true hn
  obtain ⟨R2, B2, g2, fz, hR2, hrp⟩ := freeze_raw had.wf (hrd _ (lk_mem hdn))
  have had2 : Adv R B g w [] X R2 B2 g2 w' := by
    refine ⟨fz.wf, fun b hb => fz.r b (had.r b hb), fun b hb => fz.b b (had.b b hb), had.os, had.tape, had.output, had.size, had.heap, fun k hk => ?_, fun k hk b hb => ?_, fun k hk => by cases hk⟩
    · have : k ≠ n := fun e => hk (e ▸ hnX)
      rw [fz.names k (by simpa using this)]
      exact had.names k hk
    · by_cases hkn : k = n
      · subst hkn
        rcases fz.fresh k (by simp) b hb with h1 | ⟨m, hm, _⟩
        · exact .inl (Nat.le_trans had.size h1)
        · cases hm
      · rw [fz.names k (by simpa using hkn)] at hb
        exact had.fresh k hk b hb
  refine hK u R2 B2 g2 w' had2 (fun b hb => ?_) (fun hd => hv.ra fz had.wf hrp (hru hd)) (fun p hp => ?_)
  · rcases hR2 b hb with h1 | h1
    · exact hR b h1
    · rcases had.fresh n hnX b h1 with h2 | ⟨m, hm, _⟩
      · exact .inr h2
      · cases hm
  · have hall : ∀ {df' : Mem}, FrM n (xs.map enc) df df' → ∀ p ∈ df', RO P w' R2 B2 g2 p.1 p.2 := by
      intro df'
      induction df' with
      | nil => intro _ p hp; cases hp
      | cons q r ih =>
        intro hf p hp
        cases hp with
        | head =>
          obtain ⟨⟨h1, x, h2, h3⟩, _⟩ := hf
          exact h3.ro fz had.wf hrp (Nat.ne_of_beq_eq_false h1) (hrd _ (lk_mem h2))
        | tail _ hp => exact ih hf.2 p hp
    exact hall hdf p hp
end
end Go.Fw
end
section
set_option linter.unusedVariables false
set_option linter.unusedSimpArgs false
set_option linter.unnecessarySimpa false
namespace Go.Fw
abbrev xF {α : Type} (enc : α → List PV) (l : List α) : CV := .pv (.xs false (l.map enc))
abbrev xT {α : Type} (enc : α → List PV) (l : List α) : CV := .pv (.xs true (l.map enc))
abbrev lo (n len : Nat) : CV := .loc n 0 len
abbrev pR {α : Type} (e : TypeId) (enc : α → List PV) (l : List α) : Ob := .prow e (l.map enc)
section
variable {P : Program} {C : Ctx} {σ : Slots} {m : Mem} {is : List It} {τ υ : Type} {M : Option τ} {K : τ → Post} {ops : Array Oper} {l : List Oper} {done : List Ct} {rest : List Oper} {o : Oper}
theorem On (h : AWR P C is σ m M K) : AOR P C ops [] is σ m M K := AOR.nil h
theorem Ob' {x : Option υ} {f : υ → Option τ} (h : ∀ u, x = some u → AOR P C ops rest is σ m (f u) K) : AOR P C ops rest is σ m (x.bind f) K := AOR.bind h
theorem Ws {x y : Code} (h : AWR P C (.code x :: .code y :: is) σ m M K) : AWR P C (.code (.seq x y) :: is) σ m M K := AWR.seq h
theorem Wr {id : Nat} {l : List Oper} (h : AOR P C l.toArray l is σ m M K) : AWR P C (.code (.region id l.toArray false) :: is) σ m M K := AWR.region h
theorem Ok {j : Nat} {want : Bool} {d : Tmp} {c : Bool} (hg : o.guard = some (j, want)) (h1 : (ops[j]?).bind (·.dst) = some d) (h2 : lk σ d = some (Bv c)) (h3 : (c == want) = false) (hd : dstOk C.N o.dst = true) (h : AOR P C ops rest is (setD σ o.dst (.tup [])) m M K) : AOR P C ops (o :: rest) is σ m M K :=
  AOR.skip (by unfold GuardIs; rw [hg]; exact ⟨d, h1, .inl ⟨c, h2, h3.symm⟩⟩) hd h
theorem Oj {j : Nat} {want : Bool} {d : Tmp} (hg : o.guard = some (j, want)) (h1 : (ops[j]?).bind (·.dst) = some d) (h2 : lk σ d = some (.tup [])) (hd : dstOk C.N o.dst = true) (h : AOR P C ops rest is (setD σ o.dst (.tup [])) m M K) : AOR P C ops (o :: rest) is σ m M K :=
  AOR.skip (by unfold GuardIs; rw [hg]; exact ⟨d, h1, .inr ⟨h2, rfl⟩⟩) hd h
theorem Os00   {v : AV} {df : Mem} {W X : List Nat} (hlt : LT P o [] [] v df W X)   (hg : GuardIs ops σ o true) (hs : (dstOk C.N o.dst && subL W (X ++ keys df) && subL W (keys ([] : Mem)) && subL (keys df) (X ++ W) && disL X C.pn) = true) (h : AOR P C ops rest is (setD (junkSl X σ) o.dst v) (df ++ junkM X m) M K) : AOR P C ops (o :: rest) is σ m M K := AOR.step hlt trivial trivial hg hs h
theorem Ds00   {v : AV} {df : Mem} {W X : List Nat} (hlt : LT P o [] [] v df W X)   (hg : GuardIs l.toArray σ o true) (hs : (dstOk C.N o.dst && subL W (X ++ keys df) && subL W (keys ([] : Mem)) && subL (keys df) (X ++ W) && disL X C.pn) = true) (h : AOD P C l (⟨[], [], v, df, W, X, true⟩ :: done) rest is (setD (junkSl X σ) o.dst v) (df ++ junkM X m) M K) : AOD P C l done (o :: rest) is σ m M K := AOD.step hlt trivial trivial hg hs h
theorem Op10 {x0 : Operand} {v0 : AV}  {v : AV} (hlt : LT P o [(x0, v0)] [] v [] [] []) (e0 : EvO σ x0 v0)  (hg : GuardIs ops σ o true) (hd : dstOk C.N o.dst = true) (h : AOR P C ops rest is (setD σ o.dst v) m M K) : AOR P C ops (o :: rest) is σ m M K := AOR.pure hlt ⟨e0, trivial⟩ trivial hg hd h
theorem Os10 {x0 : Operand} {v0 : AV}  {v : AV} {df : Mem} {W X : List Nat} (hlt : LT P o [(x0, v0)] [] v df W X) (e0 : EvO σ x0 v0)  (hg : GuardIs ops σ o true) (hs : (dstOk C.N o.dst && subL W (X ++ keys df) && subL W (keys ([] : Mem)) && subL (keys df) (X ++ W) && disL X C.pn) = true) (h : AOR P C ops rest is (setD (junkSl X σ) o.dst v) (df ++ junkM X m) M K) : AOR P C ops (o :: rest) is σ m M K := AOR.step hlt ⟨e0, trivial⟩ trivial hg hs h
theorem Dp10 {x0 : Operand} {v0 : AV}  {v : AV} (hlt : LT P o [(x0, v0)] [] v [] [] []) (e0 : EvO σ x0 v0)  (hg : GuardIs l.toArray σ o true) (hd : dstOk C.N o.dst = true) (h : AOD P C l (⟨[(x0, v0)], [], v, [], [], [], true⟩ :: done) rest is (setD σ o.dst v) m M K) : AOD P C l done (o :: rest) is σ m M K := AOD.pure hlt ⟨e0, trivial⟩ trivial hg hd h
theorem Ds10 {x0 : Operand} {v0 : AV}  {v : AV} {df : Mem} {W X : List Nat} (hlt : LT P o [(x0, v0)] [] v df W X) (e0 : EvO σ x0 v0)  (hg : GuardIs l.toArray σ o true) (hs : (dstOk C.N o.dst && subL W (X ++ keys df) && subL W (keys ([] : Mem)) && subL (keys df) (X ++ W) && disL X C.pn) = true) (h : AOD P C l (⟨[(x0, v0)], [], v, df, W, X, true⟩ :: done) rest is (setD (junkSl X σ) o.dst v) (df ++ junkM X m) M K) : AOD P C l done (o :: rest) is σ m M K := AOD.step hlt ⟨e0, trivial⟩ trivial hg hs h
theorem Op11 {x0 : Operand} {v0 : AV} {n0 : Nat} {o0 : Ob} {v : AV} (hlt : LT P o [(x0, v0)] [(n0, o0)] v [] [] []) (e0 : EvO σ x0 v0) (l0 : lk m n0 = some o0) (hg : GuardIs ops σ o true) (hd : dstOk C.N o.dst = true) (h : AOR P C ops rest is (setD σ o.dst v) m M K) : AOR P C ops (o :: rest) is σ m M K := AOR.pure hlt ⟨e0, trivial⟩ ⟨l0, trivial⟩ hg hd h
theorem Dp11 {x0 : Operand} {v0 : AV} {n0 : Nat} {o0 : Ob} {v : AV} (hlt : LT P o [(x0, v0)] [(n0, o0)] v [] [] []) (e0 : EvO σ x0 v0) (l0 : lk m n0 = some o0) (hg : GuardIs l.toArray σ o true) (hd : dstOk C.N o.dst = true) (h : AOD P C l (⟨[(x0, v0)], [(n0, o0)], v, [], [], [], true⟩ :: done) rest is (setD σ o.dst v) m M K) : AOD P C l done (o :: rest) is σ m M K := AOD.pure hlt ⟨e0, trivial⟩ ⟨l0, trivial⟩ hg hd h
theorem Op20 {x0 : Operand} {v0 : AV} {x1 : Operand} {v1 : AV}  {v : AV} (hlt : LT P o [(x0, v0), (x1, v1)] [] v [] [] []) (e0 : EvO σ x0 v0) (e1 : EvO σ x1 v1)  (hg : GuardIs ops σ o true) (hd : dstOk C.N o.dst = true) (h : AOR P C ops rest is (setD σ o.dst v) m M K) : AOR P C ops (o :: rest) is σ m M K := AOR.pure hlt ⟨e0, e1, trivial⟩ trivial hg hd h
theorem Os20 {x0 : Operand} {v0 : AV} {x1 : Operand} {v1 : AV}  {v : AV} {df : Mem} {W X : List Nat} (hlt : LT P o [(x0, v0), (x1, v1)] [] v df W X) (e0 : EvO σ x0 v0) (e1 : EvO σ x1 v1)  (hg : GuardIs ops σ o true) (hs : (dstOk C.N o.dst && subL W (X ++ keys df) && subL W (keys ([] : Mem)) && subL (keys df) (X ++ W) && disL X C.pn) = true) (h : AOR P C ops rest is (setD (junkSl X σ) o.dst v) (df ++ junkM X m) M K) : AOR P C ops (o :: rest) is σ m M K := AOR.step hlt ⟨e0, e1, trivial⟩ trivial hg hs h
theorem Dp20 {x0 : Operand} {v0 : AV} {x1 : Operand} {v1 : AV}  {v : AV} (hlt : LT P o [(x0, v0), (x1, v1)] [] v [] [] []) (e0 : EvO σ x0 v0) (e1 : EvO σ x1 v1)  (hg : GuardIs l.toArray σ o true) (hd : dstOk C.N o.dst = true) (h : AOD P C l (⟨[(x0, v0), (x1, v1)], [], v, [], [], [], true⟩ :: done) rest is (setD σ o.dst v) m M K) : AOD P C l done (o :: rest) is σ m M K := AOD.pure hlt ⟨e0, e1, trivial⟩ trivial hg hd h
theorem Op21 {x0 : Operand} {v0 : AV} {x1 : Operand} {v1 : AV} {n0 : Nat} {o0 : Ob} {v : AV} (hlt : LT P o [(x0, v0), (x1, v1)] [(n0, o0)] v [] [] []) (e0 : EvO σ x0 v0) (e1 : EvO σ x1 v1) (l0 : lk m n0 = some o0) (hg : GuardIs ops σ o true) (hd : dstOk C.N o.dst = true) (h : AOR P C ops rest is (setD σ o.dst v) m M K) : AOR P C ops (o :: rest) is σ m M K := AOR.pure hlt ⟨e0, e1, trivial⟩ ⟨l0, trivial⟩ hg hd h
theorem Os21 {x0 : Operand} {v0 : AV} {x1 : Operand} {v1 : AV} {n0 : Nat} {o0 : Ob} {v : AV} {df : Mem} {W X : List Nat} (hlt : LT P o [(x0, v0), (x1, v1)] [(n0, o0)] v df W X) (e0 : EvO σ x0 v0) (e1 : EvO σ x1 v1) (l0 : lk m n0 = some o0) (hg : GuardIs ops σ o true) (hs : (dstOk C.N o.dst && subL W (X ++ keys df) && subL W (keys [(n0, o0)]) && subL (keys df) (X ++ W) && disL X C.pn) = true) (h : AOR P C ops rest is (setD (junkSl X σ) o.dst v) (df ++ junkM X m) M K) : AOR P C ops (o :: rest) is σ m M K := AOR.step hlt ⟨e0, e1, trivial⟩ ⟨l0, trivial⟩ hg hs h
theorem Dp21 {x0 : Operand} {v0 : AV} {x1 : Operand} {v1 : AV} {n0 : Nat} {o0 : Ob} {v : AV} (hlt : LT P o [(x0, v0), (x1, v1)] [(n0, o0)] v [] [] []) (e0 : EvO σ x0 v0) (e1 : EvO σ x1 v1) (l0 : lk m n0 = some o0) (hg : GuardIs l.toArray σ o true) (hd : dstOk C.N o.dst = true) (h : AOD P C l (⟨[(x0, v0), (x1, v1)], [(n0, o0)], v, [], [], [], true⟩ :: done) rest is (setD σ o.dst v) m M K) : AOD P C l done (o :: rest) is σ m M K := AOD.pure hlt ⟨e0, e1, trivial⟩ ⟨l0, trivial⟩ hg hd h
theorem Ds21 {x0 : Operand} {v0 : AV} {x1 : Operand} {v1 : AV} {n0 : Nat} {o0 : Ob} {v : AV} {df : Mem} {W X : List Nat} (hlt : LT P o [(x0, v0), (x1, v1)] [(n0, o0)] v df W X) (e0 : EvO σ x0 v0) (e1 : EvO σ x1 v1) (l0 : lk m n0 = some o0) (hg : GuardIs l.toArray σ o true) (hs : (dstOk C.N o.dst && subL W (X ++ keys df) && subL W (keys [(n0, o0)]) && subL (keys df) (X ++ W) && disL X C.pn) = true) (h : AOD P C l (⟨[(x0, v0), (x1, v1)], [(n0, o0)], v, df, W, X, true⟩ :: done) rest is (setD (junkSl X σ) o.dst v) (df ++ junkM X m) M K) : AOD P C l done (o :: rest) is σ m M K := AOD.step hlt ⟨e0, e1, trivial⟩ ⟨l0, trivial⟩ hg hs h
theorem Os22 {x0 : Operand} {v0 : AV} {x1 : Operand} {v1 : AV} {n0 : Nat} {o0 : Ob} {n1 : Nat} {o1 : Ob} {v : AV} {df : Mem} {W X : List Nat} (hlt : LT P o [(x0, v0), (x1, v1)] [(n0, o0), (n1, o1)] v df W X) (e0 : EvO σ x0 v0) (e1 : EvO σ x1 v1) (l0 : lk m n0 = some o0) (l1 : lk m n1 = some o1) (hg : GuardIs ops σ o true) (hs : (dstOk C.N o.dst && subL W (X ++ keys df) && subL W (keys [(n0, o0), (n1, o1)]) && subL (keys df) (X ++ W) && disL X C.pn) = true) (h : AOR P C ops rest is (setD (junkSl X σ) o.dst v) (df ++ junkM X m) M K) : AOR P C ops (o :: rest) is σ m M K := AOR.step hlt ⟨e0, e1, trivial⟩ ⟨l0, l1, trivial⟩ hg hs h
theorem Ds22 {x0 : Operand} {v0 : AV} {x1 : Operand} {v1 : AV} {n0 : Nat} {o0 : Ob} {n1 : Nat} {o1 : Ob} {v : AV} {df : Mem} {W X : List Nat} (hlt : LT P o [(x0, v0), (x1, v1)] [(n0, o0), (n1, o1)] v df W X) (e0 : EvO σ x0 v0) (e1 : EvO σ x1 v1) (l0 : lk m n0 = some o0) (l1 : lk m n1 = some o1) (hg : GuardIs l.toArray σ o true) (hs : (dstOk C.N o.dst && subL W (X ++ keys df) && subL W (keys [(n0, o0), (n1, o1)]) && subL (keys df) (X ++ W) && disL X C.pn) = true) (h : AOD P C l (⟨[(x0, v0), (x1, v1)], [(n0, o0), (n1, o1)], v, df, W, X, true⟩ :: done) rest is (setD (junkSl X σ) o.dst v) (df ++ junkM X m) M K) : AOD P C l done (o :: rest) is σ m M K := AOD.step hlt ⟨e0, e1, trivial⟩ ⟨l0, l1, trivial⟩ hg hs h
theorem mv (v : AV) {x : Operand} (ho : o.op = .move x) (e : EvO σ x v) (hg : GuardIs ops σ o true) (hd : dstOk C.N o.dst = true) (h : AOR P C ops rest is (setD σ o.dst v) m M K) : AOR P C ops (o :: rest) is σ m M K := AOR.pure (LT.move ho) ⟨e, trivial⟩ trivial hg hd h
theorem asg (v : AV) {x : Operand} (ho : o.op = .assign x) (e : EvO σ x v) (hg : GuardIs ops σ o true) (hd : dstOk C.N o.dst = true) (h : AOR P C ops rest is (setD σ o.dst v) m M K) : AOR P C ops (o :: rest) is σ m M K := AOR.pure (LT.assign ho) ⟨e, trivial⟩ trivial hg hd h
theorem en (σ' : Slots) (m' : Mem) (h1 : SubS σ' σ) (h2 : SubM m' m) (k : AWR P C is σ' m' M K) : AWR P C is σ m M K := AWR.ent (Ent.of h1 h2) k
end
end Go.Fw
end
section
set_option linter.unusedVariables false
set_option linter.unusedSimpArgs false
set_option linter.unnecessarySimpa false
set_option maxRecDepth 100000
set_option maxHeartbeats 8000000
open Go Go.Fw
namespace Go.Proofs.Yteognanhfpbghaa
structure TBar where
  mk ::
  A : Int
  B : Int
structure TGraph where
  mk ::
  Points : Int
  Bars : (List TBar)
structure TPlace where
  mk ::
  X : Int
  Y : Int
structure TFramework where
  mk ::
  Graph : TGraph
  Places : (List TPlace)
structure TPinned where
  mk ::
  Graph : TGraph
  Ground : (List Int)
structure TPebbles where
  mk ::
  Free : (List Int)
  Tails : (List Int)
  Placed : (List Int)
def encTBar (a : TBar) : List PV := [.sc (.int .i64 a.A), .sc (.int .i64 a.B)]
theorem perm_encTBar (a : TBar) : PermPL (encTBar a) := ⟨.sc, .sc, trivial⟩
theorem qw_encTBar (a : TBar) : QWL (encTBar a) (encTBar a) := ⟨.sc, .sc, trivial⟩
def encTPlace (a : TPlace) : List PV := [.sc (.int .i64 a.X), .sc (.int .i64 a.Y)]
theorem perm_encTPlace (a : TPlace) : PermPL (encTPlace a) := ⟨.sc, .sc, trivial⟩
theorem qw_encTPlace (a : TPlace) : QWL (encTPlace a) (encTPlace a) := ⟨.sc, .sc, trivial⟩
def encTFramework (q : Bool) (a : TFramework) : List PV := [.sc (.int .i64 a.Graph.Points), .xs q (a.Graph.Bars.map encTBar), .xs q (a.Places.map encTPlace)]
theorem perm_encTFramework (a : TFramework) : PermPL (encTFramework true a) := ⟨.sc, permP_xs perm_encTBar _, permP_xs perm_encTPlace _, trivial⟩
def encInt (a : Int) : List PV := [.sc (.int .i64 a)]
theorem perm_encInt (a : Int) : PermPL (encInt a) := ⟨.sc, trivial⟩
def m_laws_szBarS (a : (List TBar)) (leftV : Int) : Option Int :=
(bif (decide ((w64 (leftV - (a.length : Int))) < 0)) then
 some (-1)
 else
 some (w64 (leftV - (a.length : Int)))
)
def m_laws_szGraph (a : TGraph) (leftV : Int) : Option Int :=
(m_laws_szBarS a.Bars leftV).bind (fun r1 =>
(bif (decide (r1 < 0)) then
 some (-1)
 else
 some r1
)
)
def m_laws_szPlaceS (a : (List TPlace)) (leftV : Int) : Option Int :=
(bif (decide ((w64 (leftV - (a.length : Int))) < 0)) then
 some (-1)
 else
 some (w64 (leftV - (a.length : Int)))
)
def m_laws_szFramework (a : TFramework) (leftV : Int) : Option Int :=
(m_laws_szGraph a.Graph leftV).bind (fun r1 =>
(bif (decide (r1 < 0)) then
 some (-1)
 else
(m_laws_szPlaceS a.Places r1).bind (fun r3 =>
(bif (decide (r3 < 0)) then
 some (-1)
 else
 some r3
)
)
)
)
def m_laws_toBar (a : TBar) : Option TBar :=
 some a
def m_laws_toBarS_L1 (a : (List TBar)) (s2 : (Int × (List TBar))) : Option ((Int × (List TBar)) ⊕ (List TBar)) :=
(bif (decide (s2.1 < (a.length : Int))) then
(idx a s2.1).bind (fun x13 =>
(m_laws_toBar x13).bind (fun r14 =>
(idx s2.2 s2.1).bind (fun x15 =>
 some (.inl ((w64 (s2.1 + 1)), (s2.2.set s2.1.toNat r14)))
)
)
)
 else
 some (.inr s2.2)
)
def m_laws_toBarS (a : (List TBar)) : Option (List TBar) :=
(lenOk (a.length : Int)).bind (fun u1 =>
((loopM (m_laws_toBarS_L1 a) BIG (0, (List.replicate (a.length : Int).toNat (TBar.mk (0 : Int) (0 : Int))))).bind (fun b11 =>
 some b11
))
)
def m_laws_toGraph (a : TGraph) : Option TGraph :=
(m_laws_toBarS a.Bars).bind (fun r1 =>
 some (TGraph.mk a.Points r1)
)
def m_laws_toPlace (a : TPlace) : Option TPlace :=
 some a
def m_laws_toPlaceS_L1 (a : (List TPlace)) (s2 : (Int × (List TPlace))) : Option ((Int × (List TPlace)) ⊕ (List TPlace)) :=
(bif (decide (s2.1 < (a.length : Int))) then
(idx a s2.1).bind (fun x13 =>
(m_laws_toPlace x13).bind (fun r14 =>
(idx s2.2 s2.1).bind (fun x15 =>
 some (.inl ((w64 (s2.1 + 1)), (s2.2.set s2.1.toNat r14)))
)
)
)
 else
 some (.inr s2.2)
)
def m_laws_toPlaceS (a : (List TPlace)) : Option (List TPlace) :=
(lenOk (a.length : Int)).bind (fun u1 =>
((loopM (m_laws_toPlaceS_L1 a) BIG (0, (List.replicate (a.length : Int).toNat (TPlace.mk (0 : Int) (0 : Int))))).bind (fun b11 =>
 some b11
))
)
def m_laws_toFramework (a : TFramework) : Option TFramework :=
(m_laws_toGraph a.Graph).bind (fun r1 =>
(m_laws_toPlaceS a.Places).bind (fun r2 =>
 some (TFramework.mk r1 r2)
)
)
def m_spec_l1In (x : Int) (low : Int) (high : Int) : Option Bool :=
(((
(bif (decide (low ≤ x)) then
 some (decide (x ≤ high))
 else
 some false
)
) : Option Bool).bind (fun j2 =>
 some j2
))
def m_spec_l2After (a : TBar) (b : TBar) : Option Bool :=
(((
(bif (decide (a.A < b.A)) then
 some true
 else
(bif (a.A == b.A) then
 some (decide (a.B ≤ b.B))
 else
 some false
)
)
) : Option Bool).bind (fun j3 =>
 some j3
))
def m_spec_IsGraph_L1 (g : TGraph) (s7 : Int) : Option (Int ⊕ (Unit ⊕ Bool)) :=
(bif (decide (s7 < (g.Bars.length : Int))) then
(idx g.Bars s7).bind (fun x42 =>
(((
(bif (decide (x42.A < 0)) then
 some true
 else
(bif (decide (x42.B ≤ x42.A)) then
 some true
 else
(bif (decide (g.Points ≤ x42.B)) then
 some true
 else
(bif (decide (0 < s7)) then
(idx g.Bars (w64 (s7 - 1))).bind (fun x54 =>
(m_spec_l2After x54 x42).bind (fun r55 =>
 some (!r55)
)
)
 else
 some false
)
)
)
)
) : Option Bool).bind (fun j49 =>
(bif j49 then
 some (.inr (.inr false))
 else
 some (.inl (w64 (s7 + 1)))
)
))
)
 else
 some (.inr (.inl ()))
)
def m_spec_IsGraph (g : TGraph) : Option Bool :=
(((
(m_spec_l1In g.Points 1 8).bind (fun r4 =>
(bif (!r4) then
 some true
 else
 some (decide (24 < (g.Bars.length : Int)))
)
)
) : Option Bool).bind (fun j3 =>
(bif j3 then
 some false
 else
((loopM (m_spec_IsGraph_L1 g) BIG 0).bind (Sum.elim (fun b40 => (
 some true
)) (fun r => some r)))
)
))
def m_spec_IsFramework_L1 (f : TFramework) (s11 : Int) : Option (Int ⊕ (Unit ⊕ Bool)) :=
(bif (decide (s11 < (f.Places.length : Int))) then
(((
(idx f.Places s11).bind (fun x46 =>
(m_spec_l1In x46.X 0 4).bind (fun r47 =>
(bif (!r47) then
 some true
 else
(idx f.Places s11).bind (fun x49 =>
(m_spec_l1In x49.Y 0 4).bind (fun r50 =>
 some (!r50)
)
)
)
)
)
) : Option Bool).bind (fun j45 =>
(bif j45 then
 some (.inr (.inr false))
 else
 some (.inl (w64 (s11 + 1)))
)
))
 else
 some (.inr (.inl ()))
)
def m_spec_IsFramework_L2 (f : TFramework) (s52 : Int) : Option (Int ⊕ (Unit ⊕ Bool)) :=
(bif (decide (s52 < (f.Graph.Bars.length : Int))) then
(idx f.Graph.Bars s52).bind (fun x83 =>
(((
(idx f.Places x83.A).bind (fun x90 =>
(idx f.Places x83.B).bind (fun x91 =>
(bif (eqI [x90.X, x90.Y] [x91.X, x91.Y]) then
 some true
 else
(bif (decide (0 < s52)) then
(idx f.Graph.Bars (w64 (s52 - 1))).bind (fun x94 =>
 some (eqI [x94.A, x94.B] [x83.A, x83.B])
)
 else
 some false
)
)
)
)
) : Option Bool).bind (fun j89 =>
(bif j89 then
 some (.inr (.inr false))
 else
 some (.inl (w64 (s52 + 1)))
)
))
)
 else
 some (.inr (.inl ()))
)
def m_spec_IsFramework (f : TFramework) : Option Bool :=
(((
(m_spec_IsGraph f.Graph).bind (fun r6 =>
(bif (!r6) then
 some true
 else
(bif (decide (6 < f.Graph.Points)) then
 some true
 else
(bif ((f.Places.length : Int) != f.Graph.Points) then
 some true
 else
 some (decide (15 < (f.Graph.Bars.length : Int)))
)
)
)
)
) : Option Bool).bind (fun j5 =>
(bif j5 then
 some false
 else
((loopM (m_spec_IsFramework_L1 f) BIG 0).bind (Sum.elim (fun b38 => (
((loopM (m_spec_IsFramework_L2 f) BIG 0).bind (Sum.elim (fun b81 => (
 some true
)) (fun r => some r)))
)) (fun r => some r)))
)
))
def m_spec_l17Power_L1 (a : Int) (n : Int) (s1 : (Int × Int)) : Option ((Int × Int) ⊕ Int) :=
(bif (decide (s1.2 < n)) then
 some (.inl ((w64 (s1.1 * a)), (w64 (s1.2 + 1))))
 else
 some (.inr s1.1)
)
def m_spec_l17Power (a : Int) (n : Int) : Option Int :=
((loopM (m_spec_l17Power_L1 a n) BIG (1, 0)).bind (fun b4 =>
 some b4
))
def m_spec_l2Copy (g : TGraph) : Option TGraph :=
(lim (([] : List TBar).length + g.Bars.length)).bind (fun u1 =>
 some (TGraph.mk g.Points (([] : List TBar) ++ g.Bars))
)
def m_spec_l10Copy (f : TFramework) : Option TFramework :=
(m_spec_l2Copy f.Graph).bind (fun r1 =>
(lim (([] : List TPlace).length + f.Places.length)).bind (fun u2 =>
 some (TFramework.mk r1 (([] : List TPlace) ++ f.Places))
)
)
def m_spec_EqualGraphs_L1 (a : TGraph) (b : TGraph) (s5 : Int) : Option (Int ⊕ (Unit ⊕ Bool)) :=
(bif (decide (s5 < (a.Bars.length : Int))) then
(idx a.Bars s5).bind (fun x16 =>
(idx b.Bars s5).bind (fun x17 =>
(bif (!(eqI [x16.A, x16.B] [x17.A, x17.B])) then
 some (.inr (.inr false))
 else
 some (.inl (w64 (s5 + 1)))
)
)
)
 else
 some (.inr (.inl ()))
)
def m_spec_EqualGraphs (a : TGraph) (b : TGraph) : Option Bool :=
(((
(bif (a.Points != b.Points) then
 some true
 else
 some ((a.Bars.length : Int) != (b.Bars.length : Int))
)
) : Option Bool).bind (fun j2 =>
(bif j2 then
 some false
 else
((loopM (m_spec_EqualGraphs_L1 a b) BIG 0).bind (Sum.elim (fun b14 => (
 some true
)) (fun r => some r)))
)
))
def m_spec_SquareLengths_L1 (f : TFramework) (s1 : (Int × (List Int))) : Option ((Int × (List Int)) ⊕ (List Int)) :=
(((
(bif (decide (s1.1 < (f.Graph.Bars.length : Int))) then
(m_spec_IsFramework f).bind (fun r29 =>
 some r29
)
 else
 some false
)
) : Option Bool).bind (fun j27 =>
(bif j27 then
(idx f.Graph.Bars s1.1).bind (fun x31 =>
(idx f.Places x31.A).bind (fun x32 =>
(idx f.Graph.Bars s1.1).bind (fun x33 =>
(idx f.Places x33.B).bind (fun x34 =>
(lim (s1.2.length + ([(w64 ((w64 ((w64 (x32.X - x34.X)) * (w64 (x32.X - x34.X)))) + (w64 ((w64 (x32.Y - x34.Y)) * (w64 (x32.Y - x34.Y))))))] : List Int).length)).bind (fun u35 =>
 some (.inl ((w64 (s1.1 + 1)), (s1.2 ++ ([(w64 ((w64 ((w64 (x32.X - x34.X)) * (w64 (x32.X - x34.X)))) + (w64 ((w64 (x32.Y - x34.Y)) * (w64 (x32.Y - x34.Y))))))] : List Int))))
)
)
)
)
)
 else
 some (.inr s1.2)
)
))
def m_spec_SquareLengths (f : TFramework) : Option (List Int) :=
((loopM (m_spec_SquareLengths_L1 f) BIG (0, ([] : List Int))).bind (fun b24 =>
 some b24
))
def m_spec_l6Same_L1 (a : (List Int)) (b : (List Int)) (s2 : Int) : Option (Int ⊕ (Unit ⊕ Bool)) :=
(bif (decide (s2 < (a.length : Int))) then
(idx a s2).bind (fun x13 =>
(idx b s2).bind (fun x14 =>
(bif (x13 != x14) then
 some (.inr (.inr false))
 else
 some (.inl (w64 (s2 + 1)))
)
)
)
 else
 some (.inr (.inl ()))
)
def m_spec_l6Same (a : (List Int)) (b : (List Int)) : Option Bool :=
(bif ((a.length : Int) != (b.length : Int)) then
 some false
 else
((loopM (m_spec_l6Same_L1 a b) BIG 0).bind (Sum.elim (fun b11 => (
 some true
)) (fun r => some r)))
)
def m_spec_AreSameLengths (a : TFramework) (b : TFramework) : Option Bool :=
(((
(m_spec_IsFramework a).bind (fun r11 =>
(bif r11 then
(m_spec_IsFramework b).bind (fun r13 =>
(bif r13 then
(m_spec_EqualGraphs a.Graph b.Graph).bind (fun r15 =>
(bif r15 then
(m_spec_SquareLengths a).bind (fun r17 =>
(m_spec_SquareLengths b).bind (fun r18 =>
(m_spec_l6Same r17 r18).bind (fun r19 =>
 some r19
)
)
)
 else
 some false
)
)
 else
 some false
)
)
 else
 some false
)
)
) : Option Bool).bind (fun j10 =>
 some j10
))
def m_spec_OtherPlaces_L4 (s7 : (Int × (List TFramework))) (r41 : TFramework) (s42 : (Int × Int × (List TPlace))) : Option ((Int × Int × (List TPlace)) ⊕ (Int × (List TFramework) × (List TBar) × (List TPlace) × Int)) :=
(bif (decide (2 ≤ s42.2.1)) then
(idx s42.2.2 s42.2.1).bind (fun x49 =>
 some (.inl ((w64 (Int.tdiv s42.1 25)), (w64 (s42.2.1 - 1)), (s42.2.2.set s42.2.1.toNat (TPlace.mk (Int.tmod s42.1 5) (Int.tmod (w64 (Int.tdiv s42.1 5)) 5)))))
)
 else
 some (.inr (s7.1, s7.2, r41.Graph.Bars, s42.2.2, r41.Graph.Points))
)
def m_spec_OtherPlaces_L3 (f : TFramework) (s7 : (Int × (List TFramework))) : Option ((Int × (List TFramework)) ⊕ (List TFramework)) :=
(m_spec_l17Power 25 (if 0 < (w64 (f.Graph.Points - 2)) then (w64 (f.Graph.Points - 2)) else 0)).bind (fun r39 =>
(bif (decide (s7.1 < r39)) then
(m_spec_l10Copy f).bind (fun r41 =>
((loopM (m_spec_OtherPlaces_L4 s7 r41) BIG (s7.1, (w64 (f.Graph.Points - 1)), r41.Places)).bind (fun b47 =>
(m_spec_AreSameLengths f (TFramework.mk (TGraph.mk b47.2.2.2.2 b47.2.2.1) b47.2.2.2.1)).bind (fun r50 =>
(((
(bif r50 then
(lim (b47.2.1.length + [(TFramework.mk (TGraph.mk b47.2.2.2.2 b47.2.2.1) b47.2.2.2.1)].length)).bind (fun u55 =>
 some (b47.2.1 ++ [(TFramework.mk (TGraph.mk b47.2.2.2.2 b47.2.2.1) b47.2.2.2.1)])
)
 else
 some b47.2.1
)
) : Option (List TFramework)).bind (fun j53 =>
 some (.inl ((w64 (b47.1 + 1)), j53))
))
)
))
)
 else
 some (.inr s7.2)
)
)
def m_spec_OtherPlaces (f : TFramework) : Option ((List TFramework) × Bool) :=
(((
(m_spec_IsFramework f).bind (fun r4 =>
(bif (!r4) then
 some true
 else
 some (decide (4 < f.Graph.Points))
)
)
) : Option Bool).bind (fun j3 =>
(bif j3 then
 some (([] : List TFramework), false)
 else
((loopM (m_spec_OtherPlaces_L3 f) BIG (0, ([] : List TFramework))).bind (fun b38 =>
 some (b38, true)
))
)
))
def m_spec_PairDistances_L4 (f : TFramework) (s1 : (Int × (List Int))) (s49 : (Int × (List Int))) : Option ((Int × (List Int)) ⊕ (Int × (List Int))) :=
(bif (decide (s49.1 < (f.Places.length : Int))) then
(idx f.Places s1.1).bind (fun x64 =>
(idx f.Places s49.1).bind (fun x65 =>
(idx f.Places s1.1).bind (fun x66 =>
(idx f.Places s49.1).bind (fun x67 =>
(lim (s49.2.length + ([(w64 ((w64 ((w64 (x64.X - x65.X)) * (w64 (x64.X - x65.X)))) + (w64 ((w64 (x66.Y - x67.Y)) * (w64 (x66.Y - x67.Y))))))] : List Int).length)).bind (fun u68 =>
 some (.inl ((w64 (s49.1 + 1)), (s49.2 ++ ([(w64 ((w64 ((w64 (x64.X - x65.X)) * (w64 (x64.X - x65.X)))) + (w64 ((w64 (x66.Y - x67.Y)) * (w64 (x66.Y - x67.Y))))))] : List Int))))
)
)
)
)
)
 else
 some (.inr (s1.1, s49.2))
)
def m_spec_PairDistances_L3 (f : TFramework) (s1 : (Int × (List Int))) : Option ((Int × (List Int)) ⊕ (List Int)) :=
(((
(bif (decide (s1.1 < (f.Places.length : Int))) then
(m_spec_IsFramework f).bind (fun r47 =>
 some r47
)
 else
 some false
)
) : Option Bool).bind (fun j45 =>
(bif j45 then
((loopM (m_spec_PairDistances_L4 f s1) BIG ((w64 (s1.1 + 1)), s1.2)).bind (fun b62 =>
 some (.inl ((w64 (b62.1 + 1)), b62.2))
))
 else
 some (.inr s1.2)
)
))
def m_spec_PairDistances (f : TFramework) : Option (List Int) :=
((loopM (m_spec_PairDistances_L3 f) BIG (0, ([] : List Int))).bind (fun b42 =>
 some b42
))
def m_spec_IsCongruent (a : TFramework) (b : TFramework) : Option Bool :=
(((
(m_spec_IsFramework a).bind (fun r10 =>
(bif r10 then
(m_spec_IsFramework b).bind (fun r12 =>
(bif r12 then
(bif (a.Graph.Points == b.Graph.Points) then
(m_spec_PairDistances a).bind (fun r15 =>
(m_spec_PairDistances b).bind (fun r16 =>
(m_spec_l6Same r15 r16).bind (fun r17 =>
 some r17
)
)
)
 else
 some false
)
 else
 some false
)
)
 else
 some false
)
)
) : Option Bool).bind (fun j9 =>
 some j9
))
def m_spec_HasTwin_L1 (f : TFramework) (r1 : ((List TFramework) × Bool)) (s2 : Int) : Option (Int ⊕ (Unit ⊕ Bool)) :=
(bif (decide (s2 < (r1.1.length : Int))) then
(idx r1.1 s2).bind (fun x13 =>
(m_spec_IsCongruent f x13).bind (fun r14 =>
(bif (!r14) then
 some (.inr (.inr true))
 else
 some (.inl (w64 (s2 + 1)))
)
)
)
 else
 some (.inr (.inl ()))
)
def m_spec_HasTwin (f : TFramework) : Option Bool :=
(m_spec_OtherPlaces f).bind (fun r1 =>
((loopM (m_spec_HasTwin_L1 f r1) BIG 0).bind (Sum.elim (fun b11 => (
 some false
)) (fun r => some r)))
)
def m_impl_within (x : Int) (loV : Int) (hi : Int) : Option Bool :=
(((
(bif (decide (loV ≤ x)) then
 some (decide (x ≤ hi))
 else
 some false
)
) : Option Bool).bind (fun j2 =>
 some j2
))
def m_impl_compareInts (a : Int) (b : Int) : Option Int :=
(bif (decide (a < b)) then
 some (-1)
 else
(bif (decide (b < a)) then
 some 1
 else
 some 0
)
)
def m_impl_compareBars (x : TBar) (y : TBar) : Option Int :=
(m_impl_compareInts x.A y.A).bind (fun r1 =>
(bif (r1 != 0) then
 some r1
 else
(m_impl_compareInts x.B y.B).bind (fun r3 =>
 some r3
)
)
)
def m_impl_IsGraph_L1 (g : TGraph) (s7 : Int) : Option (Int ⊕ (Unit ⊕ Bool)) :=
(bif (decide (s7 < (g.Bars.length : Int))) then
(idx g.Bars s7).bind (fun x42 =>
(((
(bif (decide (x42.A < 0)) then
 some true
 else
(bif (decide (x42.B ≤ x42.A)) then
 some true
 else
(bif (decide (g.Points ≤ x42.B)) then
 some true
 else
(bif (decide (0 < s7)) then
(idx g.Bars (w64 (s7 - 1))).bind (fun x54 =>
(m_impl_compareBars x54 x42).bind (fun r55 =>
 some (decide (0 < r55))
)
)
 else
 some false
)
)
)
)
) : Option Bool).bind (fun j49 =>
(bif j49 then
 some (.inr (.inr false))
 else
 some (.inl (w64 (s7 + 1)))
)
))
)
 else
 some (.inr (.inl ()))
)
def m_impl_IsGraph (g : TGraph) : Option Bool :=
(((
(m_impl_within g.Points 1 8).bind (fun r4 =>
(bif (!r4) then
 some true
 else
 some (decide (24 < (g.Bars.length : Int)))
)
)
) : Option Bool).bind (fun j3 =>
(bif j3 then
 some false
 else
((loopM (m_impl_IsGraph_L1 g) BIG 0).bind (Sum.elim (fun b40 => (
 some true
)) (fun r => some r)))
)
))
def m_impl_isPlace (p : TPlace) : Option Bool :=
(((
(m_impl_within p.X 0 4).bind (fun r5 =>
(bif r5 then
(m_impl_within p.Y 0 4).bind (fun r7 =>
 some r7
)
 else
 some false
)
)
) : Option Bool).bind (fun j4 =>
 some j4
))
def m_impl_IsFramework_L1 (f : TFramework) (s11 : Int) : Option (Int ⊕ (Unit ⊕ Bool)) :=
(bif (decide (s11 < (f.Places.length : Int))) then
(idx f.Places s11).bind (fun x22 =>
(m_impl_isPlace x22).bind (fun r23 =>
(bif (!r23) then
 some (.inr (.inr false))
 else
 some (.inl (w64 (s11 + 1)))
)
)
)
 else
 some (.inr (.inl ()))
)
def m_impl_IsFramework_L2 (f : TFramework) (s25 : Int) : Option (Int ⊕ (Unit ⊕ Bool)) :=
(bif (decide (s25 < (f.Graph.Bars.length : Int))) then
(idx f.Graph.Bars s25).bind (fun x64 =>
(((
(bif (decide (0 < s25)) then
(idx f.Graph.Bars (w64 (s25 - 1))).bind (fun x74 =>
(bif (eqI [x74.A, x74.B] [x64.A, x64.B]) then
 some true
 else
(idx f.Places x64.A).bind (fun x76 =>
(idx f.Places x64.B).bind (fun x77 =>
 some (eqI [x76.X, x76.Y] [x77.X, x77.Y])
)
)
)
)
 else
(idx f.Places x64.A).bind (fun x78 =>
(idx f.Places x64.B).bind (fun x79 =>
 some (eqI [x78.X, x78.Y] [x79.X, x79.Y])
)
)
)
) : Option Bool).bind (fun j72 =>
(bif j72 then
 some (.inr (.inr false))
 else
 some (.inl (w64 (s25 + 1)))
)
))
)
 else
 some (.inr (.inl ()))
)
def m_impl_IsFramework (f : TFramework) : Option Bool :=
(((
(m_impl_IsGraph f.Graph).bind (fun r6 =>
(bif (!r6) then
 some true
 else
(bif (decide (6 < f.Graph.Points)) then
 some true
 else
(bif (decide (15 < (f.Graph.Bars.length : Int))) then
 some true
 else
 some ((f.Places.length : Int) != f.Graph.Points)
)
)
)
)
) : Option Bool).bind (fun j5 =>
(bif j5 then
 some false
 else
((loopM (m_impl_IsFramework_L1 f) BIG 0).bind (Sum.elim (fun b20 => (
((loopM (m_impl_IsFramework_L2 f) BIG 0).bind (Sum.elim (fun b62 => (
 some true
)) (fun r => some r)))
)) (fun r => some r)))
)
))
def m_impl_copyGraph (g : TGraph) : Option TGraph :=
(lim (([] : List TBar).length + g.Bars.length)).bind (fun u1 =>
 some (TGraph.mk g.Points (([] : List TBar) ++ g.Bars))
)
def m_impl_copyFramework (f : TFramework) : Option TFramework :=
(m_impl_copyGraph f.Graph).bind (fun r1 =>
(lim (([] : List TPlace).length + f.Places.length)).bind (fun u2 =>
 some (TFramework.mk r1 (([] : List TPlace) ++ f.Places))
)
)
def m_slices_Equal_Bar_L1 (s1V : (List TBar)) (s2V : (List TBar)) (s2 : Int) : Option (Int ⊕ (Unit ⊕ Bool)) :=
(bif (decide (s2 < (s1V.length : Int))) then
(idx s1V s2).bind (fun x13 =>
(idx s2V s2).bind (fun x14 =>
(bif (!(eqI [x13.A, x13.B] [x14.A, x14.B])) then
 some (.inr (.inr false))
 else
 some (.inl (w64 (s2 + 1)))
)
)
)
 else
 some (.inr (.inl ()))
)
def m_slices_Equal_Bar (s1V : (List TBar)) (s2V : (List TBar)) : Option Bool :=
(bif ((s1V.length : Int) != (s2V.length : Int)) then
 some false
 else
((loopM (m_slices_Equal_Bar_L1 s1V s2V) BIG 0).bind (Sum.elim (fun b11 => (
 some true
)) (fun r => some r)))
)
def m_impl_EqualGraphs (a : TGraph) (b : TGraph) : Option Bool :=
(((
(bif (a.Points == b.Points) then
(m_slices_Equal_Bar a.Bars b.Bars).bind (fun r5 =>
 some r5
)
 else
 some false
)
) : Option Bool).bind (fun j3 =>
 some j3
))
def m_impl_Framework_square (f : TFramework) (a : Int) (b : Int) : Option Int :=
(idx f.Places a).bind (fun x1 =>
(idx f.Places b).bind (fun x2 =>
(idx f.Places a).bind (fun x3 =>
(idx f.Places b).bind (fun x4 =>
 some (w64 ((w64 ((w64 (x1.X - x2.X)) * (w64 (x1.X - x2.X)))) + (w64 ((w64 (x3.Y - x4.Y)) * (w64 (x3.Y - x4.Y))))))
)
)
)
)
def m_impl_SquareLengths_L1 (f : TFramework) (s3 : (Int × (List Int))) : Option ((Int × (List Int)) ⊕ (List Int)) :=
(bif (decide (s3.1 < (f.Graph.Bars.length : Int))) then
(idx f.Graph.Bars s3.1).bind (fun x14 =>
(m_impl_Framework_square f x14.A x14.B).bind (fun r15 =>
(lim (s3.2.length + ([r15] : List Int).length)).bind (fun u16 =>
 some (.inl ((w64 (s3.1 + 1)), (s3.2 ++ ([r15] : List Int))))
)
)
)
 else
 some (.inr s3.2)
)
def m_impl_SquareLengths (f : TFramework) : Option (List Int) :=
(m_impl_IsFramework f).bind (fun r1 =>
(bif (!r1) then
 some ([] : List Int)
 else
((loopM (m_impl_SquareLengths_L1 f) BIG (0, ([] : List Int))).bind (fun b12 =>
 some b12
))
)
)
def m_slices_Equal_L1 (s1V : (List Int)) (s2V : (List Int)) (s2 : Int) : Option (Int ⊕ (Unit ⊕ Bool)) :=
(bif (decide (s2 < (s1V.length : Int))) then
(idx s1V s2).bind (fun x13 =>
(idx s2V s2).bind (fun x14 =>
(bif (x13 != x14) then
 some (.inr (.inr false))
 else
 some (.inl (w64 (s2 + 1)))
)
)
)
 else
 some (.inr (.inl ()))
)
def m_slices_Equal (s1V : (List Int)) (s2V : (List Int)) : Option Bool :=
(bif ((s1V.length : Int) != (s2V.length : Int)) then
 some false
 else
((loopM (m_slices_Equal_L1 s1V s2V) BIG 0).bind (Sum.elim (fun b11 => (
 some true
)) (fun r => some r)))
)
def m_impl_AreSameLengths (a : TFramework) (b : TFramework) : Option Bool :=
(((
(m_impl_IsFramework a).bind (fun r11 =>
(bif r11 then
(m_impl_IsFramework b).bind (fun r13 =>
(bif r13 then
(m_impl_EqualGraphs a.Graph b.Graph).bind (fun r15 =>
(bif r15 then
(m_impl_SquareLengths a).bind (fun r17 =>
(m_impl_SquareLengths b).bind (fun r18 =>
(m_slices_Equal r17 r18).bind (fun r19 =>
 some r19
)
)
)
 else
 some false
)
)
 else
 some false
)
)
 else
 some false
)
)
) : Option Bool).bind (fun j10 =>
 some j10
))
def m_impl_OtherPlaces_c1_L4 (x : TFramework) (v : Int) (s10 : (Int × (List TBar) × (List TPlace) × Int × (List TBar) × (List TPlace) × (List TFramework))) (recF : (TFramework → Int → TFramework → (List TFramework) → Option ((List TBar) × (List TPlace) × TFramework × (List TFramework)))) (s31 : (Int × (List TBar) × (List TPlace) × Int × (List TBar) × (List TPlace) × (List TFramework))) : Option ((Int × (List TBar) × (List TPlace) × Int × (List TBar) × (List TPlace) × (List TFramework)) ⊕ (Int × (List TBar) × (List TPlace) × Int × (List TBar) × (List TPlace) × (List TFramework))) :=
(bif (decide (s31.1 < 5)) then
(idx s31.2.2.1 v).bind (fun x40 =>
(recF (TFramework.mk (TGraph.mk x.Graph.Points s31.2.1) (s31.2.2.1.set v.toNat (TPlace.mk s31.1 s10.1))) (w64 (v + 1)) (TFramework.mk (TGraph.mk s31.2.2.2.1 s31.2.2.2.2.1) s31.2.2.2.2.2.1) s31.2.2.2.2.2.2).bind (fun r41 =>
(same s31.2.1.length r41.1.length).bind (fun u42 =>
(same ((s31.2.2.1.set v.toNat (TPlace.mk s31.1 s10.1)).length) r41.2.1.length).bind (fun u43 =>
 some (.inl ((w64 (s31.1 + 1)), r41.1, r41.2.1, r41.2.2.1.Graph.Points, r41.2.2.1.Graph.Bars, r41.2.2.1.Places, r41.2.2.2))
))
)
)
 else
 some (.inr (s10.1, s31.2.1, s31.2.2.1, s31.2.2.2.1, s31.2.2.2.2.1, s31.2.2.2.2.2.1, s31.2.2.2.2.2.2))
)
def m_impl_OtherPlaces_c1_L3 (x : TFramework) (v : Int) (recF : (TFramework → Int → TFramework → (List TFramework) → Option ((List TBar) × (List TPlace) × TFramework × (List TFramework)))) (s10 : (Int × (List TBar) × (List TPlace) × Int × (List TBar) × (List TPlace) × (List TFramework))) : Option ((Int × (List TBar) × (List TPlace) × Int × (List TBar) × (List TPlace) × (List TFramework)) ⊕ ((List TBar) × (List TPlace) × Int × (List TBar) × (List TPlace) × (List TFramework))) :=
(bif (decide (s10.1 < 5)) then
((loopM (m_impl_OtherPlaces_c1_L4 x v s10 recF) BIG (0, s10.2.1, s10.2.2.1, s10.2.2.2.1, s10.2.2.2.2.1, s10.2.2.2.2.2.1, s10.2.2.2.2.2.2)).bind (fun b38 =>
 some (.inl ((w64 (b38.1 + 1)), b38.2.1, b38.2.2.1, b38.2.2.2.1, b38.2.2.2.2.1, b38.2.2.2.2.2.1, b38.2.2.2.2.2.2))
))
 else
 some (.inr (s10.2.1, s10.2.2.1, s10.2.2.2.1, s10.2.2.2.2.1, s10.2.2.2.2.2.1, s10.2.2.2.2.2.2))
)
def m_impl_OtherPlaces_c1_B (recF : (TFramework → Int → TFramework → (List TFramework) → Option ((List TBar) × (List TPlace) × TFramework × (List TFramework)))) (x : TFramework) (v : Int) (capaV : TFramework) (capbV : (List TFramework)) : Option ((List TBar) × (List TPlace) × TFramework × (List TFramework)) :=
(bif (decide (x.Graph.Points ≤ v)) then
(m_impl_AreSameLengths capaV x).bind (fun r2 =>
(((
(bif r2 then
(m_impl_copyFramework x).bind (fun r8 =>
(lim (capbV.length + [r8].length)).bind (fun u9 =>
 some (capbV ++ [r8])
)
)
 else
 some capbV
)
) : Option (List TFramework)).bind (fun j6 =>
 some (x.Graph.Bars, x.Places, capaV, j6)
))
)
 else
((loopM (m_impl_OtherPlaces_c1_L3 x v recF) BIG (0, x.Graph.Bars, x.Places, capaV.Graph.Points, capaV.Graph.Bars, capaV.Places, capbV)).bind (fun b29 =>
 some (b29.1, b29.2.1, (TFramework.mk (TGraph.mk b29.2.2.1 b29.2.2.2.1) b29.2.2.2.2.1), b29.2.2.2.2.2)
))
)
def m_impl_OtherPlaces_c1 : Nat → TFramework → Int → TFramework → (List TFramework) → Option ((List TBar) × (List TPlace) × TFramework × (List TFramework))
  | 0, _, _, _, _ => none
  | n + 1, x, v, capaV, capbV => m_impl_OtherPlaces_c1_B (m_impl_OtherPlaces_c1 n) x v capaV capbV
def m_impl_OtherPlaces (f : TFramework) : Option ((List TFramework) × Bool × (List TBar) × (List TPlace)) :=
(((
(m_impl_IsFramework f).bind (fun r4 =>
(bif (!r4) then
 some true
 else
 some (decide (4 < f.Graph.Points))
)
)
) : Option Bool).bind (fun j3 =>
(bif j3 then
 some (([] : List TFramework), false, f.Graph.Bars, f.Places)
 else
(m_impl_copyFramework f).bind (fun r7 =>
(m_impl_OtherPlaces_c1 64 r7 2 f ([] : List TFramework)).bind (fun r8 =>
 some (r8.2.2.2, true, r8.2.2.1.Graph.Bars, r8.2.2.1.Places)
)
)
)
))
def m_impl_PairDistances_L4 (f : TFramework) (s3 : (Int × (List Int))) (s24 : (Int × (List Int))) : Option ((Int × (List Int)) ⊕ (Int × (List Int))) :=
(bif (decide (s24.1 < (f.Places.length : Int))) then
(m_impl_Framework_square f s3.1 s24.1).bind (fun r33 =>
(lim (s24.2.length + ([r33] : List Int).length)).bind (fun u34 =>
 some (.inl ((w64 (s24.1 + 1)), (s24.2 ++ ([r33] : List Int))))
)
)
 else
 some (.inr (s3.1, s24.2))
)
def m_impl_PairDistances_L3 (f : TFramework) (s3 : (Int × (List Int))) : Option ((Int × (List Int)) ⊕ (List Int)) :=
(bif (decide (s3.1 < (f.Places.length : Int))) then
((loopM (m_impl_PairDistances_L4 f s3) BIG ((w64 (s3.1 + 1)), s3.2)).bind (fun b31 =>
 some (.inl ((w64 (b31.1 + 1)), b31.2))
))
 else
 some (.inr s3.2)
)
def m_impl_PairDistances (f : TFramework) : Option (List Int) :=
(m_impl_IsFramework f).bind (fun r1 =>
(bif (!r1) then
 some ([] : List Int)
 else
((loopM (m_impl_PairDistances_L3 f) BIG (0, ([] : List Int))).bind (fun b22 =>
 some b22
))
)
)
def m_impl_IsCongruent (a : TFramework) (b : TFramework) : Option Bool :=
(((
(m_impl_IsFramework a).bind (fun r10 =>
(bif r10 then
(m_impl_IsFramework b).bind (fun r12 =>
(bif r12 then
(bif (a.Graph.Points == b.Graph.Points) then
(m_impl_PairDistances a).bind (fun r15 =>
(m_impl_PairDistances b).bind (fun r16 =>
(m_slices_Equal r15 r16).bind (fun r17 =>
 some r17
)
)
)
 else
 some false
)
 else
 some false
)
)
 else
 some false
)
)
) : Option Bool).bind (fun j9 =>
 some j9
))
def m_impl_HasTwin_L1 (f : TFramework) (r1 : ((List TFramework) × Bool × (List TBar) × (List TPlace))) (s2 : Int) : Option (Int ⊕ (((List TBar) × (List TPlace)) ⊕ (Bool × (List TBar) × (List TPlace)))) :=
(bif (decide (s2 < (r1.1.length : Int))) then
(idx r1.1 s2).bind (fun x13 =>
(m_impl_IsCongruent (TFramework.mk (TGraph.mk f.Graph.Points r1.2.2.1) r1.2.2.2) x13).bind (fun r14 =>
(bif (!r14) then
 some (.inr (.inr (true, r1.2.2.1, r1.2.2.2)))
 else
 some (.inl (w64 (s2 + 1)))
)
)
)
 else
 some (.inr (.inl (r1.2.2.1, r1.2.2.2)))
)
def m_impl_HasTwin (f : TFramework) : Option (Bool × (List TBar) × (List TPlace)) :=
(m_impl_OtherPlaces f).bind (fun r1 =>
(same f.Graph.Bars.length r1.2.2.1.length).bind (fun u16 =>
(same f.Places.length r1.2.2.2.length).bind (fun u17 =>
((loopM (m_impl_HasTwin_L1 f r1) BIG 0).bind (Sum.elim (fun b11 => (
 some (false, b11.1, b11.2)
)) (fun r => some r)))
))
)
def m_laws_eqBar (a : TBar) (b : TBar) : Option Bool :=
(bif (a.A != b.A) then
 some false
 else
(bif (a.B != b.B) then
 some false
 else
 some true
)
)
def m_laws_eqBarS_L1 (a : (List TBar)) (b : (List TBar)) (s2 : Int) : Option (Int ⊕ (Unit ⊕ Bool)) :=
(bif (decide (s2 < (a.length : Int))) then
(idx a s2).bind (fun x15 =>
(idx b s2).bind (fun x16 =>
(m_laws_eqBar x15 x16).bind (fun r17 =>
(bif (!r17) then
 some (.inr (.inr false))
 else
 some (.inl (w64 (s2 + 1)))
)
)
)
)
 else
 some (.inr (.inl ()))
)
def m_laws_eqBarS (a : (List TBar)) (b : (List TBar)) : Option Bool :=
(bif ((a.length : Int) != (b.length : Int)) then
 some false
 else
((loopM (m_laws_eqBarS_L1 a b) BIG 0).bind (Sum.elim (fun b13 => (
 some true
)) (fun r => some r)))
)
def m_laws_eqGraph (a : TGraph) (b : TGraph) : Option Bool :=
(bif (a.Points != b.Points) then
 some false
 else
(m_laws_eqBarS a.Bars b.Bars).bind (fun r2 =>
(bif (!r2) then
 some false
 else
 some true
)
)
)
def m_laws_eqPlace (a : TPlace) (b : TPlace) : Option Bool :=
(bif (a.X != b.X) then
 some false
 else
(bif (a.Y != b.Y) then
 some false
 else
 some true
)
)
def m_laws_eqPlaceS_L1 (a : (List TPlace)) (b : (List TPlace)) (s2 : Int) : Option (Int ⊕ (Unit ⊕ Bool)) :=
(bif (decide (s2 < (a.length : Int))) then
(idx a s2).bind (fun x15 =>
(idx b s2).bind (fun x16 =>
(m_laws_eqPlace x15 x16).bind (fun r17 =>
(bif (!r17) then
 some (.inr (.inr false))
 else
 some (.inl (w64 (s2 + 1)))
)
)
)
)
 else
 some (.inr (.inl ()))
)
def m_laws_eqPlaceS (a : (List TPlace)) (b : (List TPlace)) : Option Bool :=
(bif ((a.length : Int) != (b.length : Int)) then
 some false
 else
((loopM (m_laws_eqPlaceS_L1 a b) BIG 0).bind (Sum.elim (fun b13 => (
 some true
)) (fun r => some r)))
)
def m_laws_eqFramework (a : TFramework) (b : TFramework) : Option Bool :=
(m_laws_eqGraph a.Graph b.Graph).bind (fun r1 =>
(bif (!r1) then
 some false
 else
(m_laws_eqPlaceS a.Places b.Places).bind (fun r3 =>
(bif (!r3) then
 some false
 else
 some true
)
)
)
)
def m_laws_FnExactHasTwin (aF : TFramework) : Option Bool :=
(m_laws_szFramework aF 1048576).bind (fun r1 =>
(bif (decide (r1 < 0)) then
 some true
 else
(m_laws_toFramework aF).bind (fun r3 =>
(m_spec_HasTwin r3).bind (fun r4 =>
(m_laws_toFramework aF).bind (fun r5 =>
(m_impl_HasTwin r5).bind (fun r6 =>
(bif (r6.1 != r4) then
 some false
 else
(m_laws_toFramework aF).bind (fun r8 =>
(same r5.Graph.Bars.length r6.2.1.length).bind (fun u9 =>
(same r5.Places.length r6.2.2.length).bind (fun u10 =>
(m_laws_eqFramework (TFramework.mk (TGraph.mk r5.Graph.Points r6.2.1) r6.2.2) r8).bind (fun r11 =>
(bif (!r11) then
 some false
 else
 some true
)
)))
)
)
)
)
)
)
)
)
def m_spec_l4Copy (p : TPebbles) : Option TPebbles :=
(lim (([] : List Int).length + p.Free.length)).bind (fun u1 =>
(lim (([] : List Int).length + p.Tails.length)).bind (fun u2 =>
(lim (([] : List Int).length + p.Placed.length)).bind (fun u3 =>
 some (TPebbles.mk (([] : List Int) ++ p.Free) (([] : List Int) ++ p.Tails) (([] : List Int) ++ p.Placed))
)
)
)
def m_spec_l4Other (b : TBar) (v : Int) : Option Int :=
 some (w64 ((w64 (b.A + b.B)) - v))
def m_spec_l4Shift_L1 (g : TGraph) (p : TPebbles) (fromV : (List Int)) (a : Int) (u : Int) (r1 : TPebbles) (x2 : Int) (x4 : Int) (s6 : (Int × (List Int))) : Option ((Int × (List Int)) ⊕ ((List Int) × (List Int) × (List Int))) :=
(bif (s6.1 != a) then
(idx fromV s6.1).bind (fun x21 =>
(idx p.Placed x21).bind (fun x22 =>
(idx g.Bars x22).bind (fun x23 =>
(m_spec_l4Other x23 s6.1).bind (fun r24 =>
(idx s6.2 x21).bind (fun x25 =>
 some (.inl (r24, (s6.2.set x21.toNat s6.1)))
)
)
)
)
)
 else
 some (.inr (((r1.Free.set u.toNat (w64 (x2 - 1))).set a.toNat (w64 (x4 + 1))), s6.2, r1.Placed))
)
def m_spec_l4Shift (g : TGraph) (p : TPebbles) (fromV : (List Int)) (a : Int) (u : Int) : Option TPebbles :=
(m_spec_l4Copy p).bind (fun r1 =>
(idx r1.Free u).bind (fun x2 =>
(idx r1.Free u).bind (fun x3 =>
(idx (r1.Free.set u.toNat (w64 (x2 - 1))) a).bind (fun x4 =>
(idx (r1.Free.set u.toNat (w64 (x2 - 1))) a).bind (fun x5 =>
((loopM (m_spec_l4Shift_L1 g p fromV a u r1 x2 x4) BIG (u, r1.Tails)).bind (fun b19 =>
 some (TPebbles.mk b19.1 b19.2.1 b19.2.2)
))
)
)
)
)
)
def m_spec_l4Find_L1 (g : TGraph) (s2 : (Int × (List Int))) : Option ((Int × (List Int)) ⊕ (List Int)) :=
(bif (decide (s2.1 < g.Points)) then
(idx s2.2 s2.1).bind (fun x9 =>
 some (.inl ((w64 (s2.1 + 1)), (s2.2.set s2.1.toNat (-1))))
)
 else
 some (.inr s2.2)
)
def m_spec_l4Find_L5 (g : TGraph) (p : TPebbles) (a : Int) (b : Int) (s12 : (Int × (List Int) × (List Int) × (List Bool))) (x95 : Int) (s96 : (Int × (List Int) × (List Int) × (List Bool))) : Option ((Int × (List Int) × (List Int) × (List Bool)) ⊕ ((Int × (List Int) × (List Int) × (List Bool)) ⊕ (TPebbles × Bool))) :=
(bif (decide (s96.1 < (p.Placed.length : Int))) then
(idx p.Tails s96.1).bind (fun x135 =>
(bif (x135 != x95) then
 some (.inl ((w64 (s96.1 + 1)), s96.2.1, s96.2.2.1, s96.2.2.2))
 else
(idx p.Placed s96.1).bind (fun x137 =>
(idx g.Bars x137).bind (fun x138 =>
(m_spec_l4Other x138 x95).bind (fun r139 =>
(idx s96.2.2.2 r139).bind (fun x140 =>
(bif x140 then
 some (.inl ((w64 (s96.1 + 1)), s96.2.1, s96.2.2.1, s96.2.2.2))
 else
(idx s96.2.2.2 r139).bind (fun x142 =>
(idx s96.2.1 r139).bind (fun x143 =>
(((
(bif (r139 != b) then
(idx p.Free r139).bind (fun x148 =>
 some (decide (0 < x148))
)
 else
 some false
)
) : Option Bool).bind (fun j146 =>
(bif j146 then
(m_spec_l4Shift g p (s96.2.1.set r139.toNat s96.1) a r139).bind (fun r150 =>
 some (.inr (.inr (r150, true)))
)
 else
(lim (s96.2.2.1.length + ([r139] : List Int).length)).bind (fun u151 =>
 some (.inl ((w64 (s96.1 + 1)), (s96.2.1.set r139.toNat s96.1), (s96.2.2.1 ++ ([r139] : List Int)), (s96.2.2.2.set r139.toNat true)))
)
)
))
)
)
)
)
)
)
)
)
)
 else
 some (.inr (.inl (s12.1, s96.2.1, s96.2.2.1, s96.2.2.2)))
)
def m_spec_l4Find_L4 (g : TGraph) (p : TPebbles) (a : Int) (b : Int) (s12 : (Int × (List Int) × (List Int) × (List Bool))) : Option ((Int × (List Int) × (List Int) × (List Bool)) ⊕ (Unit ⊕ (TPebbles × Bool))) :=
(bif (decide (s12.1 < (s12.2.2.1.length : Int))) then
(idx s12.2.2.1 s12.1).bind (fun x95 =>
((loopM (m_spec_l4Find_L5 g p a b s12 x95) BIG (0, s12.2.1, s12.2.2.1, s12.2.2.2)).bind (Sum.elim (fun b133 => (
 some (.inl ((w64 (b133.1 + 1)), b133.2.1, b133.2.2.1, b133.2.2.2))
)) (fun r => some (.inr (.inr r)))))
)
 else
 some (.inr (.inl ()))
)
def m_spec_l4Find (g : TGraph) (p : TPebbles) (a : Int) (b : Int) : Option (TPebbles × Bool) :=
(lenOk g.Points).bind (fun u1 =>
((loopM (m_spec_l4Find_L1 g) BIG (0, (List.replicate g.Points.toNat (0 : Int)))).bind (fun b7 =>
(lenOk g.Points).bind (fun u10 =>
(idx (List.replicate g.Points.toNat false) a).bind (fun x11 =>
((loopM (m_spec_l4Find_L4 g p a b) BIG (0, b7, ([a] : List Int), ((List.replicate g.Points.toNat false).set a.toNat true))).bind (Sum.elim (fun b93 => (
 some (p, false)
)) (fun r => some r)))
)
)
))
)
def m_spec_l4Gather_L1 (g : TGraph) (a : Int) (b : Int) (want : Int) (s2 : ((List Int) × (List Int) × (List Int))) : Option (((List Int) × (List Int) × (List Int)) ⊕ (((List Int) × (List Int) × (List Int)) ⊕ (TPebbles × Bool))) :=
(idx s2.1 a).bind (fun x28 =>
(idx s2.1 b).bind (fun x29 =>
(bif (decide ((w64 (x28 + x29)) < want)) then
(m_spec_l4Find g (TPebbles.mk s2.1 s2.2.1 s2.2.2) a b).bind (fun r31 =>
(bif r31.2 then
(bif (!true) then
 none
 else
(bif (!true) then
 none
 else
 some (.inl (r31.1.Free, r31.1.Tails, r31.1.Placed))
)
)
 else
(bif (!false) then
(m_spec_l4Find g (TPebbles.mk s2.1 s2.2.1 s2.2.2) b a).bind (fun r36 =>
(bif r36.2 then
(bif (!true) then
 none
 else
 some (.inl (r36.1.Free, r36.1.Tails, r36.1.Placed))
)
 else
(bif (!false) then
 some (.inr (.inr ((TPebbles.mk s2.1 s2.2.1 s2.2.2), false)))
 else
 none
)
)
)
 else
 none
)
)
)
 else
 some (.inr (.inl (s2.1, s2.2.1, s2.2.2)))
)
)
)
def m_spec_l4Gather (g : TGraph) (p : TPebbles) (a : Int) (b : Int) (want : Int) : Option (TPebbles × Bool) :=
(m_spec_l4Copy p).bind (fun r1 =>
((loopM (m_spec_l4Gather_L1 g a b want) BIG (r1.Free, r1.Tails, r1.Placed)).bind (Sum.elim (fun b27 => (
 some ((TPebbles.mk b27.1 b27.2.1 b27.2.2), true)
)) (fun r => some r)))
)
def m_impl_Bar_other (x : TBar) (v : Int) : Option Int :=
(bif (x.A == v) then
 some x.B
 else
 some x.A
)
def m_impl_moveTo_L11 (p : TPebbles) (a : Int) (s122 : (Int × (List (Int × Int)) × (List Int))) (r187 : Int) (x196 : Int) (x198 : Int) (s200 : (Int × (List Int))) : Option ((Int × (List Int)) ⊕ ((List Int) × (List Int))) :=
(bif (s200.1 != a) then
(idx s200.2 (mget (mput s122.2.1 r187 s122.1) s200.1)).bind (fun x209 =>
(idx s200.2 (mget (mput s122.2.1 r187 s122.1) s200.1)).bind (fun x210 =>
 some (.inl (x209, (s200.2.set (mget (mput s122.2.1 r187 s122.1) s200.1).toNat s200.1)))
)
)
 else
 some (.inr (((p.Free.set r187.toNat (w64 (x196 - 1))).set a.toNat (w64 (x198 + 1))), s200.2))
)
def m_impl_moveTo_L10 (bars : (List TBar)) (p : TPebbles) (a : Int) (b : Int) (s1 : (Int × (List (Int × Int)) × (List Int))) (s122 : (Int × (List (Int × Int)) × (List Int))) : Option ((Int × (List (Int × Int)) × (List Int)) ⊕ ((Int × (List (Int × Int)) × (List Int)) ⊕ (Bool × TPebbles))) :=
(bif (decide (s122.1 < (p.Placed.length : Int))) then
(idx p.Placed s122.1).bind (fun x181 =>
(idx p.Tails s122.1).bind (fun x182 =>
(idx s122.2.2 s1.1).bind (fun x183 =>
(bif (x182 != x183) then
 some (.inl ((w64 (s122.1 + 1)), s122.2.1, s122.2.2))
 else
(idx bars x181).bind (fun x185 =>
(idx s122.2.2 s1.1).bind (fun x186 =>
(m_impl_Bar_other x185 x186).bind (fun r187 =>
(bif (mhas s122.2.1 r187) then
 some (.inl ((w64 (s122.1 + 1)), s122.2.1, s122.2.2))
 else
(((
(bif (r187 == b) then
 some true
 else
(idx p.Free r187).bind (fun x193 =>
 some (x193 == 0)
)
)
) : Option Bool).bind (fun j191 =>
(bif j191 then
(lim (s122.2.2.length + ([r187] : List Int).length)).bind (fun u195 =>
 some (.inl ((w64 (s122.1 + 1)), (mput s122.2.1 r187 s122.1), (s122.2.2 ++ ([r187] : List Int))))
)
 else
(idx p.Free r187).bind (fun x196 =>
(idx p.Free r187).bind (fun x197 =>
(idx (p.Free.set r187.toNat (w64 (x196 - 1))) a).bind (fun x198 =>
(idx (p.Free.set r187.toNat (w64 (x196 - 1))) a).bind (fun x199 =>
((loopM (m_impl_moveTo_L11 p a s122 r187 x196 x198) BIG (r187, p.Tails)).bind (fun b207 =>
 some (.inr (.inr (true, (TPebbles.mk b207.1 b207.2 p.Placed))))
))
)
)
)
)
)
))
)
)
)
)
)
)
)
)
 else
 some (.inr (.inl (s1.1, s122.2.1, s122.2.2)))
)
def m_impl_moveTo_L7 (bars : (List TBar)) (p : TPebbles) (a : Int) (b : Int) (s1 : (Int × (List (Int × Int)) × (List Int))) : Option ((Int × (List (Int × Int)) × (List Int)) ⊕ (Unit ⊕ (Bool × TPebbles))) :=
(bif (decide (s1.1 < (s1.2.2.length : Int))) then
((loopM (m_impl_moveTo_L10 bars p a b s1) BIG (0, s1.2.1, s1.2.2)).bind (Sum.elim (fun b179 => (
 some (.inl ((w64 (b179.1 + 1)), b179.2.1, b179.2.2))
)) (fun r => some (.inr (.inr r)))))
 else
 some (.inr (.inl ()))
)
def m_impl_moveTo (bars : (List TBar)) (p : TPebbles) (a : Int) (b : Int) : Option (Bool × TPebbles) :=
((loopM (m_impl_moveTo_L7 bars p a b) BIG (0, (mput ([] : List (Int × Int)) a (-1)), ([a] : List Int))).bind (Sum.elim (fun b120 => (
 some (false, p)
)) (fun r => some r)))
def m_impl_gather_L1 (bars : (List TBar)) (a : Int) (b : Int) (want : Int) (s1 : ((List Int) × (List Int) × (List Int))) : Option (((List Int) × (List Int) × (List Int)) ⊕ (((List Int) × (List Int) × (List Int)) ⊕ (Bool × TPebbles))) :=
(idx s1.1 a).bind (fun x25 =>
(idx s1.1 b).bind (fun x26 =>
(bif (decide ((w64 (x25 + x26)) < want)) then
(((
(m_impl_moveTo bars (TPebbles.mk s1.1 s1.2.1 s1.2.2) a b).bind (fun r32 =>
(bif (!r32.1) then
(m_impl_moveTo bars r32.2 b a).bind (fun r34 =>
 some ((!r34.1), r34.2.Free, r34.2.Tails, r34.2.Placed)
)
 else
 some (false, r32.2.Free, r32.2.Tails, r32.2.Placed)
)
)
) : Option (Bool × (List Int) × (List Int) × (List Int))).bind (fun j31 =>
(bif j31.1 then
 some (.inr (.inr (false, (TPebbles.mk j31.2.1 j31.2.2.1 j31.2.2.2))))
 else
 some (.inl (j31.2.1, j31.2.2.1, j31.2.2.2))
)
))
 else
 some (.inr (.inl (s1.1, s1.2.1, s1.2.2)))
)
)
)
def m_impl_gather (bars : (List TBar)) (p : TPebbles) (a : Int) (b : Int) (want : Int) : Option (Bool × TPebbles) :=
((loopM (m_impl_gather_L1 bars a b want) BIG (p.Free, p.Tails, p.Placed)).bind (Sum.elim (fun b24 => (
 some (true, (TPebbles.mk b24.1 b24.2.1 b24.2.2))
)) (fun r => some r)))
def m_impl_place (bars : (List TBar)) (l : Int) (p : TPebbles) (e : Int) : Option (Bool × TPebbles) :=
(idx bars e).bind (fun x1 =>
(m_impl_gather bars p x1.A x1.B (w64 (l + 1))).bind (fun r2 =>
(bif (!r2.1) then
 some (false, r2.2)
 else
(idx r2.2.Free x1.A).bind (fun x4 =>
(((
(bif (x4 == 0) then
 some x1.B
 else
 some x1.A
)
) : Option Int).bind (fun j6 =>
(idx r2.2.Free j6).bind (fun x8 =>
(idx r2.2.Free j6).bind (fun x9 =>
(lim (r2.2.Tails.length + ([j6] : List Int).length)).bind (fun u10 =>
(lim (r2.2.Placed.length + ([e] : List Int).length)).bind (fun u11 =>
 some (true, (TPebbles.mk (r2.2.Free.set j6.toNat (w64 (x8 - 1))) (r2.2.Tails ++ ([j6] : List Int)) (r2.2.Placed ++ ([e] : List Int))))
)
)
)
)
))
)
)
)
)
def m_spec_IsRange (k : Int) (l : Int) : Option Bool :=
(((
(m_spec_l1In k 1 3).bind (fun r5 =>
(bif r5 then
(bif (decide (0 ≤ l)) then
 some (decide (l < (w64 (2 * k))))
 else
 some false
)
 else
 some false
)
)
) : Option Bool).bind (fun j4 =>
 some j4
))
def m_spec_l4Tail_L1 (p : TPebbles) (v : Int) (s1 : (Int × Int)) : Option ((Int × Int) ⊕ Int) :=
(bif (decide (s1.2 < (p.Tails.length : Int))) then
(idx p.Tails s1.2).bind (fun x14 =>
(((
(bif (x14 == v) then
 some (w64 (s1.1 + 1))
 else
 some s1.1
)
) : Option Int).bind (fun j16 =>
 some (.inl (j16, (w64 (s1.2 + 1))))
))
)
 else
 some (.inr s1.1)
)
def m_spec_l4Tail (p : TPebbles) (v : Int) : Option Int :=
((loopM (m_spec_l4Tail_L1 p v) BIG (0, 0)).bind (fun b12 =>
 some b12
))
def m_spec_IsPebbles_L1 (g : TGraph) (p : TPebbles) (s13 : Int) : Option (Int ⊕ (Unit ⊕ Bool)) :=
(bif (decide (s13 < (p.Placed.length : Int))) then
(idx p.Placed s13).bind (fun x84 =>
(((
(bif (decide (x84 < 0)) then
 some true
 else
(bif (decide ((g.Bars.length : Int) ≤ x84)) then
 some true
 else
(bif (decide (0 < s13)) then
(idx p.Placed (w64 (s13 - 1))).bind (fun x104 =>
(bif (decide (x84 ≤ x104)) then
 some true
 else
(idx p.Tails s13).bind (fun x106 =>
(idx g.Bars x84).bind (fun x107 =>
(bif (x106 != x107.A) then
(idx p.Tails s13).bind (fun x109 =>
(idx g.Bars x84).bind (fun x110 =>
 some (x109 != x110.B)
)
)
 else
 some false
)
)
)
)
)
 else
(idx p.Tails s13).bind (fun x111 =>
(idx g.Bars x84).bind (fun x112 =>
(bif (x111 != x112.A) then
(idx p.Tails s13).bind (fun x114 =>
(idx g.Bars x84).bind (fun x115 =>
 some (x114 != x115.B)
)
)
 else
 some false
)
)
)
)
)
)
) : Option Bool).bind (fun j100 =>
(bif j100 then
 some (.inr (.inr false))
 else
 some (.inl (w64 (s13 + 1)))
)
))
)
 else
 some (.inr (.inl ()))
)
def m_spec_IsPebbles_L2 (g : TGraph) (k : Int) (p : TPebbles) (s117 : Int) : Option (Int ⊕ (Unit ⊕ Bool)) :=
(bif (decide (s117 < g.Points)) then
(((
(idx p.Free s117).bind (fun x147 =>
(bif (decide (x147 < 0)) then
 some true
 else
(idx p.Free s117).bind (fun x149 =>
(m_spec_l4Tail p s117).bind (fun r150 =>
 some ((w64 (x149 + r150)) != k)
)
)
)
)
) : Option Bool).bind (fun j146 =>
(bif j146 then
 some (.inr (.inr false))
 else
 some (.inl (w64 (s117 + 1)))
)
))
 else
 some (.inr (.inl ()))
)
def m_spec_IsPebbles (g : TGraph) (k : Int) (p : TPebbles) : Option Bool :=
(((
(m_spec_IsGraph g).bind (fun r7 =>
(bif (!r7) then
 some true
 else
(m_spec_l1In k 1 3).bind (fun r9 =>
(bif (!r9) then
 some true
 else
(bif ((p.Free.length : Int) != g.Points) then
 some true
 else
 some ((p.Tails.length : Int) != (p.Placed.length : Int))
)
)
)
)
)
) : Option Bool).bind (fun j6 =>
(bif j6 then
 some false
 else
((loopM (m_spec_IsPebbles_L1 g p) BIG 0).bind (Sum.elim (fun b82 => (
((loopM (m_spec_IsPebbles_L2 g k p) BIG 0).bind (Sum.elim (fun b140 => (
 some true
)) (fun r => some r)))
)) (fun r => some r)))
)
))
def m_spec_PlaceBar (g : TGraph) (k : Int) (l : Int) (p : TPebbles) (bar : Int) : Option (TPebbles × Bool) :=
(((
(m_spec_IsPebbles g k p).bind (fun r10 =>
(bif (!r10) then
 some true
 else
(m_spec_IsRange k l).bind (fun r12 =>
(bif (!r12) then
 some true
 else
(bif (decide (bar < 0)) then
 some true
 else
(bif (decide ((g.Bars.length : Int) ≤ bar)) then
 some true
 else
(bif (decide (0 < (p.Placed.length : Int))) then
(idx p.Placed (w64 ((p.Placed.length : Int) - 1))).bind (fun x17 =>
 some (decide (bar ≤ x17))
)
 else
 some false
)
)
)
)
)
)
)
) : Option Bool).bind (fun j9 =>
(bif j9 then
(m_spec_l4Copy p).bind (fun r19 =>
 some (r19, false)
)
 else
(idx g.Bars bar).bind (fun x20 =>
(m_spec_l4Gather g p x20.A x20.B (w64 (l + 1))).bind (fun r21 =>
(bif (!r21.2) then
(m_spec_l4Copy p).bind (fun r23 =>
 some (r23, false)
)
 else
(idx r21.1.Free x20.A).bind (fun x24 =>
(((
(bif (x24 == 0) then
 some x20.B
 else
 some x20.A
)
) : Option Int).bind (fun j26 =>
(idx r21.1.Free j26).bind (fun x28 =>
(idx r21.1.Free j26).bind (fun x29 =>
(lim (r21.1.Tails.length + ([j26] : List Int).length)).bind (fun u30 =>
(lim (r21.1.Placed.length + ([bar] : List Int).length)).bind (fun u31 =>
 some ((TPebbles.mk (r21.1.Free.set j26.toNat (w64 (x28 - 1))) (r21.1.Tails ++ ([j26] : List Int)) (r21.1.Placed ++ ([bar] : List Int))), true)
)
)
)
)
))
)
)
)
)
)
))
end Go.Proofs.Yteognanhfpbghaa
end
section
set_option linter.unusedVariables false
set_option linter.unusedSimpArgs false
set_option linter.unnecessarySimpa false
open Go Go.Fw
namespace Go.Proofs.Yteognanhfpbghaa
abbrev SM (n : Nat) : Prop := n ≤ 2147483648
theorem toBarS_eq (a : List TBar) (h : SM a.length) : m_laws_toBarS a = some a := by
  unfold m_laws_toBarS
  rw [lenOk_ok (by omega) (by omega), Option.bind_some, Int.toNat_natCast, copy_loop a _ (by omega) (fun k l x y hx hy => ?_) (fun l => ?_)]
  · rfl
  · have hk : k < a.length := (List.getElem?_eq_some_iff.1 hx).1
    simp only [m_laws_toBarS_L1, idx_of hx, idx_of hy, m_laws_toBar, Option.bind_some, Int.toNat_natCast]
    rw [decide_eq_true (by omega)]
    rfl
  · simp [m_laws_toBarS_L1]
theorem eqBarS_refl (a : List TBar) (h : SM a.length) : m_laws_eqBarS a a = some true := by
  unfold m_laws_eqBarS
  rw [count_loop a.length (by omega) (fun k hk => ?_) (by simp [m_laws_eqBarS_L1] <;> rfl)]
  · simp
  · simp only [m_laws_eqBarS_L1, idx_at hk, m_laws_eqBar, Option.bind_some]
    rw [decide_eq_true (by omega)]
    simp
theorem szBarS_some (a : List TBar) (n : Int) : ∃ z, m_laws_szBarS a n = some z := by
  unfold m_laws_szBarS
  cases decide (w64 (n - (a.length : Int)) < 0) <;> exact ⟨_, rfl⟩
theorem toPlaceS_eq (a : List TPlace) (h : SM a.length) : m_laws_toPlaceS a = some a := by
  unfold m_laws_toPlaceS
  rw [lenOk_ok (by omega) (by omega), Option.bind_some, Int.toNat_natCast, copy_loop a _ (by omega) (fun k l x y hx hy => ?_) (fun l => ?_)]
  · rfl
  · have hk : k < a.length := (List.getElem?_eq_some_iff.1 hx).1
    simp only [m_laws_toPlaceS_L1, idx_of hx, idx_of hy, m_laws_toPlace, Option.bind_some, Int.toNat_natCast]
    rw [decide_eq_true (by omega)]
    rfl
  · simp [m_laws_toPlaceS_L1]
theorem eqPlaceS_refl (a : List TPlace) (h : SM a.length) : m_laws_eqPlaceS a a = some true := by
  unfold m_laws_eqPlaceS
  rw [count_loop a.length (by omega) (fun k hk => ?_) (by simp [m_laws_eqPlaceS_L1] <;> rfl)]
  · simp
  · simp only [m_laws_eqPlaceS_L1, idx_at hk, m_laws_eqPlace, Option.bind_some]
    rw [decide_eq_true (by omega)]
    simp
theorem szPlaceS_some (a : List TPlace) (n : Int) : ∃ z, m_laws_szPlaceS a n = some z := by
  unfold m_laws_szPlaceS
  cases decide (w64 (n - (a.length : Int)) < 0) <;> exact ⟨_, rfl⟩
theorem toGraph_eq (a : TGraph) (h0 : SM a.Bars.length) : m_laws_toGraph a = some a := by
  unfold m_laws_toGraph
  simp only [toBarS_eq a.Bars h0, Option.bind_some]
theorem eqGraph_refl (a : TGraph) (h0 : SM a.Bars.length) : m_laws_eqGraph a a = some true := by
  unfold m_laws_eqGraph
  simp [eqBarS_refl a.Bars h0]
theorem szGraph_some (a : TGraph) (n : Int) : ∃ z, m_laws_szGraph a n = some z := by
  unfold m_laws_szGraph
  obtain ⟨z0, e0⟩ := szBarS_some a.Bars n
  rw [e0, Option.bind_some]
  cases decide (z0 < 0)
  rotate_left
  · exact ⟨_, rfl⟩
  simp only [cond_false]
  exact ⟨_, rfl⟩
theorem toFramework_eq (a : TFramework) (h0 : SM a.Graph.Bars.length) (h1 : SM a.Places.length) : m_laws_toFramework a = some a := by
  unfold m_laws_toFramework
  simp only [toGraph_eq a.Graph h0, toPlaceS_eq a.Places h1, Option.bind_some]
theorem eqFramework_refl (a : TFramework) (h0 : SM a.Graph.Bars.length) (h1 : SM a.Places.length) : m_laws_eqFramework a a = some true := by
  unfold m_laws_eqFramework
  simp [eqGraph_refl a.Graph h0, eqPlaceS_refl a.Places h1]
theorem szFramework_some (a : TFramework) (n : Int) : ∃ z, m_laws_szFramework a n = some z := by
  unfold m_laws_szFramework
  obtain ⟨z0, e0⟩ := szGraph_some a.Graph n
  rw [e0, Option.bind_some]
  cases decide (z0 < 0)
  rotate_left
  · exact ⟨_, rfl⟩
  simp only [cond_false]
  obtain ⟨z1, e1⟩ := szPlaceS_some a.Places z0
  rw [e1, Option.bind_some]
  cases decide (z1 < 0)
  rotate_left
  · exact ⟨_, rfl⟩
  simp only [cond_false]
  exact ⟨_, rfl⟩
end Go.Proofs.Yteognanhfpbghaa
end
section
set_option linter.unusedVariables false
set_option linter.unusedSimpArgs false
set_option linter.unnecessarySimpa false
open Go Go.Fw
namespace Go.Proofs.Yteognanhfpbghaa
theorem l1In_eq (x lo hi : Int) : m_spec_l1In x lo hi = some (decide (lo ≤ x) && decide (x ≤ hi)) := by
  unfold m_spec_l1In
  cases decide (lo ≤ x) <;> simp
theorem within_eq (x lo hi : Int) : m_impl_within x lo hi = some (decide (lo ≤ x) && decide (x ≤ hi)) := by
  unfold m_impl_within
  cases decide (lo ≤ x) <;> simp
theorem compareInts_eq (a b : Int) : m_impl_compareInts a b = some (if a < b then -1 else if b < a then 1 else 0) := by
  unfold m_impl_compareInts
  by_cases h1 : a < b
  · simp [h1]
  · by_cases h2 : b < a <;> simp [h1, h2]
def barGt (x y : TBar) : Bool := decide (y.A < x.A) || (x.A == y.A && decide (y.B < x.B))
theorem compareBars_some (x y : TBar) : ∃ c, m_impl_compareBars x y = some c ∧ decide (0 < c) = barGt x y := by
  unfold m_impl_compareBars barGt
  rw [compareInts_eq, compareInts_eq]
  by_cases h1 : x.A < y.A
  · have h3 : (x.A == y.A) = false := by simp; omega
    exact ⟨-1, by simp [h1], by simp [h3]; omega⟩
  · by_cases h2 : y.A < x.A
    · exact ⟨1, by simp [h1, h2], by simp [h2]⟩
    · have : x.A = y.A := by omega
      by_cases h3 : x.B < y.B
      · exact ⟨-1, by simp [this, h3], by simp [this]; omega⟩
      · by_cases h4 : y.B < x.B
        · exact ⟨1, by simp [this, h3, h4], by simp [this, h4]⟩
        · exact ⟨0, by simp [this, h3, h4], by simp [this]; omega⟩
theorem l2After_eq (x y : TBar) : m_spec_l2After x y = some (!barGt x y) := by
  unfold m_spec_l2After barGt
  by_cases h1 : x.A < y.A
  · have h3 : (x.A == y.A) = false := by simp; omega
    simp [h1, h3]; omega
  · by_cases h2 : y.A < x.A
    · have h3 : (x.A == y.A) = false := by simp; omega
      simp [h1, h2, h3]
    · have : x.A = y.A := by omega
      by_cases h4 : y.B < x.B
      · have h5 : ¬ x.B ≤ y.B := by omega
        simp [this, h4, h5]
      · have h5 : x.B ≤ y.B := by omega
        simp [this, h4, h5]
def badBar (g : TGraph) (k : Nat) : Bool := match g.Bars[k]? with
  | none => false
  | some x => decide (x.A < 0) || decide (x.B ≤ x.A) || decide (g.Points ≤ x.B) || (decide (0 < k) && match g.Bars[k - 1]? with
    | none => false
    | some y => barGt y x)
def vG (g : TGraph) : Bool := decide (1 ≤ g.Points) && decide (g.Points ≤ 8) && !decide (24 < (g.Bars.length : Int)) && !(List.range' 0 g.Bars.length).any (badBar g)
theorem isGraphI_eq (g : TGraph) (h : SM g.Bars.length) : m_impl_IsGraph g = some (vG g) := by
  have e : loopM (m_impl_IsGraph_L1 g) BIG 0 = some (bif (List.range' 0 g.Bars.length).any (badBar g) then .inr false else .inl ()) := by
    refine any_loop0 (badBar g) false g.Bars.length (by omega) (fun k hk => ?_) (by simp [m_impl_IsGraph_L1])
    unfold m_impl_IsGraph_L1 badBar
    rw [decide_eq_true (by omega), cond_true, idx_at hk, Option.bind_some, List.getElem?_eq_getElem hk]
    simp only
    cases decide (g.Bars[k].A < 0)
    · cases decide (g.Bars[k].B ≤ g.Bars[k].A)
      · cases decide (g.Points ≤ g.Bars[k].B)
        · by_cases h0 : 0 < k
          · have e1 : w64 ((k : Int) - 1) = ((k - 1 : Nat) : Int) := by rw [w64_small (by omega) (by omega)]; omega
            obtain ⟨c, hc, hd⟩ := compareBars_some (g.Bars[k - 1]'(by omega)) g.Bars[k]
            rw [decide_eq_true (show (0 : Int) < (k : Int) by omega), decide_eq_true h0, e1, idx_at (show k - 1 < g.Bars.length by omega), List.getElem?_eq_getElem (show k - 1 < g.Bars.length by omega)]
            simp only [cond_false, cond_true, Option.bind_some, hc, hd, Bool.false_or, Bool.true_and]
          · rw [decide_eq_false (show ¬ (0 : Int) < (k : Int) by omega), decide_eq_false h0]
            rfl
        · rfl
      · rfl
    · rfl
  unfold m_impl_IsGraph vG
  rw [within_eq, e]
  simp only [Option.bind_some]
  cases decide (1 ≤ g.Points) && decide (g.Points ≤ 8)
  · rfl
  · cases decide (24 < (g.Bars.length : Int))
    · cases (List.range' 0 g.Bars.length).any (badBar g) <;> rfl
    · rfl
theorem isGraph_L1 (g : TGraph) : m_spec_IsGraph_L1 g = m_impl_IsGraph_L1 g := by
  funext s
  unfold m_spec_IsGraph_L1 m_impl_IsGraph_L1
  have e : ∀ x y, ((m_spec_l2After x y).bind fun r => some (!r)) = (m_impl_compareBars x y).bind fun r => some (decide (0 < r)) := fun x y => by
    obtain ⟨c, hc, hd⟩ := compareBars_some x y
    rw [l2After_eq, hc]
    simp [hd]
  simp only [e]
theorem isGraphS_eq (g : TGraph) (h : SM g.Bars.length) : m_spec_IsGraph g = some (vG g) := by
  rw [← isGraphI_eq g h]
  unfold m_spec_IsGraph m_impl_IsGraph
  rw [l1In_eq, within_eq, isGraph_L1]
structure VG (g : TGraph) : Prop where
  p1 : 1 ≤ g.Points
  p8 : g.Points ≤ 8
  len : g.Bars.length ≤ 24
  a0 : ∀ {k : Nat} {x : TBar}, g.Bars[k]? = some x → 0 ≤ x.A
  ab : ∀ {k : Nat} {x : TBar}, g.Bars[k]? = some x → x.A < x.B
  bp : ∀ {k : Nat} {x : TBar}, g.Bars[k]? = some x → x.B < g.Points
  srt : ∀ {k : Nat} {x y : TBar}, g.Bars[k]? = some x → g.Bars[k + 1]? = some y → barGt x y = false
theorem vG_VG {g : TGraph} (h : vG g = true) : VG g := by
  unfold vG at h
  simp only [Bool.and_eq_true, Bool.not_eq_true', decide_eq_true_eq, decide_eq_false_iff_not] at h
  obtain ⟨⟨⟨h1, h2⟩, h3⟩, h4⟩ := h
  rw [any_range_false] at h4
  have hb : ∀ {k : Nat} {x : TBar}, g.Bars[k]? = some x → 0 ≤ x.A ∧ x.A < x.B ∧ x.B < g.Points ∧ ∀ {y : TBar}, 0 < k → g.Bars[k - 1]? = some y → barGt y x = false := fun {k x} hx => by
    have hk : k < g.Bars.length := (List.getElem?_eq_some_iff.1 hx).1
    have := h4 k (by omega) (by omega)
    unfold badBar at this
    rw [hx] at this
    simp only [Bool.or_eq_false_iff, decide_eq_false_iff_not, Bool.and_eq_false_iff] at this
    obtain ⟨⟨⟨a, b⟩, c⟩, d⟩ := this
    refine ⟨by omega, by omega, by omega, fun {y} hk hy => ?_⟩
    rw [hy] at d
    rcases d with d | d
    · exact absurd hk d
    · exact d
  exact ⟨h1, h2, by omega, fun hx => (hb hx).1, fun hx => (hb hx).2.1, fun hx => (hb hx).2.2.1, fun {k x y} hx hy => (hb hy).2.2.2 (by omega) (by simpa using hx)⟩
theorem VG.sm {g : TGraph} (h : VG g) : SM g.Bars.length := by have := h.len; omega
def hasI (l : List Int) (x : Int) : Bool := l.any (· == x)
def atB {α : Type} (l : List α) (p : α → Bool) (k : Nat) : Bool := match l[k]? with
  | some x => p x
  | none => false
theorem atB_at {α : Type} {l : List α} {k : Nat} (h : k < l.length) (p : α → Bool) : atB l p k = p l[k] := by simp [atB, h]
theorem range_any {α : Type} (l : List α) (p : α → Bool) : (List.range' 0 l.length).any (atB l p) = l.any p := by
  induction l with
  | nil => rfl
  | cons x r ih =>
    rw [List.length_cons, List.range'_succ, List.any_cons, List.any_cons]
    congr 1
    rw [← ih, List.range'_eq_map_range, List.range'_eq_map_range, List.any_map, List.any_map]
    congr 1
    funext k
    simp [Function.comp, Nat.add_comm, atB]
end Go.Proofs.Yteognanhfpbghaa
end
section
set_option linter.unusedVariables false
set_option linter.unusedSimpArgs false
set_option linter.unnecessarySimpa false
open Go Go.Fw
namespace Go.Proofs.Yteognanhfpbghaa
theorem idx_in {α : Type} {l : List α} {i : Int} (d : α) (h0 : 0 ≤ i) (h1 : i < (l.length : Int)) : idx l i = some ((l[i.toNat]?).getD d) := by
  unfold idx
  rw [if_pos h0, List.getElem?_eq_getElem (by omega)]
  rfl
def plAt (f : TFramework) (v : Int) : TPlace := (f.Places[v.toNat]?).getD ⟨0, 0⟩
def onGrid (p : TPlace) : Bool := (decide (0 ≤ p.X) && decide (p.X ≤ 4)) && (decide (0 ≤ p.Y) && decide (p.Y ≤ 4))
theorem isPlace_eq (p : TPlace) : m_impl_isPlace p = some (onGrid p) := by
  unfold m_impl_isPlace onGrid
  rw [within_eq, within_eq]
  simp only [Option.bind_some]
  cases decide (0 ≤ p.X) && decide (p.X ≤ 4) <;> rfl
def badLen (f : TFramework) (k : Nat) : Bool := match f.Graph.Bars[k]? with
  | none => false
  | some x => eqI [(plAt f x.A).X, (plAt f x.A).Y] [(plAt f x.B).X, (plAt f x.B).Y] || (decide (0 < k) && match f.Graph.Bars[k - 1]? with
    | none => false
    | some y => eqI [y.A, y.B] [x.A, x.B])
def vF (f : TFramework) : Bool := vG f.Graph && !decide (6 < f.Graph.Points) && !((f.Places.length : Int) != f.Graph.Points) && !decide (15 < (f.Graph.Bars.length : Int)) && !(List.range' 0 f.Places.length).any (atB f.Places fun p => !onGrid p) && !(List.range' 0 f.Graph.Bars.length).any (badLen f)
theorem isFI_L1 (f : TFramework) (h : SM f.Places.length) : loopM (m_impl_IsFramework_L1 f) BIG 0 = some (bif (List.range' 0 f.Places.length).any (atB f.Places fun p => !onGrid p) then .inr false else .inl ()) := by
  refine any_loop0 _ false f.Places.length (by omega) (fun k hk => ?_) (by simp [m_impl_IsFramework_L1])
  unfold m_impl_IsFramework_L1
  rw [decide_eq_true (by omega), cond_true, idx_at hk, Option.bind_some, atB_at hk, isPlace_eq, Option.bind_some]
theorem isFS_L1 (f : TFramework) (h : SM f.Places.length) : loopM (m_spec_IsFramework_L1 f) BIG 0 = some (bif (List.range' 0 f.Places.length).any (atB f.Places fun p => !onGrid p) then .inr false else .inl ()) := by
  refine any_loop0 _ false f.Places.length (by omega) (fun k hk => ?_) (by simp [m_spec_IsFramework_L1])
  unfold m_spec_IsFramework_L1 onGrid
  rw [decide_eq_true (by omega), cond_true, idx_at hk, atB_at hk]
  simp only [l1In_eq, Option.bind_some]
  cases decide (0 ≤ f.Places[k].X) && decide (f.Places[k].X ≤ 4) <;> rfl
theorem isFI_L2 (f : TFramework) (hv : VG f.Graph) (hp : (f.Places.length : Int) = f.Graph.Points) : loopM (m_impl_IsFramework_L2 f) BIG 0 = some (bif (List.range' 0 f.Graph.Bars.length).any (badLen f) then .inr false else .inl ()) := by
  refine any_loop0 _ false f.Graph.Bars.length (by have := hv.len; omega) (fun k hk => ?_) (by simp [m_impl_IsFramework_L2])
  have hx := List.getElem?_eq_getElem hk
  have a0 := hv.a0 hx
  have ab := hv.ab hx
  have bp := hv.bp hx
  unfold m_impl_IsFramework_L2 badLen
  rw [decide_eq_true (by omega), cond_true, idx_at hk, Option.bind_some, hx]
  simp only [idx_in (⟨0, 0⟩ : TPlace) a0 (show f.Graph.Bars[k].A < (f.Places.length : Int) by omega), idx_in (⟨0, 0⟩ : TPlace) (show 0 ≤ f.Graph.Bars[k].B by omega) (show f.Graph.Bars[k].B < (f.Places.length : Int) by omega), Option.bind_some]
  by_cases h0 : 0 < k
  · have hl := hv.len
    have e1 : w64 ((k : Int) - 1) = ((k - 1 : Nat) : Int) := by rw [w64_small (by omega) (by omega)]; omega
    rw [decide_eq_true (show (0 : Int) < (k : Int) by omega), decide_eq_true h0, cond_true, e1, idx_at (show k - 1 < f.Graph.Bars.length by omega), Option.bind_some, List.getElem?_eq_getElem (show k - 1 < f.Graph.Bars.length by omega)]
    simp only [Bool.true_and, plAt]
    cases eqI [f.Graph.Bars[k - 1].A, f.Graph.Bars[k - 1].B] [f.Graph.Bars[k].A, f.Graph.Bars[k].B] <;> simp
  · rw [decide_eq_false (show ¬ (0 : Int) < (k : Int) by omega), decide_eq_false h0]
    simp [plAt]
theorem isFS_L2 (f : TFramework) (hv : VG f.Graph) (hp : (f.Places.length : Int) = f.Graph.Points) : loopM (m_spec_IsFramework_L2 f) BIG 0 = some (bif (List.range' 0 f.Graph.Bars.length).any (badLen f) then .inr false else .inl ()) := by
  refine any_loop0 _ false f.Graph.Bars.length (by have := hv.len; omega) (fun k hk => ?_) (by simp [m_spec_IsFramework_L2])
  have hx := List.getElem?_eq_getElem hk
  have a0 := hv.a0 hx
  have ab := hv.ab hx
  have bp := hv.bp hx
  unfold m_spec_IsFramework_L2 badLen
  rw [decide_eq_true (by omega), cond_true, idx_at hk, Option.bind_some, hx]
  simp only [idx_in (⟨0, 0⟩ : TPlace) a0 (show f.Graph.Bars[k].A < (f.Places.length : Int) by omega), idx_in (⟨0, 0⟩ : TPlace) (show 0 ≤ f.Graph.Bars[k].B by omega) (show f.Graph.Bars[k].B < (f.Places.length : Int) by omega), Option.bind_some]
  by_cases h0 : 0 < k
  · have hl := hv.len
    have e1 : w64 ((k : Int) - 1) = ((k - 1 : Nat) : Int) := by rw [w64_small (by omega) (by omega)]; omega
    rw [decide_eq_true (show (0 : Int) < (k : Int) by omega), decide_eq_true h0, cond_true, e1, idx_at (show k - 1 < f.Graph.Bars.length by omega), Option.bind_some, List.getElem?_eq_getElem (show k - 1 < f.Graph.Bars.length by omega)]
    simp only [Bool.true_and, plAt]
    generalize eqI [((f.Places[f.Graph.Bars[k].A.toNat]?).getD ⟨0, 0⟩).X, _] _ = c
    cases c <;> simp
  · rw [decide_eq_false (show ¬ (0 : Int) < (k : Int) by omega), decide_eq_false h0]
    simp only [cond_false, Bool.false_and, Bool.or_false, plAt]
    generalize eqI [((f.Places[f.Graph.Bars[k].A.toNat]?).getD ⟨0, 0⟩).X, _] _ = c
    cases c <;> simp
theorem bne_int {a b : Int} : (a != b) = false ↔ a = b := by simp
theorem isFI_eq (f : TFramework) (h : SM f.Graph.Bars.length) (h2 : SM f.Places.length) : m_impl_IsFramework f = some (vF f) := by
  unfold m_impl_IsFramework vF
  rw [isGraphI_eq _ h, isFI_L1 f h2]
  cases hg : vG f.Graph
  · rfl
  · cases decide (6 < f.Graph.Points)
    · cases decide (15 < (f.Graph.Bars.length : Int))
      · cases hp : ((f.Places.length : Int) != f.Graph.Points)
        · rw [isFI_L2 f (vG_VG hg) (bne_int.1 hp)]
          cases (List.range' 0 f.Places.length).any (atB f.Places fun p => !onGrid p)
          · cases (List.range' 0 f.Graph.Bars.length).any (badLen f) <;> rfl
          · rfl
        · rfl
      · cases ((f.Places.length : Int) != f.Graph.Points) <;> rfl
    · rfl
theorem isFS_eq (f : TFramework) (h : SM f.Graph.Bars.length) (h2 : SM f.Places.length) : m_spec_IsFramework f = some (vF f) := by
  unfold m_spec_IsFramework vF
  rw [isGraphS_eq _ h, isFS_L1 f h2]
  cases hg : vG f.Graph
  · rfl
  · cases decide (6 < f.Graph.Points)
    · cases hp : ((f.Places.length : Int) != f.Graph.Points)
      · cases decide (15 < (f.Graph.Bars.length : Int))
        · rw [isFS_L2 f (vG_VG hg) (bne_int.1 hp)]
          cases (List.range' 0 f.Places.length).any (atB f.Places fun p => !onGrid p)
          · cases (List.range' 0 f.Graph.Bars.length).any (badLen f) <;> rfl
          · rfl
        · rfl
      · rfl
    · rfl
structure VF (f : TFramework) : Prop where
  g : VG f.Graph
  p6 : f.Graph.Points ≤ 6
  len : f.Graph.Bars.length ≤ 15
  pls : (f.Places.length : Int) = f.Graph.Points
  grid : ∀ {k : Nat} {p : TPlace}, f.Places[k]? = some p → 0 ≤ p.X ∧ p.X ≤ 4 ∧ 0 ≤ p.Y ∧ p.Y ≤ 4
  dif : ∀ {k : Nat} {x : TBar}, f.Graph.Bars[k]? = some x → eqI [(plAt f x.A).X, (plAt f x.A).Y] [(plAt f x.B).X, (plAt f x.B).Y] = false
  nod : ∀ {k : Nat} {x y : TBar}, f.Graph.Bars[k]? = some x → f.Graph.Bars[k + 1]? = some y → eqI [x.A, x.B] [y.A, y.B] = false
theorem vF_VF {f : TFramework} (h : vF f = true) : VF f := by
  unfold vF at h
  simp only [Bool.and_eq_true, Bool.not_eq_true', decide_eq_false_iff_not] at h
  obtain ⟨⟨⟨⟨⟨h1, h2⟩, h3⟩, h4⟩, h5⟩, h6⟩ := h
  rw [any_range_false] at h5 h6
  refine ⟨vG_VG h1, by omega, by omega, bne_int.1 h3, fun {k p} hk => ?_, fun {k x} hk => ?_, fun {k x y} hx hy => ?_⟩
  · have hl := (List.getElem?_eq_some_iff.1 hk).1
    have := h5 k (by omega) (by omega)
    unfold atB at this
    rw [hk] at this
    simp only [Bool.not_eq_false', onGrid, Bool.and_eq_true, decide_eq_true_eq] at this
    exact ⟨this.1.1, this.1.2, this.2.1, this.2.2⟩
  · have hl := (List.getElem?_eq_some_iff.1 hk).1
    have := h6 k (by omega) (by omega)
    unfold badLen at this
    rw [hk] at this
    simp only [Bool.or_eq_false_iff] at this
    exact this.1
  · have hl := (List.getElem?_eq_some_iff.1 hy).1
    have := h6 (k + 1) (by omega) (by omega)
    unfold badLen at this
    rw [hy] at this
    simp only [Bool.or_eq_false_iff, Nat.add_sub_cancel, hx] at this
    simpa using this.2
theorem VF.pl_in {f : TFramework} (h : VF f) {v : Int} (h0 : 0 ≤ v) (h1 : v < f.Graph.Points) : idx f.Places v = some (plAt f v) := idx_in _ h0 (by have := h.pls; omega)
theorem VF.pl_grid {f : TFramework} (h : VF f) {v : Int} (h0 : 0 ≤ v) (h1 : v < f.Graph.Points) : 0 ≤ (plAt f v).X ∧ (plAt f v).X ≤ 4 ∧ 0 ≤ (plAt f v).Y ∧ (plAt f v).Y ≤ 4 := by
  have hp := h.pls
  have hl : v.toNat < f.Places.length := by omega
  have e : f.Places[v.toNat]? = some (plAt f v) := by unfold plAt; rw [List.getElem?_eq_getElem hl]; rfl
  exact h.grid e
theorem w64_add3 {a b c d : Int} (h1 : 0 ≤ a ∧ a ≤ 4) (h2 : 0 ≤ b ∧ b ≤ 4) (h3 : 0 ≤ c ∧ c ≤ 4) (h4 : 0 ≤ d ∧ d ≤ 4) : w64 (w64 (w64 (a - b) * w64 (a - b)) + w64 (w64 (c - d) * w64 (c - d))) = (a - b) * (a - b) + (c - d) * (c - d) := by
  have sq : ∀ x y : Int, 0 ≤ x ∧ x ≤ 4 → 0 ≤ y ∧ y ≤ 4 → 0 ≤ (x - y) * (x - y) ∧ (x - y) * (x - y) ≤ 16 := fun x y hx hy => by
    have hz : ∀ z : Int, -4 ≤ z → z ≤ 4 → 0 ≤ z * z ∧ z * z ≤ 16 := fun z h1 h2 => by
      have : z = -4 ∨ z = -3 ∨ z = -2 ∨ z = -1 ∨ z = 0 ∨ z = 1 ∨ z = 2 ∨ z = 3 ∨ z = 4 := by omega
      rcases this with h | h | h | h | h | h | h | h | h <;> subst h <;> decide
    exact hz _ (by omega) (by omega)
  have a1 := sq a b h1 h2
  have a2 := sq c d h3 h4
  rw [w64_small (n := a - b) (by omega) (by omega), w64_small (n := c - d) (by omega) (by omega), w64_small (n := (a - b) * (a - b)) (by omega) (by omega), w64_small (n := (c - d) * (c - d)) (by omega) (by omega), w64_small (by omega) (by omega)]
def sqd (p q : TPlace) : Int := (p.X - q.X) * (p.X - q.X) + (p.Y - q.Y) * (p.Y - q.Y)
theorem square_eq {f : TFramework} (h : VF f) {a b : Int} (a0 : 0 ≤ a) (a1 : a < f.Graph.Points) (b0 : 0 ≤ b) (b1 : b < f.Graph.Points) : m_impl_Framework_square f a b = some (sqd (plAt f a) (plAt f b)) := by
  have ga := h.pl_grid a0 a1
  have gb := h.pl_grid b0 b1
  unfold m_impl_Framework_square sqd
  simp only [h.pl_in a0 a1, h.pl_in b0 b1, Option.bind_some]
  rw [w64_add3 ⟨ga.1, ga.2.1⟩ ⟨gb.1, gb.2.1⟩ ⟨ga.2.2.1, ga.2.2.2⟩ ⟨gb.2.2.1, gb.2.2.2⟩]
def pairRow (f : TFramework) (a : Nat) : List Int := pieces (fun j => [sqd (plAt f a) (plAt f ((a + 1 + j : Nat) : Int))]) (f.Places.length - (a + 1))
theorem pairRow_len (f : TFramework) (a : Nat) : (pairRow f a).length ≤ f.Places.length := by
  have := pieces_len (f := fun j => [sqd (plAt f a) (plAt f ((a + 1 + j : Nat) : Int))]) (c := 1) (f.Places.length - (a + 1)) (fun k _ => by simp)
  unfold pairRow
  omega
def pairs (f : TFramework) : List Int := pieces (pairRow f) f.Places.length
theorem VF.small {f : TFramework} (h : VF f) : f.Places.length ≤ 6 := by have := h.pls; have := h.p6; omega
theorem pairsI_eq {f : TFramework} (h : VF f) : loopM (m_impl_PairDistances_L3 f) BIG (0, []) = some (pairs f) := by
  have hs := h.small
  have hp := h.pls
  have := app_loop (b := m_impl_PairDistances_L3 f) (s := (0, [])) (fun k out => ((k : Int), out)) (pairRow f) id 6 f.Places.length [] (by omega) rfl (fun k hk => by have := pairRow_len f k; omega) (fun k out hk ho => by
    simp only [List.length_nil, Nat.zero_add] at ho
    have e := app_loop (b := m_impl_PairDistances_L4 f ((k : Int), out)) (s := (w64 ((k : Int) + 1), out)) (fun j o => (((k + 1 + j : Nat) : Int), o)) (fun j => [sqd (plAt f k) (plAt f ((k + 1 + j : Nat) : Int))]) (fun o => ((k : Int), o)) 1 (f.Places.length - (k + 1)) out (by omega) (by rw [w64_succ (by omega)]) (fun _ _ => by simp)
      (fun j o hj ho2 => by
        unfold m_impl_PairDistances_L4
        simp only [square_eq h (a := (k : Int)) (b := ((k + 1 + j : Nat) : Int)) (by omega) (by omega) (by omega) (by omega), Option.bind_some]
        rw [decide_eq_true (by omega), cond_true, lim_ok (by simp; omega), Option.bind_some, w64_succ (by omega)]
        rfl)
      (fun o => by
        unfold m_impl_PairDistances_L4
        simp only
        rw [decide_eq_false (by omega)]
        rfl)
    unfold m_impl_PairDistances_L3
    simp only [e, Option.bind_some]
    rw [decide_eq_true (by omega), cond_true, w64_succ (by omega)]
    rfl) (fun out => by simp [m_impl_PairDistances_L3])
  rw [this]
  rfl
theorem pairsS_eq {f : TFramework} (h : VF f) (hv : vF f = true) : loopM (m_spec_PairDistances_L3 f) BIG (0, []) = some (pairs f) := by
  have hs := h.small
  have hp := h.pls
  have hb := h.len
  have := app_loop (b := m_spec_PairDistances_L3 f) (s := (0, [])) (fun k out => ((k : Int), out)) (pairRow f) id 6 f.Places.length [] (by omega) rfl (fun k hk => by have := pairRow_len f k; omega) (fun k out hk ho => by
    simp only [List.length_nil, Nat.zero_add] at ho
    have e := app_loop (b := m_spec_PairDistances_L4 f ((k : Int), out)) (s := (w64 ((k : Int) + 1), out)) (fun j o => (((k + 1 + j : Nat) : Int), o)) (fun j => [sqd (plAt f k) (plAt f ((k + 1 + j : Nat) : Int))]) (fun o => ((k : Int), o)) 1 (f.Places.length - (k + 1)) out (by omega) (by rw [w64_succ (by omega)]) (fun _ _ => by simp)
      (fun j o hj ho2 => by
        have ga := h.pl_grid (v := (k : Int)) (by omega) (by omega)
        have gb := h.pl_grid (v := ((k + 1 + j : Nat) : Int)) (by omega) (by omega)
        unfold m_spec_PairDistances_L4 sqd
        simp only [h.pl_in (v := (k : Int)) (by omega) (by omega), h.pl_in (v := ((k + 1 + j : Nat) : Int)) (by omega) (by omega), Option.bind_some]
        rw [w64_add3 ⟨ga.1, ga.2.1⟩ ⟨gb.1, gb.2.1⟩ ⟨ga.2.2.1, ga.2.2.2⟩ ⟨gb.2.2.1, gb.2.2.2⟩]
        rw [decide_eq_true (by omega), cond_true, lim_ok (by simp; omega), Option.bind_some, w64_succ (by omega)]
        rfl)
      (fun o => by
        unfold m_spec_PairDistances_L4
        simp only
        rw [decide_eq_false (by omega)]
        rfl)
    unfold m_spec_PairDistances_L3
    simp only [e, isFS_eq f (by omega) (by omega), hv, Option.bind_some]
    rw [decide_eq_true (by omega), cond_true, w64_succ (by omega)]
    rfl) (fun out => by simp [m_spec_PairDistances_L3])
  rw [this]
  rfl
theorem pairs_len {f : TFramework} (h : VF f) : (pairs f).length ≤ 36 := by
  have hs := h.small
  have := pieces_len (f := pairRow f) (c := 6) f.Places.length (fun k _ => by have := pairRow_len f k; omega)
  unfold pairs
  omega
def pairsOf (f : TFramework) : List Int := bif vF f then pairs f else []
theorem pairsOf_len (f : TFramework) : SM (pairsOf f).length := by
  unfold pairsOf
  cases h : vF f
  · exact Nat.zero_le _
  · have := pairs_len (vF_VF h)
    show SM (pairs f).length
    omega
theorem pairDI_eq (f : TFramework) (h : SM f.Graph.Bars.length) (h2 : SM f.Places.length) : m_impl_PairDistances f = some (pairsOf f) := by
  unfold m_impl_PairDistances pairsOf
  rw [isFI_eq f h h2]
  cases hv : vF f
  · rfl
  · simp only [Option.bind_some, Bool.not_true, cond_false, pairsI_eq (vF_VF hv), cond_true]
theorem pairDS_eq (f : TFramework) (h : SM f.Graph.Bars.length) (h2 : SM f.Places.length) : m_spec_PairDistances f = some (pairsOf f) := by
  unfold m_spec_PairDistances pairsOf
  cases hv : vF f
  · have e : loopM (m_spec_PairDistances_L3 f) BIG (0, []) = some [] := by
      refine loopM_run (fun _ => (0, [])) 0 (by omega) rfl (fun k hk => by omega) ?_
      unfold m_spec_PairDistances_L3
      rw [isFS_eq f h h2, hv]
      cases decide ((0 : Int) < (f.Places.length : Int)) <;> rfl
    rw [e]
    rfl
  · rw [pairsS_eq (vF_VF hv) hv]
    rfl
theorem eqLoop {b : Int → Option (Int ⊕ (Unit ⊕ Bool))} (a c : List Int) (ha : SM a.length) (hl : a.length = c.length) (h : ∀ (k : Nat) x y, k < a.length → a[k]? = some x → c[k]? = some y → b k = bif x != y then some (.inr (.inr false)) else some (.inl (w64 ((k : Int) + 1)))) (hr : b a.length = some (.inr (.inl ()))) :
    ((loopM b BIG 0).bind (Sum.elim (fun _ => some true) (fun r => some r))) = some (decide (a = c)) := by
  have e := any_loop0 (b := b) (fun k => match a[k]?, c[k]? with | some x, some y => x != y | _, _ => false) false a.length (by omega) (fun k hk => by
    rw [h k a[k] (c[k]'(by omega)) hk (List.getElem?_eq_getElem hk) (List.getElem?_eq_getElem (by omega)), List.getElem?_eq_getElem hk, List.getElem?_eq_getElem (by omega)]) hr
  rw [e]
  by_cases hac : a = c
  · subst hac
    rw [any_range_false.2 (fun k _ hk => by rw [List.getElem?_eq_getElem (by omega)]; simp)]
    simp
  · rw [decide_eq_false hac]
    have : (List.range' 0 a.length).any (fun k => match a[k]?, c[k]? with | some x, some y => x != y | _, _ => false) = true := by
      cases hq : (List.range' 0 a.length).any (fun k => match a[k]?, c[k]? with | some x, some y => x != y | _, _ => false)
      · rw [any_range_false] at hq
        refine absurd (List.ext_getElem hl fun k h1 h2 => ?_) hac
        have := hq k (by omega) (by omega)
        rw [List.getElem?_eq_getElem h1, List.getElem?_eq_getElem h2] at this
        simpa using this
      · rfl
    rw [this]
    rfl
theorem l6Same_eq (a b : List Int) (ha : SM a.length) : m_spec_l6Same a b = some (decide (a = b)) := by
  unfold m_spec_l6Same
  by_cases hl : a.length = b.length
  · rw [bne_int.2 (by rw [hl]), cond_false]
    refine eqLoop a b ha hl (fun k x y hk hx hy => ?_) (by simp [m_spec_l6Same_L1])
    unfold m_spec_l6Same_L1
    rw [decide_eq_true (by omega), cond_true, idx_of hx, idx_of hy, Option.bind_some, Option.bind_some]
  · have h1 : ((a.length : Int) != (b.length : Int)) = true := by simp; omega
    rw [h1, decide_eq_false (fun h => hl (by rw [h]))]
    rfl
theorem sEqual_eq (a b : List Int) (ha : SM a.length) : m_slices_Equal a b = some (decide (a = b)) := by
  unfold m_slices_Equal
  by_cases hl : a.length = b.length
  · rw [bne_int.2 (by rw [hl]), cond_false]
    refine eqLoop a b ha hl (fun k x y hk hx hy => ?_) (by simp [m_slices_Equal_L1])
    unfold m_slices_Equal_L1
    rw [decide_eq_true (by omega), cond_true, idx_of hx, idx_of hy, Option.bind_some, Option.bind_some]
  · have h1 : ((a.length : Int) != (b.length : Int)) = true := by simp; omega
    rw [h1, decide_eq_false (fun h => hl (by rw [h]))]
    rfl
def congr2 (a b : TFramework) : Bool := vF a && (vF b && ((a.Graph.Points == b.Graph.Points) && decide (pairsOf a = pairsOf b)))
end Go.Proofs.Yteognanhfpbghaa
end
section
set_option linter.unusedVariables false
set_option linter.unusedSimpArgs false
set_option linter.unnecessarySimpa false
open Go Go.Fw
namespace Go.Proofs.Yteognanhfpbghaa
def nameStep (set : List Int) (k : Nat) (a : List Int × Nat) : List Int × Nat := bif hasI set k then (a.1 ++ [-1], a.2) else (a.1 ++ [(a.2 : Int)], a.2 + 1)
def names (set : List Int) (n : Nat) : List Int × Nat := iter (nameStep set) n ([], 0)
def nm (l : List Int) (v : Int) : Int := (l[v.toNat]?).getD 0
end Go.Proofs.Yteognanhfpbghaa
end
section
set_option linter.unusedVariables false
set_option linter.unusedSimpArgs false
set_option linter.unnecessarySimpa false
open Go Go.Fw
namespace Go.Proofs.Yteognanhfpbghaa
structure VV (f : TFramework) (v : List Int) : Prop where
  fr : VF f
  len : (v.length : Int) = 2 * f.Graph.Points
  sm : ∀ {k : Nat} {x : Int}, v[k]? = some x → -10000000000 ≤ x ∧ x ≤ 10000000000
def gv (v : List Int) (i : Int) : Int := (v[i.toNat]?).getD 0
theorem VV.lt {f : TFramework} {v : List Int} (h : VV f v) {i : Int} (h0 : 0 ≤ i) (h1 : i < 2 * f.Graph.Points) : -10000000000 ≤ gv v i ∧ gv v i ≤ 10000000000 := by
  have hl := h.len
  have hn : i.toNat < v.length := by omega
  refine h.sm (k := i.toNat) ?_
  unfold gv
  rw [List.getElem?_eq_getElem hn]
  rfl
def otherE (x : TBar) (v : Int) : Int := bif x.A == v then x.B else x.A
end Go.Proofs.Yteognanhfpbghaa
end
section
set_option linter.unusedVariables false
set_option linter.unusedSimpArgs false
set_option linter.unnecessarySimpa false
open Go Go.Fw
namespace Go.Proofs.Yteognanhfpbghaa
theorem loop_inv2 {σ σ' τ τ' : Type} {b : σ → Option (σ ⊕ τ)} {b' : σ' → Option (σ' ⊕ τ')} {s : σ} {s' : σ'} (I : Nat → σ → σ' → Prop) (Q : τ → τ' → Prop) (n : Nat) (hn : n ≤ 1099511627776) (h0 : I 0 s s')
    (h : ∀ k s s', k < n → I k s s' → (∃ t t', b s = some (.inl t) ∧ b' s' = some (.inl t') ∧ I (k + 1) t t') ∨ ∃ r r', b s = some (.inr r) ∧ b' s' = some (.inr r') ∧ Q r r')
    (hr : ∀ s s', I n s s' → ∃ r r', b s = some (.inr r) ∧ b' s' = some (.inr r') ∧ Q r r') : ∃ r r', loopM b BIG s = some r ∧ loopM b' BIG s' = some r' ∧ Q r r' := by
  have go : ∀ (j k f : Nat) (s : σ) (s' : σ'), k + j = n → j < f → I k s s' → ∃ r r', loopM b f s = some r ∧ loopM b' f s' = some r' ∧ Q r r' := by
    intro j
    induction j with
    | zero =>
      intro k f s s' hk hf hi
      obtain ⟨f, rfl⟩ : ∃ g, f = g + 1 := ⟨f - 1, by omega⟩
      have : k = n := by omega
      subst this
      obtain ⟨r, r', h1, h2, h3⟩ := hr s s' hi
      exact ⟨r, r', by unfold loopM; rw [h1], by unfold loopM; rw [h2], h3⟩
    | succ j ih =>
      intro k f s s' hk hf hi
      obtain ⟨f, rfl⟩ : ∃ g, f = g + 1 := ⟨f - 1, by omega⟩
      rcases h k s s' (by omega) hi with ⟨t, t', h1, h2, h3⟩ | ⟨r, r', h1, h2, h3⟩
      · obtain ⟨r, r', h4, h5, h6⟩ := ih (k + 1) f t t' (by omega) (by omega) h3
        exact ⟨r, r', by unfold loopM; rw [h1]; exact h4, by unfold loopM; rw [h2]; exact h5, h6⟩
      · exact ⟨r, r', by unfold loopM; rw [h1], by unfold loopM; rw [h2], h3⟩
  exact go n 0 BIG s s' (by omega) (BIG_gt hn) h0
structure GB (P : Int) (bars : List TBar) : Prop where
  p1 : 1 ≤ P
  p8 : P ≤ 8
  len : bars.length ≤ 1000
  a0 : ∀ {k : Nat} {x : TBar}, bars[k]? = some x → 0 ≤ x.A
  ab : ∀ {k : Nat} {x : TBar}, bars[k]? = some x → x.A ≠ x.B
  b0 : ∀ {k : Nat} {x : TBar}, bars[k]? = some x → 0 ≤ x.B
  ap : ∀ {k : Nat} {x : TBar}, bars[k]? = some x → x.A < P
  bp : ∀ {k : Nat} {x : TBar}, bars[k]? = some x → x.B < P
theorem VG.gb {g : TGraph} (h : VG g) : GB g.Points g.Bars :=
  ⟨h.p1, h.p8, by have := h.len; omega, h.a0, fun hx => by have := h.ab hx; omega, fun hx => by have := h.a0 hx; have := h.ab hx; omega, fun hx => by have := h.ab hx; have := h.bp hx; omega, h.bp⟩
def pbar (bars : List TBar) (p : TPebbles) (i : Nat) : TBar := ((p.Placed[i]?).bind fun e => bars[e.toNat]?).getD ⟨0, 0⟩
structure PB (P : Int) (bars : List TBar) (k : Int) (m : Nat) (p : TPebbles) : Prop where
  k1 : 1 ≤ k
  k3 : k ≤ 3
  fl : (p.Free.length : Int) = P
  tl : p.Tails.length = p.Placed.length
  pl : p.Placed.length ≤ m
  pr : ∀ {i : Nat} {e : Int}, p.Placed[i]? = some e → 0 ≤ e ∧ e < (bars.length : Int) ∧ e < (m : Int)
  inc : ∀ {i : Nat} {e e' : Int}, p.Placed[i]? = some e → p.Placed[i + 1]? = some e' → e < e'
  ends : ∀ {i : Nat} {t : Int}, p.Tails[i]? = some t → t = (pbar bars p i).A ∨ t = (pbar bars p i).B
  fr : ∀ {v : Nat} {f : Int}, p.Free[v]? = some f → 0 ≤ f ∧ f + (p.Tails.count (v : Int) : Int) = k
section
variable {P : Int} {bars : List TBar} {k : Int} {m : Nat} {p : TPebbles}
theorem PB.bar (hg : GB P bars) (h : PB P bars k m p) {i : Nat} (hi : i < p.Placed.length) : ∃ e, p.Placed[i]? = some e ∧ idx bars e = some (pbar bars p i) ∧ bars[e.toNat]? = some (pbar bars p i) := by
  have h1 := List.getElem?_eq_getElem hi
  obtain ⟨e0, e1, _⟩ := h.pr h1
  refine ⟨_, h1, ?_⟩
  have h2 : bars[p.Placed[i].toNat]? = some (pbar bars p i) := by
    unfold pbar
    rw [h1]
    simp only [Option.bind_some]
    rw [List.getElem?_eq_getElem (by omega)]
    rfl
  refine ⟨?_, h2⟩
  unfold idx
  rw [if_pos e0, h2]
theorem PB.pbar_ok (hg : GB P bars) (h : PB P bars k m p) {i : Nat} (hi : i < p.Placed.length) : 0 ≤ (pbar bars p i).A ∧ 0 ≤ (pbar bars p i).B ∧ (pbar bars p i).A ≠ (pbar bars p i).B ∧ (pbar bars p i).A < P ∧ (pbar bars p i).B < P := by
  obtain ⟨e, _, _, h2⟩ := h.bar hg hi
  exact ⟨hg.a0 h2, hg.b0 h2, hg.ab h2, hg.ap h2, hg.bp h2⟩
theorem other_S (x : TBar) (v : Int) (hp : P ≤ 8) (h : 0 ≤ x.A ∧ 0 ≤ x.B ∧ x.A ≠ x.B ∧ x.A < P ∧ x.B < P) (hv : v = x.A ∨ v = x.B) : m_spec_l4Other x v = some (otherE x v) := by
  unfold m_spec_l4Other otherE
  rw [w64_small (n := x.A + x.B) (by omega) (by omega)]
  rcases hv with rfl | rfl
  · rw [w64_small (by omega) (by omega), beq_self_eq_true, cond_true]
    congr 1
    omega
  · have : (x.A == x.B) = false := by simp; exact h.2.2.1
    rw [w64_small (by omega) (by omega), this, cond_false]
    congr 1
    omega
theorem other_I (x : TBar) (v : Int) : m_impl_Bar_other x v = some (otherE x v) := by
  unfold m_impl_Bar_other otherE
  cases x.A == v <;> rfl
theorem other_ok {x : TBar} {v : Int} (h : 0 ≤ x.A ∧ 0 ≤ x.B ∧ x.A ≠ x.B ∧ x.A < P ∧ x.B < P) (hv : v = x.A ∨ v = x.B) : 0 ≤ otherE x v ∧ otherE x v < P ∧ otherE x v ≠ v ∧ (otherE x v = x.A ∨ otherE x v = x.B) ∧ otherE x (otherE x v) = v := by
  unfold otherE
  rcases hv with rfl | rfl
  · have e : (x.A == x.B) = false := by simp; exact h.2.2.1
    simp only [beq_self_eq_true, cond_true, e, cond_false]
    exact ⟨by omega, by omega, by omega, .inr trivial, trivial⟩
  · have e : (x.A == x.B) = false := by simp; exact h.2.2.1
    simp only [e, cond_false, beq_self_eq_true, cond_true]
    exact ⟨by omega, by omega, by omega, .inl trivial, trivial⟩
theorem mget_put (m : List (Int × Int)) (k v j : Int) : mget (mput m k v) j = if j = k then v else mget m j := by
  induction m with
  | nil =>
    simp only [mput, mget]
    by_cases h : j = k
    · simp [h]
    · have : (j == k) = false := by simp [h]
      simp [h, this]
  | cons e r ih =>
    unfold mput
    cases hk : k == e.1 with
    | true =>
      rw [beq_iff_eq] at hk
      simp only [cond_true, mget]
      by_cases h : j = k
      · simp [h]
      · have h1 : (j == k) = false := by simp [h]
        have h2 : (j == e.1) = false := by simp [← hk, h]
        simp [h, h1, h2]
    | false =>
      simp only [cond_false, mget, ih]
      by_cases h : j = e.1
      · have h1 : ¬ j = k := fun h2 => by
          rw [← h2, h] at hk
          simp at hk
        simp [h, h1]
        intro h3
        exact absurd (h.trans h3) h1
      · have h1 : (j == e.1) = false := by simp [h]
        simp [h1]
theorem mhas_put (m : List (Int × Int)) (k v j : Int) : mhas (mput m k v) j = (decide (j = k) || mhas m j) := by
  induction m with
  | nil =>
    simp only [mput, mhas]
    by_cases h : j = k
    · simp [h]
    · have : (j == k) = false := by simp [h]
      simp [h, this]
  | cons e r ih =>
    unfold mput
    cases hk : k == e.1 with
    | true =>
      rw [beq_iff_eq] at hk
      simp only [cond_true, mhas]
      by_cases h : j = k
      · simp [h]
      · have h1 : (j == k) = false := by simp [h]
        have h2 : (j == e.1) = false := by simp [← hk, h]
        simp [h, h1, h2]
    | false =>
      simp only [cond_false, mhas, ih]
      cases hj : j == e.1 <;> simp
structure BF (P : Int) (bars : List TBar) (p : TPebbles) (a : Int) (q : List Int) (M : List (Int × Int)) (F : List Int) (S : List Bool) : Prop where
  first : q[0]? = some a
  nd : ∀ {i j : Nat} {v : Int}, q[i]? = some v → q[j]? = some v → i = j
  rng : ∀ {i : Nat} {v : Int}, q[i]? = some v → 0 ≤ v ∧ v < P
  sl : (S.length : Int) = P
  fl : (F.length : Int) = P
  cnt : q.length = S.count true
  seen : ∀ {v : Nat} {s : Bool}, S[v]? = some s → (s = true ↔ (v : Int) ∈ q)
  has : ∀ v : Int, mhas M v = true ↔ v ∈ q
  from_ : ∀ {v : Nat} {f : Int}, F[v]? = some f → (v : Int) ∈ q → f = mget M v
  way : ∀ {j : Nat} {v : Int}, 0 < j → q[j]? = some v → ∃ (i j' : Nat) (t : Int), mget M v = i ∧ i < p.Placed.length ∧ j' < j ∧ q[j']? = some t ∧ p.Tails[i]? = some t ∧ otherE (pbar bars p i) t = v
theorem BF.len {a : Int} {q : List Int} {M : List (Int × Int)} {F : List Int} {S : List Bool} (h : BF P bars p a q M F S) : (q.length : Int) ≤ P := by
  have := List.count_le_length (a := true) (l := S)
  have := h.cnt
  have := h.sl
  omega
theorem BF.more (hg : GB P bars) (hp : PB P bars k m p) {a : Int} {q : List Int} {M : List (Int × Int)} {F : List Int} {S : List Bool} (h : BF P bars p a q M F S) {i j : Nat} {t u : Int} (hi : i < p.Placed.length) (hj : q[j]? = some t) (ht : p.Tails[i]? = some t) (hu : otherE (pbar bars p i) t = u) (hn : u ∉ q) :
    BF P bars p a (q ++ [u]) (mput M u i) (F.set u.toNat i) (S.set u.toNat true) := by
  have hends := hp.ends ht
  obtain ⟨u0, u1, _, _, _⟩ := other_ok (hp.pbar_ok hg hi) hends
  rw [hu] at u0 u1
  have hjl := (List.getElem?_eq_some_iff.1 hj).1
  have hget : ∀ {r : Nat} {v : Int}, (q ++ [u])[r]? = some v → (r < q.length ∧ q[r]? = some v) ∨ (r = q.length ∧ v = u) := fun {r v} hr => by
    rw [List.getElem?_append] at hr
    split at hr
    · exact .inl ⟨by assumption, hr⟩
    · right
      have hrl : r - q.length = 0 := by
        rcases Nat.eq_zero_or_pos (r - q.length) with h0 | h0
        · exact h0
        · rw [List.getElem?_eq_none (by simp; omega)] at hr
          cases hr
      rw [hrl] at hr
      simp at hr
      exact ⟨by omega, hr.symm⟩
  have hmem : ∀ {r : Nat} {v : Int}, q[r]? = some v → v ∈ q := fun hr => List.mem_of_getElem? hr
  have hsl := h.sl
  have hsu : S[u.toNat]? = some (S[u.toNat]'(by omega)) := List.getElem?_eq_getElem (by omega)
  have hsf : S[u.toNat]'(by omega) = false := by
    cases hb : S[u.toNat]'(by omega) with
    | false => rfl
    | true =>
      rw [hb] at hsu
      have := (h.seen hsu).1 rfl
      rw [Int.toNat_of_nonneg u0] at this
      exact absurd this hn
  refine ⟨?_, ?_, ?_, by simpa using h.sl, by simpa using h.fl, ?_, ?_, ?_, ?_, ?_⟩
  · rw [List.getElem?_append_left (by omega)]
    exact h.first
  · intro r s v hr hs
    rcases hget hr with ⟨h1, h2⟩ | ⟨h1, h2⟩ <;> rcases hget hs with ⟨h3, h4⟩ | ⟨h3, h4⟩
    · exact h.nd h2 h4
    · subst h4; exact absurd (hmem h2) hn
    · subst h2; exact absurd (hmem h4) hn
    · omega
  · intro r v hr
    rcases hget hr with ⟨_, h2⟩ | ⟨_, rfl⟩
    · exact h.rng h2
    · exact ⟨u0, u1⟩
  · have := h.cnt
    rw [List.count_set (by omega), hsf, List.length_append]
    simp
    omega
  · intro v s hv
    rw [List.getElem?_set] at hv
    rw [List.mem_append, List.mem_singleton]
    by_cases huv : u.toNat = v
    · rw [if_pos huv] at hv
      split at hv
      · injection hv with hv
        subst hv
        simp only [true_iff]
        right
        omega
      · cases hv
    · rw [if_neg huv] at hv
      rw [h.seen hv]
      constructor
      · exact .inl
      · rintro (h1 | h1)
        · exact h1
        · omega
  · intro v
    rw [mhas_put, Bool.or_eq_true, decide_eq_true_eq, h.has, List.mem_append, List.mem_singleton]
    exact Or.comm
  · intro v f hv hq
    rw [List.getElem?_set] at hv
    rw [mget_put]
    by_cases huv : u.toNat = v
    · rw [if_pos huv] at hv
      rw [if_pos (by omega)]
      split at hv
      · injection hv with hv
        exact hv.symm
      · cases hv
    · rw [if_neg huv] at hv
      rw [if_neg (by omega)]
      refine h.from_ hv ?_
      rw [List.mem_append, List.mem_singleton] at hq
      rcases hq with h1 | h1
      · exact h1
      · omega
  · intro r v h0 hr
    rcases hget hr with ⟨h1, h2⟩ | ⟨h1, rfl⟩
    · obtain ⟨i', j', t', w1, w2, w3, w4, w5, w6⟩ := h.way h0 h2
      have hvu : v ≠ u := fun e => hn (e ▸ hmem h2)
      exact ⟨i', j', t', by rw [mget_put, if_neg hvu]; exact w1, w2, w3, by rw [List.getElem?_append_left (List.getElem?_eq_some_iff.1 w4).1]; exact w4, w5, w6⟩
    · exact ⟨i, j, t, by rw [mget_put, if_pos rfl], hi, by omega, by rw [List.getElem?_append_left hjl]; exact hj, ht, hu⟩
theorem BF.start (hg : GB P bars) {a : Int} (a0 : 0 ≤ a) (a1 : a < P) {F : List Int} (hf : (F.length : Int) = P) (hF : ∀ {v : Nat} {f : Int}, F[v]? = some f → f = -1) : BF P bars p a [a] (mput [] a (-1)) F ((List.replicate P.toNat false).set a.toNat true) := by
  have hp1 := hg.p1
  have hget : ∀ {r : Nat} {v : Int}, ([a] : List Int)[r]? = some v → r = 0 ∧ v = a := fun {r v} hr => by
    cases r with
    | zero => simp at hr; exact ⟨rfl, hr.symm⟩
    | succ r => simp at hr
  refine ⟨rfl, fun h1 h2 => by rw [(hget h1).1, (hget h2).1], fun hr => by obtain ⟨_, rfl⟩ := hget hr; exact ⟨a0, a1⟩, by simp; omega, hf, ?_, ?_, ?_, ?_, ?_⟩
  · rw [List.count_set (by simp; omega), List.getElem_replicate]
    simp [List.count_replicate]
  · intro v s hv
    rw [List.mem_singleton]
    rw [List.getElem?_set] at hv
    by_cases hav : a.toNat = v
    · rw [if_pos hav] at hv
      split at hv
      · injection hv with hv
        subst hv
        simp only [true_iff]
        omega
      · cases hv
    · rw [if_neg hav, List.getElem?_replicate] at hv
      split at hv
      · injection hv with hv
        subst hv
        simp
        omega
      · cases hv
  · intro v
    rw [mhas_put, List.mem_singleton]
    simp [mhas]
  · intro v f hv hq
    rw [List.mem_singleton] at hq
    rw [mget_put, if_pos hq]
    exact hF hv
  · intro j v h0 hr
    have := (hget hr).1
    omega
theorem set_get {α : Type} {l : List α} {i j : Nat} {x y : α} (h : (l.set i x)[j]? = some y) : (i = j ∧ y = x) ∨ (i ≠ j ∧ l[j]? = some y) := by
  rw [List.getElem?_set] at h
  by_cases hij : i = j
  · rw [if_pos hij] at h
    split at h
    · injection h with h
      exact .inl ⟨hij, h.symm⟩
    · cases h
  · rw [if_neg hij] at h
    exact .inr ⟨hij, h⟩
structure TW (p : TPebbles) (bars : List TBar) (q : List Int) (M : List (Int × Int)) (u : Int) (j : Nat) (at_ : Int) (T : List Int) : Prop where
  atj : q[j]? = some at_
  tl : T.length = p.Tails.length
  keep : ∀ {r : Nat} {v : Int}, r ≤ j → 0 < r → q[r]? = some v → T[(mget M v).toNat]? = p.Tails[(mget M v).toNat]?
  ends : ∀ {i : Nat} {t : Int}, T[i]? = some t → t = (pbar bars p i).A ∨ t = (pbar bars p i).B
  cnt : ∀ v : Int, (T.count v : Int) = p.Tails.count v + (if v = u then 1 else 0) - (if v = at_ then 1 else 0)
theorem TW.step (hg : GB P bars) (hp : PB P bars k m p) {a : Int} {q : List Int} {M : List (Int × Int)} {F : List Int} {S : List Bool} (h : BF P bars p a q M F S) {u at_ : Int} {j : Nat} {T : List Int} (hT : TW p bars q M u j at_ T) (hne : at_ ≠ a) :
    ∃ (i j' : Nat) (t : Int), mget M at_ = i ∧ i < p.Placed.length ∧ j' < j ∧ T[i]? = some t ∧ otherE (pbar bars p i) at_ = t ∧ TW p bars q M u j' t (T.set i at_) := by
  have hj0 : 0 < j := by
    rcases Nat.eq_zero_or_pos j with h0 | h0
    · subst h0
      have := h.first.symm.trans hT.atj
      injection this with this
      exact absurd this.symm hne
    · exact h0
  obtain ⟨i, j', t, w1, w2, w3, w4, w5, w6⟩ := h.way hj0 hT.atj
  have hk := hT.keep (Nat.le_refl _) hj0 hT.atj
  rw [w1, Int.toNat_natCast, w5] at hk
  obtain ⟨_, _, o3, o4, o5⟩ := other_ok (hp.pbar_ok hg w2) (hp.ends w5)
  rw [w6] at o3 o4 o5
  have hil := (List.getElem?_eq_some_iff.1 hk).1
  have hig : T[i] = t := by
    rw [List.getElem?_eq_getElem hil] at hk
    injection hk
  refine ⟨i, j', t, w1, w2, w3, hk, o5, w4, by simpa using hT.tl, ?_, ?_, ?_⟩
  · intro r v hr h0 hq
    have hri : (mget M v).toNat ≠ i := fun e => by
      obtain ⟨i2, _, t2, x1, x2, _, _, x5, x6⟩ := h.way h0 hq
      rw [x1, Int.toNat_natCast] at e
      subst e
      rw [w5] at x5
      injection x5 with x5
      subst x5
      have : v = at_ := x6.symm.trans w6
      subst this
      have := h.nd hq hT.atj
      omega
    rw [List.getElem?_set, if_neg (Ne.symm hri)]
    exact hT.keep (by omega) h0 hq
  · intro i2 t2 h2
    rcases set_get h2 with ⟨rfl, rfl⟩ | ⟨_, h3⟩
    · exact o4
    · exact hT.ends h3
  · intro v
    rw [List.count_set hil, hig]
    have hc := hT.cnt v
    have hpos : t = v → 0 < T.count v := fun e => by
      subst e
      exact List.count_pos_iff.2 (List.mem_of_getElem? hk)
    by_cases h1 : v = t
    · subst h1
      have := hpos rfl
      have h3 : ¬ v = at_ := fun e => o3 e.symm
      have h4 : (at_ == v) = false := by simp; exact fun e => h3 e.symm
      simp only [beq_self_eq_true, if_true, h4, Bool.false_eq_true, if_false, if_neg h3] at hc ⊢
      omega
    · have h2 : (t == v) = false := by simp; exact fun e => h1 e.symm
      by_cases h3 : v = at_
      · subst h3
        simp only [h2, Bool.false_eq_true, if_false, beq_self_eq_true, if_true, if_neg h1] at hc ⊢
        omega
      · have h4 : (at_ == v) = false := by simp; exact fun e => h3 e.symm
        simp only [h2, h4, Bool.false_eq_true, if_false, if_neg h1, if_neg h3] at hc ⊢
        omega
theorem turn_both (hg : GB P bars) (hp : PB P bars k m p) {g : TGraph} (hgp : g.Points = P) (hgb : g.Bars = bars) {a : Int} {q : List Int} {M : List (Int × Int)} {F : List Int} {S : List Bool} (h : BF P bars p a q M F S) {u : Int} {j : Nat} (hu : q[j]? = some u) (r1 : TPebbles) (x2 x4 : Int) (s1 : Int × List (Int × Int) × List Int) (hM : mput s1.2.1 u s1.1 = M) :
    ∃ T, loopM (m_spec_l4Shift_L1 g p F a u r1 x2 x4) BIG (u, p.Tails) = some (((r1.Free.set u.toNat (w64 (x2 - 1))).set a.toNat (w64 (x4 + 1))), T, r1.Placed) ∧
      loopM (m_impl_moveTo_L11 p a s1 u x2 x4) BIG (u, p.Tails) = some (((p.Free.set u.toNat (w64 (x2 - 1))).set a.toNat (w64 (x4 + 1))), T) ∧ TW p bars q M u 0 a T := by
  have hql := h.len
  have h8 := hg.p8
  have hjl := (List.getElem?_eq_some_iff.1 hu).1
  obtain ⟨r, r', e1, e2, T, rfl, rfl, hT⟩ := loop_inv2 (b := m_spec_l4Shift_L1 g p F a u r1 x2 x4) (b' := m_impl_moveTo_L11 p a s1 u x2 x4) (s := (u, p.Tails)) (s' := (u, p.Tails))
    (fun n s s' => ∃ (j' : Nat) (at_ : Int) (T : List Int), s = (at_, T) ∧ s' = (at_, T) ∧ j' + n ≤ j ∧ TW p bars q M u j' at_ T)
    (fun r r' => ∃ T, r = (((r1.Free.set u.toNat (w64 (x2 - 1))).set a.toNat (w64 (x4 + 1))), T, r1.Placed) ∧ r' = (((p.Free.set u.toNat (w64 (x2 - 1))).set a.toNat (w64 (x4 + 1))), T) ∧ TW p bars q M u 0 a T) (j + 1) (by omega)
    ⟨j, u, p.Tails, rfl, rfl, by omega, hu, rfl, fun _ _ _ => rfl, hp.ends, fun v => by omega⟩ (fun n s s' hn hs => by
      obtain ⟨j', at_, T, rfl, rfl, hj', hT⟩ := hs
      by_cases hat : at_ = a
      · subst hat
        have hj0 : j' = 0 := h.nd hT.atj h.first
        subst hj0
        refine .inr ⟨_, _, ?_, ?_, T, rfl, rfl, hT⟩
        · unfold m_spec_l4Shift_L1
          simp
        · unfold m_impl_moveTo_L11
          simp
      · obtain ⟨i, j2, t, w1, w2, w3, w4, w5, w6⟩ := hT.step hg hp h hat
        have hb : (at_ != a) = true := by simp; exact hat
        obtain ⟨e, hpe, hbe, hbe2⟩ := hp.bar hg w2
        have hpi : idx p.Placed (i : Int) = some e := idx_of hpe
        have hrng := h.rng hT.atj
        have hFl := h.fl
        have hFat : idx F at_ = some (i : Int) := by
          have hl : F[at_.toNat]? = some (F[at_.toNat]'(by omega)) := List.getElem?_eq_getElem (by omega)
          have := h.from_ hl (by rw [Int.toNat_of_nonneg hrng.1]; exact List.mem_of_getElem? hT.atj)
          rw [Int.toNat_of_nonneg hrng.1, w1] at this
          unfold idx
          rw [if_pos hrng.1, hl, this]
        have hTi : idx T (i : Int) = some t := idx_of w4
        refine .inl ⟨(t, T.set i at_), (t, T.set i at_), ?_, ?_, j2, t, T.set i at_, rfl, rfl, by omega, w6⟩
        · have ho : m_spec_l4Other (pbar bars p i) at_ = some t := by
            rw [other_S (P := P) _ _ h8 (hp.pbar_ok hg w2) ?_, w5]
            obtain ⟨_, _, _, o4, _⟩ := other_ok (hp.pbar_ok hg w2) (hT.ends w4)
            have hte := hT.ends w4
            unfold otherE at w5
            by_cases hA : (pbar bars p i).A = at_
            · exact .inl hA.symm
            · have : ((pbar bars p i).A == at_) = false := by simp [hA]
              rw [this, cond_false] at w5
              -- the other end of at_ is A: at_ is B
              obtain ⟨i3, _, t3, z1, z2, _, _, z5, z6⟩ := h.way (j := j') (by
                rcases Nat.eq_zero_or_pos j' with h0 | h0
                · subst h0
                  have := h.first.symm.trans hT.atj
                  injection this with this
                  exact absurd this.symm hat
                · exact h0) hT.atj
              rw [w1] at z1
              have : i3 = i := by omega
              subst this
              obtain ⟨_, _, _, o4', _⟩ := other_ok (hp.pbar_ok hg z2) (hp.ends z5)
              rw [z6] at o4'
              exact o4'
          unfold m_spec_l4Shift_L1
          simp only [hb, cond_true, hFat, hpi, hgb, hbe, ho, hTi, Option.bind_some, Int.toNat_natCast]
        · unfold m_impl_moveTo_L11
          simp only [hb, cond_true, hM, w1, hTi, Option.bind_some, Int.toNat_natCast]) (fun s s' hs => by
      obtain ⟨j', at_, T, rfl, rfl, hj', hT⟩ := hs
      omega)
  exact ⟨T, e1, e2, hT⟩
theorem PB.moved (hg : GB P bars) (hp : PB P bars k m p) {q : List Int} {M : List (Int × Int)} {u a : Int} {T : List Int} {fu fa : Int} (hT : TW p bars q M u 0 a T) (u0 : 0 ≤ u) (a0 : 0 ≤ a) (hua : u ≠ a) (hfu : p.Free[u.toNat]? = some fu) (hfa : p.Free[a.toNat]? = some fa) (hpos : 0 < fu) :
    PB P bars k m ⟨(p.Free.set u.toNat (fu - 1)).set a.toNat (fa + 1), T, p.Placed⟩ := by
  refine ⟨hp.k1, hp.k3, by simpa using hp.fl, hT.tl.trans hp.tl, hp.pl, hp.pr, hp.inc, hT.ends, ?_⟩
  intro v f hv
  change 0 ≤ f ∧ f + (T.count (v : Int) : Int) = k
  have hc := hT.cnt (v : Int)
  rcases set_get hv with ⟨h1, rfl⟩ | ⟨h1, h2⟩
  · have hva : (v : Int) = a := by omega
    have hf := hp.fr hfa
    rw [Int.toNat_of_nonneg a0] at hf
    rw [hva, if_neg (Ne.symm hua), if_pos rfl] at hc
    rw [hva]
    omega
  · rcases set_get h2 with ⟨h3, rfl⟩ | ⟨h3, h4⟩
    · have hvu : (v : Int) = u := by omega
      have hf := hp.fr hfu
      rw [Int.toNat_of_nonneg u0] at hf
      rw [hvu, if_pos rfl, if_neg hua] at hc
      rw [hvu]
      omega
    · have hf := hp.fr h4
      rw [if_neg (show ¬ (v : Int) = u by omega), if_neg (show ¬ (v : Int) = a by omega)] at hc
      omega
end
end Go.Proofs.Yteognanhfpbghaa
end
section
set_option linter.unusedVariables false
set_option linter.unusedSimpArgs false
set_option linter.unnecessarySimpa false
open Go Go.Fw
namespace Go.Proofs.Yteognanhfpbghaa
section
variable {P : Int} {bars : List TBar} {k : Int} {m : Nat} {p : TPebbles}
theorem l4Copy_eq (hg : GB P bars) (hp : PB P bars k m p) (hm : m ≤ 1000) : m_spec_l4Copy p = some p := by
  have h1 := hp.fl
  have h2 := hp.tl
  have h3 := hp.pl
  have h8 := hg.p8
  unfold m_spec_l4Copy
  rw [lim_ok (by simp; omega), lim_ok (by simp; omega), lim_ok (by simp; omega)]
  rfl
theorem PB.free_in (hp : PB P bars k m p) {v : Int} (v0 : 0 ≤ v) (v1 : v < P) : ∃ f, p.Free[v.toNat]? = some f ∧ idx p.Free v = some f ∧ 0 ≤ f ∧ f ≤ k := by
  have h1 := hp.fl
  have h2 : p.Free[v.toNat]? = some (p.Free[v.toNat]'(by omega)) := List.getElem?_eq_getElem (by omega)
  have h3 := hp.fr h2
  refine ⟨_, h2, ?_, h3.1, by omega⟩
  unfold idx
  rw [if_pos v0, h2]
structure Moved (P : Int) (bars : List TBar) (k : Int) (m : Nat) (p : TPebbles) (a b : Int) (p' : TPebbles) : Prop where
  pb : PB P bars k m p'
  placed : p'.Placed = p.Placed
  fa : ∀ {f : Int}, p.Free[a.toNat]? = some f → p'.Free[a.toNat]? = some (f + 1)
  fb : p'.Free[b.toNat]? = p.Free[b.toNat]?
theorem fromInit {g : TGraph} (h0 : 0 ≤ g.Points) (h8 : g.Points ≤ 8) : loopM (m_spec_l4Find_L1 g) BIG (0, List.replicate g.Points.toNat 0) = some (List.replicate g.Points.toNat (-1)) := by
  refine loopM_run (fun n => ((n : Int), List.replicate n (-1) ++ List.replicate (g.Points.toNat - n) 0)) g.Points.toNat (by omega) (by simp) (fun n hn => ?_) ?_
  · have hs := set_repl (List.replicate n (-1 : Int)) 0 (-1) n g.Points.toNat (by simp) hn
    have hi : idx (List.replicate n (-1 : Int) ++ List.replicate (g.Points.toNat - n) 0) (n : Int) = some 0 := idx_of (by rw [List.getElem?_append_right (by simp), List.length_replicate, Nat.sub_self, List.getElem?_replicate, if_pos (by omega)])
    unfold m_spec_l4Find_L1
    simp only [hi, Option.bind_some, Int.toNat_natCast, hs, w64_succ (show n ≤ 1099511627776 by omega)]
    rw [decide_eq_true (by omega), cond_true, ← List.replicate_succ']
  · unfold m_spec_l4Find_L1
    simp only [Nat.sub_self, List.replicate_zero, List.append_nil]
    rw [decide_eq_false (by omega)]
    rfl
theorem shift_both (hg : GB P bars) (hp : PB P bars k m p) (hm : m ≤ 1000) {g : TGraph} (hgp : g.Points = P) (hgb : g.Bars = bars) {a b : Int} (a0 : 0 ≤ a) (a1 : a < P) {q : List Int} {M : List (Int × Int)} {F : List Int} {S : List Bool} {u : Int} {j : Nat} (s1 : Int × List (Int × Int) × List Int) (hM : mput s1.2.1 u s1.1 = M) (h : BF P bars p a q M F S) (hu : q[j]? = some u) (hua : u ≠ a) (hub : u ≠ b) (hab : a ≠ b) (b0 : 0 ≤ b)
    {fu : Int} (hfu : p.Free[u.toNat]? = some fu) (hpos : 0 < fu) :
    ∃ p' fa, idx p.Free a = some fa ∧ m_spec_l4Shift g p F a u = some p' ∧ loopM (m_impl_moveTo_L11 p a s1 u fu fa) BIG (u, p.Tails) = some (p'.Free, p'.Tails) ∧ p'.Placed = p.Placed ∧ Moved P bars k m p a b p' := by
  obtain ⟨u0, u1⟩ := h.rng hu
  obtain ⟨fa, hfa, hia, fa0, fak⟩ := hp.free_in a0 a1
  have k3 := hp.k3
  have hfk : fu ≤ k := by have := hp.fr hfu; omega
  have hiu : idx p.Free u = some fu := by unfold idx; rw [if_pos u0, hfu]
  obtain ⟨T, e1, e2, hT⟩ := turn_both hg hp hgp hgb h hu p fu fa s1 hM
  rw [w64_small (n := fu - 1) (by omega) (by omega), w64_small (n := fa + 1) (by omega) (by omega)] at e1 e2
  have hne : u.toNat ≠ a.toNat := by omega
  have hia2 : ∀ x : Int, idx (p.Free.set u.toNat x) a = some fa := fun x => by
    unfold idx
    rw [if_pos a0, List.getElem?_set, if_neg hne, hfa]
  refine ⟨⟨(p.Free.set u.toNat (fu - 1)).set a.toNat (fa + 1), T, p.Placed⟩, fa, hia, ?_, e2, rfl, ⟨hp.moved hg hT u0 a0 hua hfu hfa hpos, rfl, fun {f} hf => ?_, ?_⟩⟩
  · unfold m_spec_l4Shift
    rw [l4Copy_eq hg hp hm]
    simp only [hiu, Option.bind_some, hia2, e1, w64_small (n := fu - 1) (show -4611686018427387904 ≤ fu - 1 by omega) (by omega)]
  · rw [hfa] at hf
    injection hf with hf
    subst hf
    have hl := (List.getElem?_eq_some_iff.1 hfa).1
    rw [List.getElem?_set, if_pos rfl, if_pos (by simpa using hl)]
  · show ((p.Free.set u.toNat (fu - 1)).set a.toNat (fa + 1))[b.toNat]? = _
    rw [List.getElem?_set, if_neg (by omega), List.getElem?_set, if_neg (by omega)]
def ZO (p : TPebbles) (a b : Int) (q : List Int) : Prop := ∀ v ∈ q, v ≠ a → v ≠ b → p.Free[v.toNat]? = some 0
def CL (bars : List TBar) (p : TPebbles) (v : Int) (m : Nat) (q : List Int) : Prop := ∀ (i : Nat) (t : Int), i < m → p.Tails[i]? = some t → t = v → otherE (pbar bars p i) t ∈ q
theorem CL.more {v u : Int} {m : Nat} {q : List Int} (h : CL bars p v m q) : CL bars p v m (q ++ [u]) := fun i t h1 h2 h3 => List.mem_append_left _ (h i t h1 h2 h3)
theorem CL.step {v t : Int} {j : Nat} {q : List Int} (h : CL bars p v j q) (hT : p.Tails[j]? = some t) (hx : t = v → otherE (pbar bars p j) t ∈ q) : CL bars p v (j + 1) q := fun i s h1 h2 h3 => by
  by_cases hij : i = j
  · subst hij
    rw [hT] at h2
    injection h2 with h2
    subst h2
    exact hx h3
  · exact h i s (by omega) h2 h3
structure Reach (P : Int) (bars : List TBar) (p : TPebbles) (a b : Int) (q : List Int) : Prop where
  fst : a ∈ q
  rng : ∀ v ∈ q, 0 ≤ v ∧ v < P
  zero : ZO p a b q
  clo : ∀ (i : Nat) (t : Int), p.Tails[i]? = some t → t ∈ q → otherE (pbar bars p i) t ∈ q
theorem find_both (hg : GB P bars) (hp : PB P bars k m p) (hm : m ≤ 1000) {g : TGraph} (hgp : g.Points = P) (hgb : g.Bars = bars) {a b : Int} (a0 : 0 ≤ a) (a1 : a < P) (b0 : 0 ≤ b) (b1 : b < P) (hab : a ≠ b) :
    (m_spec_l4Find g p a b = some (p, false) ∧ m_impl_moveTo bars p a b = some (false, p) ∧ ∃ q, Reach P bars p a b q) ∨ ∃ p', m_spec_l4Find g p a b = some (p', true) ∧ m_impl_moveTo bars p a b = some (true, p') ∧ Moved P bars k m p a b p' := by
  have h8 := hg.p8
  have hp1 := hg.p1
  have hpl := hp.pl
  have hptl := hp.tl
  have hstart := BF.start (bars := bars) (p := p) hg a0 a1 (F := List.replicate P.toNat (-1)) (by simp; omega) (fun {v f} hv => by
    rw [List.getElem?_replicate] at hv
    split at hv
    · injection hv with hv; exact hv.symm
    · cases hv)
  -- what a round over the bars gives
  have roundB : ∀ (n : Nat) (v : Int) (q : List Int) (M : List (Int × Int)) (F : List Int) (S : List Bool), BF P bars p a q M F S → q[n]? = some v → ZO p a b q → (∀ r w, r < n → q[r]? = some w → CL bars p w p.Placed.length q) →
      ∃ r r', loopM (m_spec_l4Find_L5 g p a b ((n : Int), F, q, S) v) BIG (0, F, q, S) = some r ∧ loopM (m_impl_moveTo_L10 bars p a b ((n : Int), M, q)) BIG (0, M, q) = some r' ∧
        ((∃ q' M' F' S', r = .inl ((n : Int), F', q', S') ∧ r' = .inl ((n : Int), M', q') ∧ BF P bars p a q' M' F' S' ∧ n < q'.length ∧ ZO p a b q' ∧ (∀ r w, r < n + 1 → q'[r]? = some w → CL bars p w p.Placed.length q')) ∨ ∃ p', r = .inr (p', true) ∧ r' = .inr (true, p') ∧ Moved P bars k m p a b p') := by
    intro n v q M F S hB hv hz hc
    refine loop_inv2 (fun j s s' => ∃ q' M' F' S', s = ((j : Int), F', q', S') ∧ s' = ((j : Int), M', q') ∧ BF P bars p a q' M' F' S' ∧ q'[n]? = some v ∧ ZO p a b q' ∧ CL bars p v j q' ∧ (∀ r w, r < n → q'[r]? = some w → CL bars p w p.Placed.length q')) _ p.Placed.length (by omega) ⟨q, M, F, S, rfl, rfl, hB, hv, hz, (fun i _ h => by omega), hc⟩ (fun j s s' hj hs => ?_) (fun s s' hs => ?_)
    · obtain ⟨q, M, F, S, rfl, rfl, hB, hv, hz, hcv, hc⟩ := hs
      obtain ⟨e, hpe, hbe, hbe2⟩ := hp.bar hg hj
      have hok := hp.pbar_ok hg hj
      have hpi : idx p.Placed (j : Int) = some e := idx_of hpe
      have hT : p.Tails[j]? = some (p.Tails[j]'(by omega)) := List.getElem?_eq_getElem (by omega)
      generalize p.Tails[j]'(by omega) = t at hT
      have hTi : idx p.Tails (j : Int) = some t := idx_of hT
      have hqi : idx q (n : Int) = some v := idx_of hv
      by_cases htv : t = v
      · subst htv
        have hends := hp.ends hT
        obtain ⟨u0, u1, une, _, _⟩ := other_ok hok hends
        have hoS := other_S (P := P) (pbar bars p j) t h8 hok hends
        have hoI := other_I (pbar bars p j) t
        generalize hu : otherE (pbar bars p j) t = u at u0 u1 une hoS hoI
        have hsl := hB.sl
        have hfl := hB.fl
        have hSu : S[u.toNat]? = some (S[u.toNat]'(by omega)) := List.getElem?_eq_getElem (by omega)
        generalize S[u.toNat]'(by omega) = su at hSu
        have hSi : idx S u = some su := by unfold idx; rw [if_pos u0, hSu]
        have hseen := hB.seen hSu
        rw [Int.toNat_of_nonneg u0] at hseen
        have hhas := hB.has u
        cases su with
        | true =>
          have hm1 : mhas M u = true := hhas.2 (hseen.1 rfl)
          refine .inl ⟨(((j + 1 : Nat) : Int), F, q, S), (((j + 1 : Nat) : Int), M, q), ?_, ?_, q, M, F, S, rfl, rfl, hB, hv, hz, hcv.step hT (fun _ => by rw [hu]; exact hseen.1 rfl), hc⟩
          · unfold m_spec_l4Find_L5
            simp only [hTi, hpi, hgb, hbe, hoS, hSi, Option.bind_some, w64_succ (show j ≤ 1099511627776 by omega), bne_self_eq_false, cond_false, cond_true]
            rw [decide_eq_true (by omega), cond_true]
          · unfold m_impl_moveTo_L10
            simp only [hTi, hpi, hqi, hbe, hoI, hm1, Option.bind_some, w64_succ (show j ≤ 1099511627776 by omega), bne_self_eq_false, cond_false, cond_true]
            rw [decide_eq_true (by omega), cond_true]
        | false =>
          have hnq : u ∉ q := fun h => by have := hseen.2 h; cases this
          have hm1 : mhas M u = false := by
            cases hb : mhas M u with
            | false => rfl
            | true => exact absurd (hhas.1 hb) hnq
          have hB2 := hB.more hg hp hj hv hT hu hnq
          obtain ⟨fu, hfu, hiu, fu0, fuk⟩ := hp.free_in u0 u1
          have hua : u ≠ a := fun e => hnq (e ▸ List.mem_of_getElem? hB.first)
          have hFu : idx F u = some ((F[u.toNat]?).getD 0) := idx_in 0 u0 (by omega)
          have hlast : (q ++ [u])[q.length]? = some u := by rw [List.getElem?_append_right (Nat.le_refl _), Nat.sub_self]; rfl
          have hqn : (q ++ [u])[n]? = some t := by rw [List.getElem?_append_left (List.getElem?_eq_some_iff.1 hv).1]; exact hv
          have hql := hB2.len
          by_cases hfound : u ≠ b ∧ 0 < fu
          · obtain ⟨hub, hpos⟩ := hfound
            obtain ⟨p', fa, hia, es, ei, epl, hmv⟩ := shift_both hg hp hm hgp hgb a0 a1 ((j : Int), M, q) rfl hB2 hlast hua hub hab b0 hfu hpos
            have hne : u.toNat ≠ a.toNat := by omega
            have hia2 : ∀ x : Int, idx (p.Free.set u.toNat x) a = some fa := fun x => by
              unfold idx at hia ⊢
              rw [if_pos a0] at hia ⊢
              rw [List.getElem?_set, if_neg hne, hia]
            have k3 := hp.k3
            refine .inr ⟨.inr (p', true), .inr (true, p'), ?_, ?_, .inr ⟨p', rfl, rfl, hmv⟩⟩
            · unfold m_spec_l4Find_L5
              simp only [hTi, hpi, hgb, hbe, hoS, hSi, hFu, hiu, es, Option.bind_some, bne_self_eq_false, cond_false, show (u != b) = true by simp [hub], decide_eq_true hpos, cond_true]
              rw [decide_eq_true (by omega), cond_true]
            · unfold m_impl_moveTo_L10
              simp only [hTi, hpi, hqi, hbe, hoI, hm1, hiu, hia2, ei, Option.bind_some, bne_self_eq_false, cond_false, show (u == b) = false by simp [hub], show (fu == 0) = false by simp; omega]
              rw [decide_eq_true (by omega), cond_true, ← epl]
          · refine .inl ⟨(((j + 1 : Nat) : Int), F.set u.toNat j, q ++ [u], S.set u.toNat true), (((j + 1 : Nat) : Int), mput M u j, q ++ [u]), ?_, ?_, _, _, _, _, rfl, rfl, hB2, hqn, ?_, hcv.more.step hT (fun _ => by rw [hu]; exact List.mem_append_right _ (List.mem_singleton.2 rfl)), ?_⟩
            rotate_left 2
            · intro w hw hwa hwb
              rcases List.mem_append.1 hw with h1 | h1
              · exact hz w h1 hwa hwb
              · rw [List.mem_singleton] at h1
                subst h1
                rw [hfu]
                have : ¬ 0 < fu := fun h => hfound ⟨hwb, h⟩
                congr 1
                omega
            · intro r w hr hw
              rw [List.getElem?_append_left (by have := (List.getElem?_eq_some_iff.1 hv).1; omega)] at hw
              exact (hc r w hr hw).more
            · unfold m_spec_l4Find_L5
              simp only [hTi, hpi, hgb, hbe, hoS, hSi, hFu, hiu, Option.bind_some, bne_self_eq_false, cond_false, w64_succ (show j ≤ 1099511627776 by omega), lim_ok (show q.length + ([u] : List Int).length ≤ 2147483648 by simp at hql ⊢; omega)]
              rw [decide_eq_true (by omega), cond_true]
              by_cases hub : u = b
              · rw [show (u != b) = false by simp [hub]]
                rfl
              · have : ¬ 0 < fu := fun h => hfound ⟨hub, h⟩
                rw [show (u != b) = true by simp [hub], decide_eq_false this]
                rfl
            · unfold m_impl_moveTo_L10
              simp only [hTi, hpi, hqi, hbe, hoI, hm1, hiu, Option.bind_some, bne_self_eq_false, cond_false, w64_succ (show j ≤ 1099511627776 by omega), lim_ok (show q.length + ([u] : List Int).length ≤ 2147483648 by simp at hql ⊢; omega)]
              rw [decide_eq_true (by omega), cond_true]
              by_cases hub : u = b
              · rw [show (u == b) = true by simp [hub]]
                rfl
              · have : ¬ 0 < fu := fun h => hfound ⟨hub, h⟩
                rw [show (u == b) = false by simp [hub], show (fu == 0) = true by simp; omega]
                rfl
      · have hne : (t != v) = true := by simp; exact htv
        refine .inl ⟨(((j + 1 : Nat) : Int), F, q, S), (((j + 1 : Nat) : Int), M, q), ?_, ?_, q, M, F, S, rfl, rfl, hB, hv, hz, hcv.step hT (fun h => absurd h htv), hc⟩
        · unfold m_spec_l4Find_L5
          simp only [hTi, Option.bind_some, hne, cond_true, w64_succ (show j ≤ 1099511627776 by omega)]
          rw [decide_eq_true (by omega), cond_true]
        · unfold m_impl_moveTo_L10
          simp only [hTi, hpi, hqi, Option.bind_some, hne, cond_true, w64_succ (show j ≤ 1099511627776 by omega)]
          rw [decide_eq_true (by omega), cond_true]
    · obtain ⟨q, M, F, S, rfl, rfl, hB, hv, hz, hcv, hc⟩ := hs
      refine ⟨.inl ((n : Int), F, q, S), .inl ((n : Int), M, q), by simp [m_spec_l4Find_L5], by simp [m_impl_moveTo_L10], .inl ⟨q, M, F, S, rfl, rfl, hB, (List.getElem?_eq_some_iff.1 hv).1, hz, fun r w hr hw => ?_⟩⟩
      by_cases hrn : r = n
      · subst hrn
        rw [hv] at hw
        injection hw with hw
        subst hw
        exact hcv
      · exact hc r w (by omega) hw
  -- the rounds over the points met
  have outer : ∃ r r', loopM (m_spec_l4Find_L4 g p a b) BIG (0, List.replicate P.toNat (-1), [a], (List.replicate P.toNat false).set a.toNat true) = some r ∧ loopM (m_impl_moveTo_L7 bars p a b) BIG (0, mput [] a (-1), [a]) = some r' ∧
      ((r = .inl () ∧ r' = .inl () ∧ ∃ q, Reach P bars p a b q) ∨ ∃ p', r = .inr (p', true) ∧ r' = .inr (true, p') ∧ Moved P bars k m p a b p') := by
    refine loop_inv2 (fun n s s' => ∃ q M F S, s = ((n : Int), F, q, S) ∧ s' = ((n : Int), M, q) ∧ BF P bars p a q M F S ∧ n ≤ q.length ∧ ZO p a b q ∧ (∀ r w, r < n → q[r]? = some w → CL bars p w p.Placed.length q)) _ (P.toNat + 1) (by omega) ⟨[a], _, _, _, rfl, rfl, hstart, Nat.zero_le _, (fun v hv ha _ => absurd (List.mem_singleton.1 hv) ha), (fun r w h => by omega)⟩ (fun n s s' hn hs => ?_) (fun s s' hs => ?_)
    · obtain ⟨q, M, F, S, rfl, rfl, hB, hnl, hz, hc⟩ := hs
      have hql := hB.len
      by_cases hlt : n < q.length
      · have hv := List.getElem?_eq_getElem hlt
        obtain ⟨r, r', e1, e2, hr⟩ := roundB n q[n] q M F S hB hv hz hc
        rcases hr with ⟨q', M', F', S', rfl, rfl, hB', hn', hz', hc'⟩ | ⟨p', rfl, rfl, hmv⟩
        · refine .inl ⟨(((n + 1 : Nat) : Int), F', q', S'), (((n + 1 : Nat) : Int), M', q'), ?_, ?_, q', M', F', S', rfl, rfl, hB', hn', hz', hc'⟩
          · unfold m_spec_l4Find_L4
            simp only [idx_of hv, e1, Option.bind_some, Sum.elim_inl, w64_succ (show n ≤ 1099511627776 by omega)]
            rw [decide_eq_true (by omega), cond_true]
          · unfold m_impl_moveTo_L7
            simp only [e2, Option.bind_some, Sum.elim_inl, w64_succ (show n ≤ 1099511627776 by omega)]
            rw [decide_eq_true (by omega), cond_true]
        · refine .inr ⟨.inr (p', true), .inr (true, p'), ?_, ?_, .inr ⟨p', rfl, rfl, hmv⟩⟩
          · unfold m_spec_l4Find_L4
            simp only [idx_of hv, e1, Option.bind_some, Sum.elim_inr]
            rw [decide_eq_true (by omega), cond_true]
          · unfold m_impl_moveTo_L7
            simp only [e2, Option.bind_some, Sum.elim_inr]
            rw [decide_eq_true (by omega), cond_true]
      · refine .inr ⟨.inl (), .inl (), ?_, ?_, .inl ⟨rfl, rfl, q, List.mem_of_getElem? hB.first, fun v hv => ?_, hz, fun i t ht htq => ?_⟩⟩
        rotate_left 2
        · obtain ⟨r, hr⟩ := List.getElem?_of_mem hv
          exact hB.rng hr
        · obtain ⟨r, hr⟩ := List.getElem?_of_mem htq
          have hrl := (List.getElem?_eq_some_iff.1 hr).1
          have hil := (List.getElem?_eq_some_iff.1 ht).1
          exact hc r t (by omega) hr i t (by omega) ht rfl
        · unfold m_spec_l4Find_L4
          simp only
          rw [decide_eq_false (by omega), cond_false]
        · unfold m_impl_moveTo_L7
          simp only
          rw [decide_eq_false (by omega), cond_false]
    · obtain ⟨q, M, F, S, rfl, rfl, hB, hnl, _, _⟩ := hs
      have hql := hB.len
      omega
  obtain ⟨r, r', e1, e2, hr⟩ := outer
  have hS : m_spec_l4Find g p a b = Sum.elim (fun _ => some (p, false)) (fun r => some r) r := by
    have hra : idx (List.replicate P.toNat false) a = some false := by
      unfold idx
      rw [if_pos a0, List.getElem?_replicate, if_pos (by omega)]
    have hfi := fromInit (g := g) (by omega) (by omega)
    rw [hgp] at hfi
    unfold m_spec_l4Find
    rw [hgp, lenOk_ok (by omega) (by omega), hfi, hra]
    simp only [Option.bind_some, e1]
  have hI : m_impl_moveTo bars p a b = Sum.elim (fun _ => some (false, p)) (fun r => some r) r' := by
    unfold m_impl_moveTo
    rw [e2]
    rfl
  rcases hr with ⟨rfl, rfl, hq⟩ | ⟨p', rfl, rfl, hmv⟩
  · exact .inl ⟨hS, hI, hq⟩
  · exact .inr ⟨p', hS, hI, hmv⟩
def two (p : TPebbles) (a b : Int) : Int := (p.Free[a.toNat]?).getD 0 + (p.Free[b.toNat]?).getD 0
theorem gather_both (hg : GB P bars) (hp : PB P bars k m p) (hm : m ≤ 1000) {g : TGraph} (hgp : g.Points = P) (hgb : g.Bars = bars) {a b : Int} (a0 : 0 ≤ a) (a1 : a < P) (b0 : 0 ≤ b) (b1 : b < P) (hab : a ≠ b) {want : Int} (hw : want ≤ 1000) :
    (∃ p', m_spec_l4Gather g p a b want = some (p', true) ∧ m_impl_gather bars p a b want = some (true, p') ∧ PB P bars k m p' ∧ p'.Placed = p.Placed ∧ want ≤ two p' a b) ∨ ∃ p', m_spec_l4Gather g p a b want = some (p', false) ∧ m_impl_gather bars p a b want = some (false, p') ∧ PB P bars k m p' ∧ p'.Placed = p.Placed ∧ two p' a b < want ∧ (∃ q, Reach P bars p' a b q) ∧ ∃ q, Reach P bars p' b a q := by
  have hwv : ∀ x : Int, 0 ≤ x → x ≤ k → w64 x = x := fun x h1 h2 => by have := hp.k3; exact w64_small (by omega) (by omega)
  have main : ∃ r r', loopM (m_spec_l4Gather_L1 g a b want) BIG (p.Free, p.Tails, p.Placed) = some r ∧ loopM (m_impl_gather_L1 bars a b want) BIG (p.Free, p.Tails, p.Placed) = some r' ∧
      ((∃ p', r = .inl (p'.Free, p'.Tails, p'.Placed) ∧ r' = .inl (p'.Free, p'.Tails, p'.Placed) ∧ PB P bars k m p' ∧ p'.Placed = p.Placed ∧ want ≤ two p' a b) ∨ ∃ p', r = .inr (p', false) ∧ r' = .inr (false, p') ∧ PB P bars k m p' ∧ p'.Placed = p.Placed ∧ two p' a b < want ∧ (∃ q, Reach P bars p' a b q) ∧ ∃ q, Reach P bars p' b a q) := by
    refine loop_inv2 (fun n s s' => ∃ p', s = (p'.Free, p'.Tails, p'.Placed) ∧ s' = (p'.Free, p'.Tails, p'.Placed) ∧ PB P bars k m p' ∧ p'.Placed = p.Placed ∧ (n : Int) ≤ two p' a b) _ 1001 (by omega) ⟨p, rfl, rfl, hp, rfl, ?_⟩ (fun n s s' hn hs => ?_) (fun s s' hs => ?_)
    · obtain ⟨fa, hfa, _, fa0, _⟩ := hp.free_in a0 a1
      obtain ⟨fb, hfb, _, fb0, _⟩ := hp.free_in b0 b1
      unfold two
      rw [hfa, hfb]
      simp only [Option.getD_some]
      omega
    · obtain ⟨p', rfl, rfl, hp', hpl, hn2⟩ := hs
      obtain ⟨fa, hfa, hia, fa0, fak⟩ := hp'.free_in a0 a1
      obtain ⟨fb, hfb, hib, fb0, fbk⟩ := hp'.free_in b0 b1
      have k3 := hp'.k3
      have htwo : two p' a b = fa + fb := by
        unfold two
        rw [hfa, hfb]
        rfl
      have hsum : w64 (fa + fb) = fa + fb := w64_small (by omega) (by omega)
      by_cases hlt : fa + fb < want
      · rcases find_both hg hp' hm hgp hgb a0 a1 b0 b1 hab with ⟨s1, i1, hq1⟩ | ⟨p2, s1, i1, hmv⟩
        · rcases find_both hg hp' hm hgp hgb b0 b1 a0 a1 (Ne.symm hab) with ⟨s2, i2, hq2⟩ | ⟨p2, s2, i2, hmv⟩
          · refine .inr ⟨.inr (p', false), .inr (false, p'), ?_, ?_, .inr ⟨p', rfl, rfl, hp', hpl, by omega, hq1, hq2⟩⟩
            · unfold m_spec_l4Gather_L1
              simp only [hia, hib, Option.bind_some, hsum, decide_eq_true hlt, cond_true, s1, s2, cond_false, Bool.not_false]
            · unfold m_impl_gather_L1
              simp only [hia, hib, Option.bind_some, hsum, decide_eq_true hlt, cond_true, i1, i2, Bool.not_false]
          · refine .inl ⟨(p2.Free, p2.Tails, p2.Placed), (p2.Free, p2.Tails, p2.Placed), ?_, ?_, p2, rfl, rfl, hmv.pb, hmv.placed.trans hpl, ?_⟩
            · unfold m_spec_l4Gather_L1
              simp only [hia, hib, Option.bind_some, hsum, decide_eq_true hlt, cond_true, s1, s2, cond_false, Bool.not_false, Bool.not_true]
            · unfold m_impl_gather_L1
              simp only [hia, hib, Option.bind_some, hsum, decide_eq_true hlt, cond_true, i1, i2, Bool.not_false, Bool.not_true, cond_false]
            · have h1 := hmv.fa hfb
              have h2 := hmv.fb
              rw [hfa] at h2
              unfold two
              rw [h1, h2]
              simp only [Option.getD_some]
              omega
        · refine .inl ⟨(p2.Free, p2.Tails, p2.Placed), (p2.Free, p2.Tails, p2.Placed), ?_, ?_, p2, rfl, rfl, hmv.pb, hmv.placed.trans hpl, ?_⟩
          · unfold m_spec_l4Gather_L1
            simp only [hia, hib, Option.bind_some, hsum, decide_eq_true hlt, cond_true, s1, cond_false, Bool.not_true]
          · unfold m_impl_gather_L1
            simp only [hia, hib, Option.bind_some, hsum, decide_eq_true hlt, cond_true, i1, Bool.not_true, cond_false]
          · have h1 := hmv.fa hfa
            have h2 := hmv.fb
            rw [hfb] at h2
            unfold two
            rw [h1, h2]
            simp only [Option.getD_some]
            omega
      · refine .inr ⟨.inl (p'.Free, p'.Tails, p'.Placed), .inl (p'.Free, p'.Tails, p'.Placed), ?_, ?_, .inl ⟨p', rfl, rfl, hp', hpl, by omega⟩⟩
        · unfold m_spec_l4Gather_L1
          simp only [hia, hib, Option.bind_some, hsum, decide_eq_false hlt, cond_false]
        · unfold m_impl_gather_L1
          simp only [hia, hib, Option.bind_some, hsum, decide_eq_false hlt, cond_false]
    · obtain ⟨p', rfl, rfl, hp', hpl, hn2⟩ := hs
      obtain ⟨fa, hfa, hia, fa0, fak⟩ := hp'.free_in a0 a1
      obtain ⟨fb, hfb, hib, fb0, fbk⟩ := hp'.free_in b0 b1
      have k3 := hp'.k3
      unfold two at hn2
      rw [hfa, hfb] at hn2
      simp only [Option.getD_some] at hn2
      omega
  obtain ⟨r, r', e1, e2, hr⟩ := main
  have hS : m_spec_l4Gather g p a b want = Sum.elim (fun b27 => some (TPebbles.mk b27.1 b27.2.1 b27.2.2, true)) (fun r => some r) r := by
    unfold m_spec_l4Gather
    rw [l4Copy_eq hg hp hm]
    simp only [Option.bind_some, e1]
  have hI : m_impl_gather bars p a b want = Sum.elim (fun b24 => some (true, TPebbles.mk b24.1 b24.2.1 b24.2.2)) (fun r => some r) r' := by
    unfold m_impl_gather
    rw [e2]
    rfl
  rcases hr with ⟨p', rfl, rfl, h1, h2, h3⟩ | ⟨p', rfl, rfl, h1⟩
  · exact .inl ⟨p', hS, hI, h1, h2, h3⟩
  · exact .inr ⟨p', hS, hI, h1⟩
end
end Go.Proofs.Yteognanhfpbghaa
end
