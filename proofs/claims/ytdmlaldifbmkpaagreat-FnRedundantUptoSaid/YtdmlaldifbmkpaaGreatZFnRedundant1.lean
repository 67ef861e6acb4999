/- Parts of a proof that a law of the program holds: what the program computes, and why that is right. -/
import Derived.KernelRfl
import Derived.MapKept
import Derived.Carry
import Derived.ChangeMaps5
import Derived.Test.YtdmlaldifbmkpaaGreatZFnRedundant0
section
set_option linter.unusedVariables false
set_option linter.unusedSimpArgs false
set_option linter.unnecessarySimpa false
namespace Go.Fw
def idx {α : Type} (l : List α) (i : Int) : Option α := if 0 ≤ i then l[i.toNat]? else none
def lim (n : Nat) : Option Unit := if n ≤ pI then some () else none
def zM (n : Int) : Option Unit := if 0 ≤ n ∧ n ≤ 2147483648 then some () else none
def nz (n : Int) : Option Unit := if n ≠ 0 then some () else none
def same (a b : Nat) : Option Unit := if a = b then some () else none
def BIG : Nat := 18446744073709551616
theorem KF {α : Type} {l : List α} {i : Int} {x : α} (h : idx l i = some x) : 0 ≤ i := by
 unfold idx at h; split at h
 ·assumption
 ·cases h
theorem KE {α : Type} {l : List α} {i : Int} {x : α} (h : idx l i = some x) : l[i.toNat]? = some x := by
 unfold idx at h; split at h
 ·assumption
 ·cases h
theorem ZP {α : Type} {l : List α} {i : Int} {x : α} (h : idx l i = some x) : i < l.length := by
 have h0 := KF h
 have h1 := (List.getElem?_eq_some_iff.1 (KE h)).1
 omega
theorem iG {n : Nat} {u : Unit} (h : lim n = some u) : n ≤ pI := by
 unfold lim at h; split at h
 ·assumption
 ·cases h
theorem Qa {n : Int} {u : Unit} (h : zM n = some u) : 0 ≤ n ∧ n ≤ pI := by
 unfold zM at h; split at h
 ·assumption
 ·cases h
theorem Ky {n : Int} {u : Unit} (h : nz n = some u) : n ≠ 0 := by
 unfold nz at h; split at h
 ·assumption
 ·cases h
theorem same_eq {a b : Nat} {u : Unit} (h : same a b = some u) : a = b := by
 unfold same at h; split at h
 ·assumption
 ·cases h
section
variable {P : Program} {C : Ctx} {σ σ' : Slots} {m m' : Mem} {is : List It} {τ υ : Type} {M : Option τ} {K : τ → Post}
def uj (σ' σ : Slots) : Prop := match σ' with
 | [] => True
 | (t,v) :: r => lk σ t = some v ∧ uj r σ
def uh (m' m : Mem) : Prop := match m' with
 | [] => True
 | (n,o) :: r => lk m n = some o ∧ uh r m
theorem uj.spec : ∀ {σ' : Slots},uj σ' σ → ∀ t v,lk σ' t = some v → lk σ t = some v
 | [],_,_,_,h => by cases h
 | (k,x) :: r,hs,t,v,h => by
  change (bif Nat.beq k t then some x else lk r t) = some v at h
  cases hb : Nat.beq k t with
  | true =>
   rw [hb,cond_true] at h
   injection h with h
   have := Nat.eq_of_beq_eq_true hb
   subst this
   subst h
   exact hs.1
  | false =>
   rw [hb,cond_false] at h
   exact uj.spec hs.2 t v h
theorem uh.spec : ∀ {m' : Mem},uh m' m → ∀ t v,lk m' t = some v → lk m t = some v
 | [],_,_,_,h => by cases h
 | (k,x) :: r,hs,t,v,h => by
  change (bif Nat.beq k t then some x else lk r t) = some v at h
  cases hb : Nat.beq k t with
  | true =>
   rw [hb,cond_true] at h
   injection h with h
   have := Nat.eq_of_beq_eq_true hb
   subst this
   subst h
   exact hs.1
  | false =>
   rw [hb,cond_false] at h
   exact uh.spec hs.2 t v h
theorem aU.of (h1 : uj σ' σ) (h2 : uh m' m) : aU P C σ m σ' m' := fun R B g _ _ hs => ⟨R,B,g,hs.weak (uj.spec h1) (uh.spec h2)⟩
theorem aU.refl : aU P C σ m σ m := fun R B g _ _ hs => ⟨R,B,g,hs⟩
theorem aU.trans {σ2 : Slots} {m2 : Mem} (h : aU P C σ m σ' m') (k : aU P C σ' m' σ2 m2) : aU P C σ m σ2 m2 := fun R B g a w hs => by
 obtain ⟨R',B',g',hs'⟩ := h R B g a w hs
 exact k R' B' g' a w hs'
theorem aS.ent {ops : Array Oper} {rest : List Oper} (h : aU P C σ m σ' m') (k : aS P C ops rest is σ' m' M K) : aS P C ops rest is σ m M K := fun t ht R B g a w hs => by
 obtain ⟨R',B',g',hs'⟩ := h R B g a w hs
 exact k t ht R' B' g' a w hs'
def KL {σs β ρ : Type} (P : Program) (C : Ctx) (id : Nat) (S : σs → Slots × Mem) (Sb : β → Slots × Mem) (Kr : ρ → Post) : σs ⊕ (β ⊕ ρ) → Post := fun o e σ m => match o with
 | .inl s => e = .normal ∧ aU P C σ m (S s).1 (S s).2
 | .inr (.inl b) => e = .exit id ∧ aU P C σ m (Sb b).1 (Sb b).2
 | .inr (.inr r) => e = .ret ∧ Kr r .ret σ m
theorem aB.oC {σs β ρ : Type} {body : Code} {id : Nat} (bm : σs → Option (σs ⊕ (β ⊕ ρ))) (S : σs → Slots × Mem) (Sb : β → Slots × Mem) (Kr : ρ → Post) {f : β → Option τ} {gr : ρ → Option τ} {n : Nat} {s : σs}
  (hb : ∀ s,aB P C [.code body] (S s).1 (S s).2 (bm s) (KL P C id S Sb Kr)) (h0 : aU P C σ m (S s).1 (S s).2) (hid : rG id is = true)
  (hl : ∀ b,bZ bm n s = some (.inl b) → aB P C (wU id is) (Sb b).1 (Sb b).2 (f b) K) (hr : ∀ r t σ m,gr r = some t → Kr r .ret σ m → K t .ret σ m) :
  aB P C (.code (.loop body) :: is) σ m ((bZ bm n s).bind (Sum.elim f gr)) K :=
 aB.loop (Lv := fun o e σ m => match o with | .inl b => e = .exit id ∧ aU P C σ m (Sb b).1 (Sb b).2 | .inr r => e = .ret ∧ Kr r .ret σ m) bm S
  (fun s t ht R B g a w hs => wp_mono (hb s t ht R B g a w hs) fun e a w he => by
   obtain ⟨σ',m',R',B',g',hs',hp⟩ := he
   refine ⟨σ',m',R',B',g',hs',?_⟩
   rcases t with s' | b | r
   ·exact hp
   ·obtain ⟨rfl,hp⟩ := hp
    exact ⟨by simp,rfl,hp⟩
   ·obtain ⟨rfl,hp⟩ := hp
    exact ⟨by simp,rfl,hp⟩) h0 (fun u e σ' m' hu hlv t ht => by
   rcases u with b | r
   ·obtain ⟨rfl,hp⟩ := hlv
    exact fC.Bg hid (fC.ent hp (hl b hu t ht))
   ·obtain ⟨rfl,hp⟩ := hlv
    exact fC.ES (hr r t σ' m' ht hp))
def UW {σs β : Type} (P : Program) (C : Ctx) (id : Nat) (S : σs → Slots × Mem) (Sb : β → Slots × Mem) : σs ⊕ β → Post := fun o e σ m => match o with
 | .inl s => e = .normal ∧ aU P C σ m (S s).1 (S s).2
 | .inr b => e = .exit id ∧ aU P C σ m (Sb b).1 (Sb b).2
theorem aB.iy {σs β : Type} {body : Code} {id : Nat} (bm : σs → Option (σs ⊕ β)) (S : σs → Slots × Mem) (Sb : β → Slots × Mem) {f : β → Option τ} {n : Nat} {s : σs}
  (hb : ∀ s,aB P C [.code body] (S s).1 (S s).2 (bm s) (UW P C id S Sb)) (h0 : aU P C σ m (S s).1 (S s).2) (hid : rG id is = true)
  (hl : ∀ b,bZ bm n s = some b → aB P C (wU id is) (Sb b).1 (Sb b).2 (f b) K) : aB P C (.code (.loop body) :: is) σ m ((bZ bm n s).bind f) K :=
 aB.loop (Lv := fun b e σ m => e = .exit id ∧ aU P C σ m (Sb b).1 (Sb b).2) bm S
  (fun s t ht R B g a w hs => wp_mono (hb s t ht R B g a w hs) fun e a w he => by
   obtain ⟨σ',m',R',B',g',hs',hp⟩ := he
   refine ⟨σ',m',R',B',g',hs',?_⟩
   rcases t with s' | b
   ·exact hp
   ·obtain ⟨rfl,hp⟩ := hp
    exact ⟨by simp,rfl,hp⟩) h0 (fun u e σ' m' hu hlv t ht => by
   obtain ⟨rfl,hp⟩ := hlv
   exact fC.Bg hid (fC.ent hp (hl u hu t ht)))
def KJ (P : Program) (C : Ctx) (S : υ → Slots × Mem) : υ → Post := fun u e σ m => e = .normal ∧ aU P C σ m (S u).1 (S u).2
theorem aB.dZ {c : Code} {M1 : Option υ} {f : υ → Option τ} (S : υ → Slots × Mem) (h1 : aB P C [.code c] σ m M1 (KJ P C S)) (h2 : ∀ t,M1 = some t → aB P C is (S t).1 (S t).2 (f t) K) : aB P C (.code c :: is) σ m (M1.bind f) K :=
 aB.join S h1 h2
def UU {ρ : Type} (P : Program) (C : Ctx) (S : υ → Slots × Mem) (Kr : ρ → Post) : υ ⊕ ρ → Post := fun o e σ m => match o with
 | .inl u => e = .normal ∧ aU P C σ m (S u).1 (S u).2
 | .inr r => e = .ret ∧ Kr r .ret σ m
theorem aB.Zc {ρ : Type} {c : Code} {M1 : Option (υ ⊕ ρ)} {f : υ → Option τ} {gr : ρ → Option τ} (S : υ → Slots × Mem) (Kr : ρ → Post) (h1 : aB P C [.code c] σ m M1 (UU P C S Kr)) (h2 : ∀ t,M1 = some (.inl t) → aB P C is (S t).1 (S t).2 (f t) K)
  (hr : ∀ r t σ m,gr r = some t → Kr r .ret σ m → K t .ret σ m) : aB P C (.code c :: is) σ m (M1.bind (Sum.elim f gr)) K := fun t ht R B g a w hs => by
 obtain ⟨u,hu,hf⟩ := Option.bind_eq_some_iff.1 ht
 refine wp_mono (h1 u hu R B g a w hs) fun e a w he => ?_
 obtain ⟨σ',m',R',B',g',hs',hp⟩ := he
 rcases u with u | r
 ·obtain ⟨rfl,hent⟩ := hp
  obtain ⟨R2,B2,g2,hs2⟩ := hent _ _ _ _ _ hs'
  exact h2 u hu t hf _ _ _ _ _ hs2
 ·obtain ⟨rfl,hp⟩ := hp
  exact (fC.ES (is := is) (hr r t σ' m' hf hp)) _ _ _ _ _ hs'
theorem fC.fH {id : Nat} {Q : Post} : ∀ {is : List It},rG id is = false → Q (.exit id) σ m → fC P C is (.exit id) σ m Q
 | [],_,h => fC.nil h
 | .code c :: is,hb,h => fC.Oy (fC.fH (is := is) hb h)
 | .blk i :: is,hb,h => by
  unfold rG at hb
  rw [Bool.or_eq_false_iff] at hb
  exact fC.Oz (Ne.symm (Nat.ne_of_beq_eq_false hb.1)) (fC.fH (is := is) hb.2 h)
theorem aB.fH {id : Nat} {t : τ} (hb : rG id is = false) (h : K t (.exit id) σ m) : aB P C (.code (.exit id) :: is) σ m (some t) K := aB.V9 (fC.fH hb h)
def bD {ρ : Type} (P : Program) (res : List ResultVar) (us : Mem) (X : List Nat) (rs : ρ → List SV) (jH : ρ → Mem) : ρ → Post := fun t e σ m =>
 (e = .normal ∨ e = .ret) ∧ qU P σ m res (rs t) ∧ lK m (jH t) ∧ eP (keys us) (keys (jH t)) = true ∧ eP X (keys (jH t)) = true ∧ En (qw (rs t)) ∧ (∀ p ∈ jH t,bK p.2) ∧ okA (keys us ++ X) (qw (rs t)) = true ∧
  (jH t).all (fun p => (keys us ++ X).elem p.1 && okO (keys us ++ X) p.2) = true
def sK : List PV → Prop
 | [] => True
 | p :: r => ak p ∧ sK r
theorem sK.spec : ∀ {l : List PV},sK l → ∀ p ∈ l,ak p
 | [],_,p,hp => by cases hp
 | q :: r,h,p,hp => by
  cases hp with
  | head => exact h.1
  | tail _ hp => exact sK.spec h.2 p hp
def wO : List CV → Prop
 | [] => True
 | p :: r => sJ p ∧ wO r
theorem wO.spec : ∀ {l : List CV},wO l → ∀ p ∈ l,sJ p
 | [],_,p,hp => by cases hp
 | q :: r,h,p,hp => by
  cases hp with
  | head => exact h.1
  | tail _ hp => exact wO.spec h.2 p hp
def IQ : SV → Prop
 | .c x => sJ x
 | .agg cs => wO cs
theorem IQ.spec {x : SV} (h : IQ x) : BO x := by
 cases x with
 | c x => exact h
 | agg cs => exact wO.spec h
def ug : List SV → Prop
 | [] => True
 | x :: r => IQ x ∧ ug r
theorem ug.spec : ∀ {l : List SV},ug l → ∀ p ∈ l,BO p
 | [],_,p,hp => by cases hp
 | q :: r,h,p,hp => by
  cases hp with
  | head => exact h.1.spec
  | tail _ hp => exact ug.spec h.2 p hp
theorem ug.res {l : List SV} (h : ug l) : En (qw l) := by
 match l,h with
 | [],_ => intro x hx; cases hx
 | [x],h => exact h.1.spec
 | x :: y :: r,h => exact ug.spec h
def BN : Mem → Prop
 | [] => True
 | (_,o) :: r => bK o ∧ BN r
theorem BN.spec : ∀ {df : Mem},BN df → ∀ p ∈ df,bK p.2
 | [],_,p,hp => by cases hp
 | (n,o) :: r,h,p,hp => by
  cases hp with
  | head => exact h.1
  | tail _ hp => exact BN.spec h.2 p hp
theorem bK.bg {α : Type} {enc : α → List PV} {e : TypeId} {xs : List α} (h : ∀ a,sK (enc a)) : bK (.dU e (xs.map enc)) := fun cs hcs p hp => by
 obtain ⟨a,_,rfl⟩ := List.mem_map.1 hcs
 exact (h a).spec p hp
theorem mX {α : Type} {enc : α → List PV} {xs : List α} (h : ∀ a,sK (enc a)) : sJ (.pv (.xs true (xs.map enc))) := ak.xs fun cs hcs p hp => by
 obtain ⟨a,_,rfl⟩ := List.mem_map.1 hcs
 exact (h a).spec p hp
theorem dQ {t : TypeId} (h : (P.info? t).isSome = true) : P.info? t = some ((P.info? t).get h) := (Option.some_get h).symm
theorem bD.mk {ρ : Type} {res : List ResultVar} {us : Mem} {X : List Nat} {rs : ρ → List SV} {jH : ρ → Mem} {t : ρ} {e : Exit} (he : e = .normal ∨ e = .ret) (h1 : qU P σ m res (rs t)) (h2 : lK m (jH t))
  (hside : (eP (keys us) (keys (jH t)) && eP X (keys (jH t)) && okA (keys us ++ X) (qw (rs t)) && (jH t).all (fun p => (keys us ++ X).elem p.1 && okO (keys us ++ X) p.2)) = true) (h3 : ug (rs t)) (h4 : BN (jH t)) :
  bD P res us X rs jH t e σ m := by
 simp only [Bool.and_eq_true] at hside
 obtain ⟨⟨⟨a1,a2⟩,a3⟩,a4⟩ := hside
 exact ⟨he,h1,h2,a1,a2,h3.res,h4.spec,a3,a4⟩
theorem bD.ret {ρ : Type} {res : List ResultVar} {us : Mem} {X : List Nat} {rs : ρ → List SV} {jH : ρ → Mem} {t : ρ} {e : Exit} {σ : Slots} {m : Mem} (h : bD P res us X rs jH t .ret σ m) : bD P res us X rs jH t .ret σ m := h
theorem Fn.of {f : FuncId} {fn : Func} {c : Code} {args : List SV} {us : Mem} {pn X : List Nat} {N : Nat} {ρ : Type} {M : Option ρ} {rs : ρ → List SV} {jH : ρ → Mem} (hf : P.funcs[f]? = some fn) (hb : fn.body = some c) (hN : fn.ntmps = N)
  (hargs : args.length ≤ N) (hside : (eP (keys us) (pn ++ X) && kH X pn && eP pn (keys us)) = true)
  (h : ∀ w0 U0 R0 g0,aB P ⟨w0,U0,R0,g0,N,pn⟩ [.code c] (wQ 0 args) us M (bD P fn.results.toList us X rs jH)) : ∀ t,M = some t → Fn P f args us (qw (rs t)) (jH t) (keys us) X :=
 Fn.aAB (df := []) hf hb hN hargs hside fun w0 U0 R0 g0 _ => h w0 U0 R0 g0
end
def rn (ρ : List (Nat × Nat)) (n : Nat) : Nat := (lk ρ n).getD 0
def nT (ρ : List (Nat × Nat)) : CV → CV
 | .loc n o l => .loc (rn ρ n) o l
 | .pl n o => .pl (rn ρ n) o
 | .fn f caps => .fn f (caps.map (rn ρ))
 | .mref n => .mref (rn ρ n)
 | .tl p k o l => .tl (rn ρ p) k o l
 | .tpl p k o => .tpl (rn ρ p) k o
 | x => x
def BH (ρ : List (Nat × Nat)) : SV → SV
 | .c x => .c (nT ρ x)
 | .agg cs => .agg (cs.map (nT ρ))
def Rx (ρ : List (Nat × Nat)) : AV → AV
 | .s x => .s (BH ρ x)
 | .dI xs => .dI (xs.map (BH ρ))
def Gx (ρ : List (Nat × Nat)) : Ob → Ob
 | .row e els => .row e (els.map (·.map (nT ρ)))
 | .dU e els => .dU e els
 | .mp es => .mp es
 | .pool e rows => .pool e rows
 | .iY e p lens => .iY e (rn ρ p) lens
 | .unk => .unk
def Ry (ρ : List (Nat × Nat)) (m : Mem) : Mem := m.map fun p => (rn ρ p.1,Gx ρ p.2)
section
variable {P : Program} {w : World} {R B : Nat → Prop} {g g' : Nat → GS} {ρ : List (Nat × Nat)}
theorem RC.rn {x : CV} {v : Value} (hz : nR (keys ρ) x = true) (hg : ∀ n ∈ keys ρ,g' (rn ρ n) = g n) (h : RC P w R B g x v) : RC P w R B g' (nT ρ x) v := by
 refine ⟨h.1,?_⟩
 have h2 := h.2
 cases x with
 | pv p => exact h2
 | px q cells => exact h2
 | loc n off len =>
  have hn := hg n (List.mem_of_elem_eq_true hz)
  rcases h2 with ⟨h3,h4⟩ | h3 | ⟨b,cap,cur,e,h3,h4⟩
  ·exact .inl ⟨hn.trans h3,h4⟩
  ·exact .inr (.inl h3)
  ·exact .inr (.inr ⟨b,cap,cur,e,hn.trans h3,h4⟩)
 | pl n off =>
  obtain ⟨b,h3,h4⟩ := h2
  exact ⟨b,(hg n (List.mem_of_elem_eq_true hz)).trans h3,h4⟩
 | fn f caps =>
  obtain ⟨vs,h3,h4,h5⟩ := h2
  refine ⟨vs,h3,by simpa using h4,fun k n hk => ?_⟩
  rw [List.getElem?_map] at hk
  cases hc : caps[k]? with
  | none => rw [hc] at hk; cases hk
  | some n0 =>
   rw [hc] at hk
   injection hk with hk
   subst hk
   obtain ⟨b,h6,h7⟩ := h5 k n0 hc
   exact ⟨b,(hg n0 (List.mem_of_elem_eq_true (List.all_eq_true.1 hz n0 (List.mem_of_getElem? hc)))).trans h6,h7⟩
 | mref n =>
  obtain ⟨b,h3,h4⟩ := h2
  exact ⟨b,(hg n (List.mem_of_elem_eq_true hz)).trans h3,h4⟩
 | tl p k off len =>
  have hn := hg p (List.mem_of_elem_eq_true hz)
  rcases h2 with ⟨h3,h4⟩ | h3 | ⟨b,cap,cur,e,h3,h4⟩
  ·exact .inl ⟨by rw [hn]; exact h3,h4⟩
  ·exact .inr (.inl h3)
  ·exact .inr (.inr ⟨b,cap,cur,e,by rw [hn]; exact h3,h4⟩)
 | tpl p k off =>
  obtain ⟨b,h3,h4⟩ := h2
  exact ⟨b,by rw [hg p (List.mem_of_elem_eq_true hz)]; exact h3,h4⟩
 | junk => trivial
theorem Vh {xs : List CV} {vs : List Value} (hz : xs.all (nR (keys ρ)) = true) (hg : ∀ n ∈ keys ρ,g' (Fw.rn ρ n) = g n) (h : ∀ (k : Nat) x,xs[k]? = some x → ∃ u,vs[k]? = some u ∧ RC P w R B g x u) :
  ∀ (k : Nat) x,(xs.map (nT ρ))[k]? = some x → ∃ u,vs[k]? = some u ∧ RC P w R B g' x u := fun k x hk => by
 rw [List.getElem?_map] at hk
 cases hc : xs[k]? with
 | none => rw [hc] at hk; cases hk
 | some y =>
  rw [hc] at hk
  injection hk with hk
  subst hk
  obtain ⟨u,h4,h5⟩ := h k y hc
  exact ⟨u,h4,h5.rn (List.all_eq_true.1 hz y (List.mem_of_getElem? hc)) hg⟩
theorem RS.rn {x : SV} {v : Value} (hz : okS (keys ρ) x = true) (hg : ∀ n ∈ keys ρ,g' (Fw.rn ρ n) = g n) (h : RS P w R B g x v) : RS P w R B g' (BH ρ x) v := by
 cases x with
 | c x => exact RC.rn hz hg h
 | agg cs =>
  obtain ⟨vs,h1,h2,h3⟩ := h
  exact ⟨vs,h1,by simpa using h2,Vh hz hg h3⟩
theorem RA.rn {x : AV} {v : Value} (hz : okA (keys ρ) x = true) (hg : ∀ n ∈ keys ρ,g' (Fw.rn ρ n) = g n) (h : RA P w R B g x v) : RA P w R B g' (Rx ρ x) v := by
 cases x with
 | s x => exact RS.rn hz hg h
 | dI xs =>
  obtain ⟨vs,h1,h2,h3⟩ := h
  refine ⟨vs,h1,by simpa using h2,fun k x hk => ?_⟩
  rw [List.getElem?_map] at hk
  cases hc : xs[k]? with
  | none => rw [hc] at hk; cases hk
  | some y =>
   rw [hc] at hk
   injection hk with hk
   subst hk
   obtain ⟨u,h4,h5⟩ := h3 k y hc
   exact ⟨u,h4,h5.rn (List.all_eq_true.1 hz y (List.mem_of_getElem? hc)) hg⟩
theorem Rq (ρ : List (Nat × Nat)) (els : List (List PV)) : (dG els).map (·.map (nT ρ)) = dG els := by simp [dG,nT,Function.comp_def]
theorem TG (ρ : List (Nat × Nat)) (p : Nat) (lens : List Nat) : (lJ p lens).map (·.map (nT ρ)) = lJ (Fw.rn ρ p) lens := by
 refine List.ext_getElem? fun j => ?_
 simp only [lJ,List.getElem?_map,List.getElem?_mapIdx,Option.map_map]
 cases lens[j]? <;> simp [nT]
theorem TF {zs : List Nat} {e : TypeId} {p : Nat} {lens : List Nat} (hz : okO zs (.iY e p lens) = true) : (lJ p lens).all (·.all (nR zs)) = true :=
 List.all_eq_true.2 fun cs hcs => by
  obtain ⟨j,l,rfl⟩ := GU hcs
  simpa [nR,okO] using hz
theorem dh.rn {n : Nat} {e : TypeId} {els : List (List CV)} (hn : n ∈ keys ρ) (hz : els.all (·.all (nR (keys ρ))) = true) (hg : ∀ n ∈ keys ρ,g' (Fw.rn ρ n) = g n) (h : dh P w R B g n e els) : dh P w R B g' (Fw.rn ρ n) e (els.map (·.map (nT ρ))) := by
 rcases h with ⟨h1,h2⟩ | ⟨b,cur,h1,h2,h3,h4,h5⟩
 ·exact .inl ⟨(hg n hn).trans h1,by simp [h2]⟩
 ·refine .inr ⟨b,cur,(hg n hn).trans h1,h2,fun cs hcs => ?_,by simpa using h4,fun j k cs x hj hk => ?_⟩
  ·obtain ⟨c0,hc0,rfl⟩ := List.mem_map.1 hcs
   simpa using h3 c0 hc0
  ·rw [List.getElem?_map] at hj
   cases hc : els[j]? with
   | none => rw [hc] at hj; cases hj
   | some cs0 =>
    rw [hc] at hj
    injection hj with hj
    subst hj
    rw [List.getElem?_map] at hk
    cases hc2 : cs0[k]? with
    | none => rw [hc2] at hk; cases hk
    | some y =>
     rw [hc2] at hk
     injection hk with hk
     subst hk
     obtain ⟨u,h6,h7⟩ := h5 j k cs0 y hc hc2
     exact ⟨u,h6,h7.rn (List.all_eq_true.1 (List.all_eq_true.1 hz cs0 (List.mem_of_getElem? hc)) y (List.mem_of_getElem? hc2)) hg⟩
theorem RO.rn {n : Nat} {o : Ob} (hn : n ∈ keys ρ) (hz : okO (keys ρ) o = true) (hg : ∀ n ∈ keys ρ,g' (Fw.rn ρ n) = g n) (h : RO P w R B g n o) : RO P w R B g' (Fw.rn ρ n) (Gx ρ o) := by
 cases o with
 | row e els => exact dh.rn hn hz hg h
 | dU e els =>
  have := dh.rn hn (by simp [dG,List.all_eq_true,nR]) hg (els := dG els) h
  rwa [Rq] at this
 | mp es =>
  obtain ⟨b,lU,clock,h1,h2⟩ := h
  exact ⟨b,lU,clock,(hg n hn).trans h1,h2⟩
 | pool e rows =>
  obtain ⟨⟨bs,h1,h2⟩,h3⟩ := h
  exact ⟨⟨bs,(hg n hn).trans h1,h2⟩,by rw [hg n hn]; exact h3⟩
 | iY e p lens =>
  have := dh.rn hn (TF hz) hg (els := lJ p lens) h
  rwa [TG] at this
 | unk => trivial
theorem SA {n : Nat} (h : n ∈ keys ρ) : ∃ k,lk ρ n = some k ∧ (n,k) ∈ ρ := by
 induction ρ with
 | nil => simp [keys] at h
 | cons p r ih =>
  obtain ⟨a,b⟩ := p
  show ∃ k,(bif Nat.beq a n then some b else lk r n) = some k ∧ _
  cases hb : Nat.beq a n with
  | true => have := Nat.eq_of_beq_eq_true hb; subst this; exact ⟨b,rfl,List.mem_cons_self⟩
  | false =>
   have hne := Nat.ne_of_beq_eq_false hb
   have : n ∈ keys r := by
    simp [keys] at h
    rcases h with h | h
    ·exact absurd h.symm hne
    ·exact List.mem_map.2 (by simpa using h)
   obtain ⟨k,h1,h2⟩ := ih this
   exact ⟨k,h1,List.mem_cons_of_mem _ h2⟩
def nodup : List Nat → Bool
 | [] => true
 | n :: r => !r.elem n && nodup r
theorem Q7 : ∀ {ρ : List (Nat × Nat)},nodup (ρ.map (·.2)) = true → ∀ p q,p ∈ ρ → q ∈ ρ → p.2 = q.2 → p = q
 | [],_,_,_,h,_,_ => by cases h
 | x :: r,hn,p,q,hp,hq,he => by
  unfold nodup at hn
  simp only [List.map_cons,Bool.and_eq_true,Bool.not_eq_true'] at hn
  have hx := lN hn.1
  cases hp with
  | head =>
   cases hq with
   | head => rfl
   | tail _ hq => exact absurd (List.mem_map.2 ⟨q,hq,he.symm⟩) hx
  | tail _ hp =>
   cases hq with
   | head => exact absurd (List.mem_map.2 ⟨p,hp,he⟩) hx
   | tail _ hq => exact Q7 hn.2 p q hp hq he
theorem Rz (hn : nodup (ρ.map (·.2)) = true) {n k : Nat} (h1 : n ∈ keys ρ) (h2 : k ∈ keys ρ) (h : rn ρ n = rn ρ k) : n = k := by
 obtain ⟨a,ha,hma⟩ := SA h1
 obtain ⟨b,hb,hmb⟩ := SA h2
 unfold rn at h
 rw [ha,hb] at h
 have := Q7 hn _ _ hma hmb h
 injection this
theorem RC.un {x : CV} {v : Value} (hz : nR (keys ρ) x = true) (hg : ∀ n ∈ keys ρ,g' n = g (Fw.rn ρ n)) (h : RC P w R B g (nT ρ x) v) : RC P w R B g' x v := by
 refine ⟨h.1,?_⟩
 have h2 := h.2
 cases x with
 | pv p => exact h2
 | px q cells => exact h2
 | loc n off len =>
  have hn := hg n (List.mem_of_elem_eq_true hz)
  rcases h2 with ⟨h3,h4⟩ | h3 | ⟨b,cap,cur,e,h3,h4⟩
  ·exact .inl ⟨hn.trans h3,h4⟩
  ·exact .inr (.inl h3)
  ·exact .inr (.inr ⟨b,cap,cur,e,hn.trans h3,h4⟩)
 | pl n off =>
  obtain ⟨b,h3,h4⟩ := h2
  exact ⟨b,(hg n (List.mem_of_elem_eq_true hz)).trans h3,h4⟩
 | fn f caps =>
  obtain ⟨vs,h3,h4,h5⟩ := h2
  refine ⟨vs,h3,by simpa using h4,fun k n hk => ?_⟩
  obtain ⟨b,h6,h7⟩ := h5 k (Fw.rn ρ n) (by rw [List.getElem?_map,hk]; rfl)
  exact ⟨b,(hg n (List.mem_of_elem_eq_true (List.all_eq_true.1 hz n (List.mem_of_getElem? hk)))).trans h6,h7⟩
 | mref n =>
  obtain ⟨b,h3,h4⟩ := h2
  exact ⟨b,(hg n (List.mem_of_elem_eq_true hz)).trans h3,h4⟩
 | tl p k off len =>
  have hn := hg p (List.mem_of_elem_eq_true hz)
  rcases h2 with ⟨h3,h4⟩ | h3 | ⟨b,cap,cur,e,h3,h4⟩
  ·exact .inl ⟨by rw [hn]; exact h3,h4⟩
  ·exact .inr (.inl h3)
  ·exact .inr (.inr ⟨b,cap,cur,e,by rw [hn]; exact h3,h4⟩)
 | tpl p k off =>
  obtain ⟨b,h3,h4⟩ := h2
  exact ⟨b,by rw [hg p (List.mem_of_elem_eq_true hz)]; exact h3,h4⟩
 | junk => trivial
theorem Vj {xs : List CV} {vs : List Value} (hz : xs.all (nR (keys ρ)) = true) (hg : ∀ n ∈ keys ρ,g' n = g (Fw.rn ρ n)) (h : ∀ (k : Nat) x,(xs.map (nT ρ))[k]? = some x → ∃ u,vs[k]? = some u ∧ RC P w R B g x u) :
  ∀ (k : Nat) x,xs[k]? = some x → ∃ u,vs[k]? = some u ∧ RC P w R B g' x u := fun k x hk => by
 obtain ⟨u,h4,h5⟩ := h k (nT ρ x) (by rw [List.getElem?_map,hk]; rfl)
 exact ⟨u,h4,h5.un (List.all_eq_true.1 hz x (List.mem_of_getElem? hk)) hg⟩
theorem RS.un {x : SV} {v : Value} (hz : okS (keys ρ) x = true) (hg : ∀ n ∈ keys ρ,g' n = g (Fw.rn ρ n)) (h : RS P w R B g (BH ρ x) v) : RS P w R B g' x v := by
 cases x with
 | c x => exact RC.un hz hg h
 | agg cs =>
  obtain ⟨vs,h1,h2,h3⟩ := h
  exact ⟨vs,h1,by simpa using h2,Vj hz hg h3⟩
theorem dh.un {n : Nat} {e : TypeId} {els : List (List CV)} (hn : n ∈ keys ρ) (hz : els.all (·.all (nR (keys ρ))) = true) (hg : ∀ n ∈ keys ρ,g' n = g (Fw.rn ρ n)) (h : dh P w R B g (Fw.rn ρ n) e (els.map (·.map (nT ρ)))) : dh P w R B g' n e els := by
 rcases h with ⟨h1,h2⟩ | ⟨b,cur,h1,h2,h3,h4,h5⟩
 ·exact .inl ⟨(hg n hn).trans h1,by simpa using h2⟩
 ·refine .inr ⟨b,cur,(hg n hn).trans h1,h2,fun cs hcs => ?_,by simpa using h4,fun j k cs x hj hk => ?_⟩
  ·have := h3 (cs.map (nT ρ)) (List.mem_map.2 ⟨cs,hcs,rfl⟩)
   simpa using this
  ·obtain ⟨u,h6,h7⟩ := h5 j k (cs.map (nT ρ)) (nT ρ x) (by rw [List.getElem?_map,hj]; rfl) (by rw [List.getElem?_map,hk]; rfl)
   exact ⟨u,h6,h7.un (List.all_eq_true.1 (List.all_eq_true.1 hz cs (List.mem_of_getElem? hj)) x (List.mem_of_getElem? hk)) hg⟩
theorem RO.un {n : Nat} {o : Ob} (hn : n ∈ keys ρ) (hz : okO (keys ρ) o = true) (hg : ∀ n ∈ keys ρ,g' n = g (Fw.rn ρ n)) (h : RO P w R B g (Fw.rn ρ n) (Gx ρ o)) : RO P w R B g' n o := by
 cases o with
 | row e els => exact dh.un hn hz hg h
 | dU e els => exact dh.un hn (by simp [dG,List.all_eq_true,nR]) hg (els := dG els) (by rw [Rq]; exact h)
 | mp es =>
  obtain ⟨b,lU,clock,h1,h2⟩ := h
  exact ⟨b,lU,clock,(hg n hn).trans h1,h2⟩
 | pool e rows =>
  obtain ⟨⟨bs,h1,h2⟩,h3⟩ := h
  exact ⟨⟨bs,(hg n hn).trans h1,h2⟩,by rw [hg n hn]; exact h3⟩
 | iY e p lens => exact dh.un hn (TF hz) hg (els := lJ p lens) (by rw [TG]; exact h)
 | unk => trivial
theorem Fn.ren {f : FuncId} {args : List SV} {us df : Mem} {v : AV} {W X : List Nat} (ρ : List (Nat × Nat)) (h : Fn P f args us v df W X)
  (hc : (nodup (ρ.map (·.2)) && args.all (okS (keys ρ)) && us.all (fun p => (keys ρ).elem p.1 && okO (keys ρ) p.2) && okA (keys ρ) v && df.all (fun p => (keys ρ).elem p.1 && okO (keys ρ) p.2) && eP W (keys ρ) && eP X (keys ρ)) = true) :
  Fn P f (args.map (BH ρ)) (Ry ρ us) (Rx ρ v) (Ry ρ df) (W.map (rn ρ)) (X.map (rn ρ)) := by
 simp only [Bool.and_eq_true] at hc
 obtain ⟨⟨⟨⟨⟨⟨hnd,hargs⟩,hus⟩,hv⟩,hdf⟩,hW⟩,hX⟩ := hc
 have Bl := qF hW
 have WX := qF hX
 intro R B g w vs hw hlen hvs Yr
 classical
 let gc : Nat → GS := fun n => if n ∈ keys ρ then g (rn ρ n) else .dead
 have hgc : ∀ n ∈ keys ρ,gc n = g (rn ρ n) := fun n hn => if_pos hn
 have hgd : ∀ n,gc n ≠ .dead → n ∈ keys ρ := fun n h => by
  by_cases hn : n ∈ keys ρ
  ·exact hn
  ·exact absurd (if_neg hn) h
 have hgk : ∀ n b,(gc n).has b → n ∈ keys ρ := fun n b h => hgd n fun e => by rw [e] at h; exact h
 have hwc : WF R B gc w := ⟨hw.rb,hw.lt,fun n b hg => by
  have hn := hgk n b hg
  rw [hgc n hn] at hg
  exact hw.jW _ b hg,fun n k b h1 h2 => by
  have hn := hgk n b h1
  have hk := hgk k b h2
  rw [hgc n hn] at h1
  rw [hgc k hk] at h2
  exact Rz hnd hn hk (hw.kX _ _ b h1 h2),fun n j k b h1 h2 => by
  have hn := hgd n fun e => by rw [e] at h1; cases h1
  rw [hgc n hn] at h1 h2
  exact hw.nd _ j k b h1 h2⟩
 refine (h R B gc w vs hwc (by simpa using hlen) (fun k x hk => ?_) (fun p hp => ?_)).mono fun e w' hp => ?_
 ·obtain ⟨u,h1,h2⟩ := hvs k (BH ρ x) (by rw [List.getElem?_map,hk]; rfl)
  exact ⟨u,h1,h2.un (List.all_eq_true.1 hargs x (List.mem_of_getElem? hk)) hgc⟩
 ·have h1 := List.all_eq_true.1 hus p hp
  simp only [Bool.and_eq_true] at h1
  exact RO.un (List.mem_of_elem_eq_true h1.1) h1.2 hgc (Yr (rn ρ p.1,Gx ρ p.2) (List.mem_map.2 ⟨p,hp,rfl⟩))
 ·obtain ⟨u,R',B',g',rfl,had,hR,hvv,XT⟩ := hp
  let g2 : Nat → GS := fun n => if h : ∃ k,k ∈ keys ρ ∧ rn ρ k = n then g' h.choose else g n
  have hin : ∀ k ∈ keys ρ,g2 (rn ρ k) = g' k := fun k hk => by
   have hex : ∃ j,j ∈ keys ρ ∧ rn ρ j = rn ρ k := ⟨k,hk,rfl⟩
   show (if h : ∃ j,j ∈ keys ρ ∧ rn ρ j = rn ρ k then g' h.choose else g (rn ρ k)) = g' k
   rw [dif_pos hex]
   have := hex.choose_spec
   rw [Rz hnd this.1 hk this.2]
  have hout : ∀ n,(¬ ∃ k,k ∈ keys ρ ∧ rn ρ k = n) → g2 n = g n := fun n hn => dif_neg hn
  have WV : ∀ b,R' b → b < w'.heap.size := fun b hb => had.wf.lt b (had.wf.rb b hb)
  have CS : ∀ n k b,(¬ ∃ k,k ∈ keys ρ ∧ rn ρ k = n) → k ∈ keys ρ → (g n).has b → (g' k).has b → False := fun n k b hn hk h1 h2 => by
   by_cases hkX : k ∈ X
   ·rcases had.fresh k hkX b h2 with h3 | ⟨m,hm,h3⟩
    ·exact absurd (hw.jW n b h1).2 (by omega)
    ·rw [hgc m (Bl m hm)] at h3
     exact hn ⟨m,Bl m hm,hw.kX _ _ b h3 h1⟩
   ·rw [had.names k hkX,hgc k hk] at h2
    exact hn ⟨k,hk,hw.kX _ _ b h2 h1⟩
  have hwf : WF R' (fun b => B b ∨ R' b) g2 w' := by
   refine ⟨fun b hb => .inr hb,fun b hb => hb.elim (fun hb => Nat.lt_of_lt_of_le (hw.lt b hb) had.size) (WV b),fun n b hg => ?_,fun n k b hn hk => ?_,fun n i j b hi hj => ?_⟩
   ·by_cases hn : ∃ k,k ∈ keys ρ ∧ rn ρ k = n
    ·obtain ⟨k,hk,rfl⟩ := hn
     rw [hin k hk] at hg
     have h1 := had.wf.jW k b hg
     exact ⟨fun hB => h1.1 (hB.elim (had.b b) (had.wf.rb b)),h1.2⟩
    ·rw [hout n hn] at hg
     have h1 := hw.jW n b hg
     refine ⟨fun hB => ?_,Nat.lt_of_lt_of_le h1.2 had.size⟩
     rcases hB with hB | hB
     ·exact h1.1 hB
     ·rcases hR b hB with h2 | h2
      ·exact h1.1 (hw.rb b h2)
      ·exact absurd h1.2 (by omega)
   ·by_cases h1 : ∃ j,j ∈ keys ρ ∧ rn ρ j = n <;> by_cases h2 : ∃ j,j ∈ keys ρ ∧ rn ρ j = k
    ·obtain ⟨n0,hn0,rfl⟩ := h1
     obtain ⟨k0,hk0,rfl⟩ := h2
     rw [hin n0 hn0] at hn
     rw [hin k0 hk0] at hk
     rw [had.wf.kX n0 k0 b hn hk]
    ·obtain ⟨n0,hn0,rfl⟩ := h1
     rw [hin n0 hn0] at hn
     rw [hout k h2] at hk
     exact (CS k n0 b h2 hn0 hk hn).elim
    ·obtain ⟨k0,hk0,rfl⟩ := h2
     rw [hin k0 hk0] at hk
     rw [hout n h1] at hn
     exact (CS n k0 b h1 hk0 hn hk).elim
    ·rw [hout n h1] at hn
     rw [hout k h2] at hk
     exact hw.kX n k b hn hk
   ·by_cases hn : ∃ k,k ∈ keys ρ ∧ rn ρ k = n
    ·obtain ⟨k,hk,rfl⟩ := hn
     rw [hin k hk] at hi hj
     exact had.wf.nd k i j b hi hj
    ·rw [hout n hn] at hi hj
     exact hw.nd n i j b hi hj
  have JF : fG R B g w (W.map (rn ρ)) (X.map (rn ρ)) R' (fun b => B b ∨ R' b) g2 w' := by
   refine ⟨hwf,had.r,fun b hb => .inl hb,had.os,had.tape,had.output,had.size,fun b hb kW => had.heap b hb fun n hn => ?_,fun n hn => ?_,fun n hn b hb => ?_,fun n kW CW b cur e hg hh => ?_⟩
   ·rw [hgc n (Bl n hn)]
    exact kW _ (List.mem_map.2 ⟨n,hn,rfl⟩)
   ·by_cases h1 : ∃ k,k ∈ keys ρ ∧ rn ρ k = n
    ·obtain ⟨k,hk,rfl⟩ := h1
     rw [hin k hk,had.names k fun hkX => hn (List.mem_map.2 ⟨k,hkX,rfl⟩),hgc k hk]
    ·exact hout n h1
   ·obtain ⟨k,hkX,rfl⟩ := List.mem_map.1 hn
    rw [hin k (WX k hkX)] at hb
    rcases had.fresh k hkX b hb with h3 | ⟨m,hm,h3⟩
    ·exact .inl h3
    ·rw [hgc m (Bl m hm)] at h3
     exact .inr ⟨rn ρ m,List.mem_map.2 ⟨m,hm,rfl⟩,h3⟩
   ·obtain ⟨k,hkW,rfl⟩ := List.mem_map.1 kW
    exact had.shape k hkW (fun hkX => CW (List.mem_map.2 ⟨k,hkX,rfl⟩)) b cur e (by rw [hgc k (Bl k hkW)]; exact hg) hh
  refine ⟨u,R',_,g2,rfl,JF,hR,hvv.rn hv hin,fun p hp => ?_⟩
  obtain ⟨q,hq,rfl⟩ := List.mem_map.1 hp
  have h1 := List.all_eq_true.1 hdf q hq
  simp only [Bool.and_eq_true] at h1
  exact RO.rn (List.mem_of_elem_eq_true h1.1) h1.2 hin (XT q hq)
end
end Go.Fw
end
section
set_option linter.unusedVariables false
set_option linter.unusedSimpArgs false
set_option linter.unnecessarySimpa false
namespace Go.Fw
section
variable {P : Program} {o : Oper} {α : Type} {enc : α → List PV}
theorem LT.gY {x : Operand} {t e : TypeId} {q : Bool} {xs : List α} (ho : o.op = .call { callee := .builtin .len,args := #[x],argTypes := #[t] }) (ht : P.underlying t = some (.slice e)) :
  LT P o [(x,Cc (.pv (.xs q (xs.map enc))))] [] (Iv xs.length) [] [] [] := by
 have := LT.Zq (P := P) (o := o) (q := q) (els := xs.map enc) ho ht
 rwa [List.length_map] at this
theorem LT.fO {x y : Operand} {t e : TypeId} {i : Int} {q : Bool} {xs : List α} {b : α} (ho : o.op = .indexAddr t x y) (h : qX P t = some e) (hi : idx xs i = some b) (hs : bQ P e = (enc b).length) :
  LT P o [(x,Cc (.pv (.xs q (xs.map enc)))),(y,Iv i)] [] (Cc (.px q (enc b))) [] [] [] :=
 LT.ZV ho h (KF hi) (by rw [List.getElem?_map,KE hi]; rfl) hs.symm
theorem LT.gy {x y : Operand} {t e : TypeId} {i : Int} {n len : Nat} {xs : List α} {b : α} (hl : len = xs.length) (ho : o.op = .indexAddr t x y) (h : qX P t = some e) (hi : idx xs i = some b) :
  LT P o [(x,Cc (.loc n 0 len)),(y,Iv i)] [(n,.dU e (xs.map enc))] (Cc (.pl n (i.toNat * bQ P e))) [] [] [] := by
 subst hl
 exact LT.EX (LT.ZU ho h (KF hi) (ZP hi))
theorem LX {xs : List α} {i : Int} {b : α} (hi : idx xs i = some b) : (dG (xs.map enc))[i.toNat]? = some ((enc b).map .pv) := by
 simp [dG,List.getElem?_map,KE hi]
theorem LT.kQ {x : Operand} {t e : TypeId} {n off k : Nat} {i : Int} {xs : List α} {b : α} {p : PV} (ho : o.op = .load t x) (h : ja P t = some false) (hi : idx xs i = some b) (hk : (enc b)[k]? = some p)
  (ha : off = i.toNat * bQ P e + k) : LT P o [(x,Cc (.pl n off))] [(n,.dU e (xs.map enc))] (Cc (.pv p)) [] [] [] :=
 LT.EX (LT.Qk ho h (LX hi) (by rw [List.getElem?_map,hk]; rfl) ha)
theorem LT.Ht {x : Operand} {t e : TypeId} {n off s : Nat} {i : Int} {xs : List α} {b : α} {it : TypeInfo} (ho : o.op = .load t x) (h : ja P t = some true) (hit : P.info? t = some it) (hs : bQ P t = s) (hi : idx xs i = some b) (hl : (enc b).length = s)
  (ha : off = i.toNat * bQ P e) : LT P o [(x,Cc (.pl n off))] [(n,.dU e (xs.map enc))] (Ag ((enc b).map .pv)) [] [] [] := by
 have hd : ((((enc b).map CV.pv).drop 0).take (bQ P t)) = (enc b).map CV.pv := by
  rw [List.drop_zero,List.take_of_length_le]
  rw [List.length_map,hl,hs]; exact Nat.le_refl _
 have := LT.Ql (P := P) (o := o) (n := n) (e := e) (k := 0) ho h hit (LX (enc := enc) hi) ha (by rw [hd,List.length_map,hl,hs])
 rw [hd] at this
 exact LT.EX this
theorem LT.BU {x : Operand} {t e : TypeId} {n off : Nat} {cs : List CV} {c : CV} (ho : o.op = .load t x) (h : ja P t = some false) (hk : cs[off]? = some c) : LT P o [(x,Cc (.pl n off))] [(n,.row e [cs])] (Cc c) [] [] [] :=
 LT.Qk (j := 0) ho h rfl hk (by rw [Nat.zero_mul,Nat.zero_add])
theorem LT.Ul {x : Operand} {t e : TypeId} {n off s : Nat} {cs out : List CV} {it : TypeInfo} (ho : o.op = .load t x) (h : ja P t = some true) (hit : P.info? t = some it) (hs : bQ P t = s) (ho2 : (cs.drop off).take s = out) (hl : out.length = s) :
  LT P o [(x,Cc (.pl n off))] [(n,.row e [cs])] (Ag out) [] [] [] := by
 have hd : ((cs.drop off).take (bQ P t)) = out := by rw [hs,ho2]
 have := LT.Ql (P := P) (o := o) (n := n) (off := off) (e := e) (els := [cs]) (j := 0) (k := off) ho h hit rfl (by rw [Nat.zero_mul,Nat.zero_add]) (by rw [hd,hl,hs])
 rwa [hd] at this
theorem LT.Nr {t e : TypeId} {n off s : Nat} {x y : Operand} {cs out : List CV} {v : SV} {it : TypeInfo} (ho : o.op = .store t x y) (hd : o.dst = none) (hit : P.info? t = some it) (hs : bQ P t = s) (hl : (jf v).length = s) (hk : off + s ≤ cs.length)
  (hout : ow cs off (jf v) = out) : LT P o [(x,Cc (.pl n off)),(y,.s v)] [(n,.row e [cs])] (.dI []) [(n,.row e [out])] [n] [] := by
 have := LT.store (P := P) (o := o) (n := n) (off := off) (e := e) (els := [cs]) (j := 0) (k := off) ho hd hit hs hl rfl (by rw [Nat.zero_mul,Nat.zero_add]) hk
 subst hout
 exact this
theorem LT.qG {t e : TypeId} {n off k s : Nat} {x y : Operand} {i : Int} {xs : List α} {b b' : α} {v : SV} {it : TypeInfo} (ho : o.op = .store t x y) (hd : o.dst = none) (hit : P.info? t = some it) (hs : bQ P t = s) (hl : (jf v).length = s) (hi : idx xs i = some b)
  (ha : off = i.toNat * bQ P e + k) (hk : k + s ≤ (enc b).length) (hb : ow ((enc b).map .pv) k (jf v) = (enc b').map .pv) :
  LT P o [(x,Cc (.pl n off)),(y,.s v)] [(n,.dU e (xs.map enc))] (.dI []) [(n,.dU e ((xs.set i.toNat b').map enc))] [n] [] := by
 have := LT.store (P := P) (o := o) (n := n) (off := off) (e := e) (els := dG (xs.map enc)) ho hd hit hs hl (LX hi) ha (by simpa using hk)
 have e1 : (dG (xs.map enc)).set i.toNat (ow ((enc b).map .pv) k (jf v)) = dG ((xs.set i.toNat b').map enc) := by
  rw [hb]
  simp [dG,List.map_set]
 rw [e1] at this
 exact LT.zA (Y := []) (LT.EX (by rw [EN]; exact this))
section
variable {t e : TypeId} {x y : Operand} {n n2 len QZ : Nat} {xs ys : List α} {z : Value} {s lm : Nat} {q : Bool}
theorem Ou (h : ∀ a,(enc a).length = s) : ∀ cs ∈ ys.map enc,cs.length = s := fun cs hcs => by
 obtain ⟨a,_,rfl⟩ := List.mem_map.1 hcs
 exact h a
theorem LT.sF (hl : len = xs.length) (ho : o.op = .call { callee := .builtin .append,args := #[x,y],argTypes := #[t,t] }) (ht : P.underlying t = some (.slice e)) (hz : TI P e z s lm) (hzs : z.cells.size = s) (hs : 0 < s) (hb : lm ≤ 65536)
  (hl2 : ∀ a,(enc a).length = s) (hlim : xs.length + ys.length ≤ pI) :
  LT P o [(x,Cc (.loc n 0 len)),(y,Cc (.pv (.xs q (ys.map enc))))] [(n,.dU e (xs.map enc))] (Cc (.loc n 0 (xs ++ ys).length)) [(n,.dU e ((xs ++ ys).map enc))] [n] [n] := by
 subst hl
 have := LT.Uh (P := P) (o := o) (n := n) (q := q) (iV := xs.map enc) (kC := ys.map enc) ho ht hz hzs hs hb (Ou hl2) (by simpa using hlim)
 rwa [List.length_map,List.length_map,← List.map_append,← List.length_append] at this
theorem LT.jg (hl : len = xs.length) (hl2 : QZ = ys.length) (ho : o.op = .call { callee := .builtin .append,args := #[x,y],argTypes := #[t,t] }) (ht : P.underlying t = some (.slice e)) (hz : TI P e z s lm) (hzs : z.cells.size = s) (hs : 0 < s) (hb : lm ≤ 65536)
  (hel : ∀ a,(enc a).length = s) (hlim : xs.length + ys.length ≤ pI) :
  LT P o [(x,Cc (.loc n 0 len)),(y,Cc (.loc n2 0 QZ))] [(n,.dU e (xs.map enc)),(n2,.dU e (ys.map enc))] (Cc (.loc n 0 (xs ++ ys).length)) [(n,.dU e ((xs ++ ys).map enc))] [n] [n] := by
 subst hl; subst hl2
 have := LT.Ug (P := P) (o := o) (n := n) (n2 := n2) (iV := xs.map enc) (kC := ys.map enc) ho ht hz hzs hs hb (Ou hel) (by simpa using hlim)
 rwa [List.length_map,List.length_map,← List.map_append,← List.length_append] at this
end
theorem LT.eY {t e : TypeId} {len n : Nat} {parts : Array (Nat × Operand)} (ps : Parts) {z : Value} {s b : Nat} {zc : List CV} (xs : List α) (ho : o.op = .buildSlice t len parts) (hps : parts.toList = Parts.ops ps) (he : P.underlying t = some (.slice e)) (hz : TI P e z s b)
  (hzc : z.cells.toList.map sC = zc) (h1 : z.cells.toList.all (·.oneCell') = true) (hsz : zc.length = s) (hlen : xs.length = len) (hmax : len * s ≤ 16777216 ∧ 0 < s) (hel : ∀ a,(enc a).length = s)
  (hf : zC (fun i => some (i * s,s)) ((List.range (len * s)).map fun i => zc.getD (i % s) .junk) (Parts.vals ps) = some (dG (xs.map enc)).flatten) :
  LT P o (Parts.ins ps) [] (Cc (.loc n 0 xs.length)) [(n,.dU e (xs.map enc))] [] [n] := by
 have hlen' : (dG (xs.map enc)).length = xs.length := by simp [dG]
 have := LT.buildSlice (P := P) (o := o) (n := n) ps (els := dG (xs.map enc)) ho hps he hz hzc h1 hsz (hlen'.trans hlen) hmax (by
  refine List.all_eq_true.2 fun cs hcs => ?_
  obtain ⟨c,hc,rfl⟩ := List.mem_map.1 hcs
  obtain ⟨a,_,rfl⟩ := List.mem_map.1 hc
  rw [List.length_map,hel a]
  exact Nat.beq_refl s) hf
 rw [hlen'] at this
 exact this.zA
theorem LT.TK {t e : TypeId} {n : Nat} {x y : Operand} {len : Int} {z : Value} {s b : Nat} {zc : List CV} (a : α) (ho : o.op = .makeSlice t x y) (he : P.underlying t = some (.slice e)) (hz : TI P e z s b)
  (hzc : z.cells.toList.map sC = zc) (h1 : z.cells.toList.all (·.oneCell') = true) (hsz : zc.length = s) (hs : 0 < s) (hb : b ≤ 65536) (hl : 0 ≤ len ∧ len ≤ pI) (ha : (enc a).map .pv = zc) :
  LT P o [(x,Iv len),(y,Iv len)] [] (Cc (.loc n 0 (List.replicate len.toNat a).length)) [(n,.dU e ((List.replicate len.toNat a).map enc))] [] [n] := by
 have := LT.makeSlice (P := P) (o := o) (n := n) (x := x) (y := y) ho he hz hzc h1 hsz hs hb hl
 have e1 : List.replicate len.toNat zc = dG ((List.replicate len.toNat a).map enc) := by simp [dG,List.map_replicate,ha]
 have e2 : (List.replicate len.toNat zc).length = (List.replicate len.toNat a).length := by simp
 rw [e2,e1] at this
 exact this.zA
theorem nZ.dN {sh : Mem} {n len : Nat} {e : TypeId} {xs : List α} (hl : len = xs.length) (h : lk sh n = some (.dU e (xs.map enc))) : nZ sh (.loc n 0 len) (.pv (.xs false (xs.map enc))) := by
 subst hl
 have := nZ.loc h
 rwa [List.length_map] at this
def wM (X : List Nat) : Mem → Prop
 | [] => True
 | (_,o) :: r => jU X o = o ∧ wM X r
theorem wM.spec {X : List Nat} : ∀ {us : Mem},wM X us → ∀ p ∈ us,jU X p.2 = p.2
 | [],_,p,hp => by cases hp
 | (n,o) :: r,h,p,hp => by
  cases hp with
  | head => exact h.1
  | tail _ hp => exact wM.spec h.2 p hp
theorem LT.Nu {cf : Operand} {f : FuncId} {ops : Array Operand} {ts : Array TypeId} {xs ys : List SV} {us sh df : Mem} {v : AV} {W X : List Nat} (hf : Fn P f ys us v df W X)
  (ho : o.op = .call { callee := .value cf,args := ops,argTypes := ts }) (hb : dD P f = true) (hsh : kS sh xs ys) (hlen : ops.size = xs.length)
  (hside : (kH (keys sh) (W ++ X ++ keys us ++ keys df ++ []) && eP W (keys us)) = true) (hus : wM (keys sh) us) : LT P o ((cf,Cc (.fn f [])) :: Ef ops.toList xs) (us ++ sh) v df W X :=
 LT.call (caps := []) (by rw [List.map_nil,List.append_nil]; exact hf) ho hb hlen hsh hside hus.spec
end
section
variable {P : Program} {C : Ctx} {σ : Slots} {m : Mem}
theorem St.Q5 {R B : Nat → Prop} {g : Nat → GS} {a : Act} {w : World} (hs : St P C σ m R B g a w) (n : Nat) (hn : n ∉ C.pn) (e : TypeId) : St P C (jw [n] σ) ((n,.dU e []) :: iF [n] m) R B (upd g n .nil) a w := by
 have had : fG R B g w [] [n] R B (upd g n .nil) w := by
  refine ⟨hs.wf.upd n _ (Nat.le_refl _) (fun b hb => hb.elim) (fun i j b hi => by cases hi),fun _ h => h,fun _ h => h,rfl,rfl,rfl,Nat.le_refl _,fun _ _ _ => rfl,fun k hk => upd_ne g _ (by simpa using hk),fun k hk b hb => ?_,fun k hk => by cases hk⟩
  ·have : k = n := by simpa using hk
   subst this
   rw [upd_same] at hb; exact hb.elim
 exact hs.step (us := []) (df := [(n,.dU e [])]) (W := []) (X := [n]) (d := none) (v := .dI []) (u := undef) trivial (fun _ h => by cases h) (fun p hp => by
   have : p = (n,.dU e []) := by simpa using hp
   subst this; exact .inl (by simp)) rfl (fun k hk => by
   have : k = n := by simpa using hk
   subst this; exact hn) had (fun b hb => .inl hb) (fun h => by cases h) (GZ (.inl ⟨upd_same ..,rfl⟩))
def yN (n k : Nat) (cs : List CV) : List CV := cs.set k (.loc n 0 0)
theorem aAA {w : World} {R B : Nat → Prop} {g : Nat → GS} {n k : Nat} {cs : List CV} {us : Nat → Option Value} (hg : g n = .nil) (hk : cs[k]? = some (sC aO)) (h : ∀ (j : Nat) x,cs[j]? = some x → ∃ u,us j = some u ∧ RC P w R B g x u) :
  ∀ (j : Nat) x,(yN n k cs)[j]? = some x → ∃ u,us j = some u ∧ RC P w R B g x u := fun j x hj => by
 unfold yN at hj
 rw [List.getElem?_set] at hj
 by_cases hkj : k = j
 ·subst hkj
  have hlt : k < cs.length := (List.getElem?_eq_some_iff.1 hk).1
  rw [if_pos rfl,if_pos hlt] at hj
  injection hj with hj
  subst hj
  obtain ⟨u,h1,h2⟩ := h k _ hk
  obtain ⟨_,h2⟩ := h2
  cases h2
  exact ⟨aO,h1,rfl,.inl ⟨hg,rfl,rfl,rfl⟩⟩
 ·rw [if_neg hkj] at hj
  exact h j x hj
theorem Zj {n k : Nat} {cs : List CV} (h : cs[k]? = some (sC aO)) : (cs.map (bP [n]))[k]? = some (sC aO) := by rw [List.getElem?_map,h]; rfl
theorem aU.qC (b k n : Nat) (e : TypeId) {t : TypeId} {cs : List CV} (hn : C.pn.elem n = false) (hbn : Nat.beq b n = false) (h : lk m b = some (.row t [cs])) (hk : cs[k]? = some (sC aO)) :
  aU P C σ m (jw [n] σ) ((b,.row t [yN n k (cs.map (bP [n]))]) :: (n,.dU e []) :: iF [n] m) := fun R B g a w hs => by
 have h1 := hs.Q5 n (lN hn) e
 have hne : b ≠ n := Nat.ne_of_beq_eq_false hbn
 have hlk : lk ((n,Ob.dU e []) :: iF [n] m) b = some (.row t [cs.map (bP [n])]) := by
  show (bif Nat.beq n b then some (Ob.dU e []) else lk (iF [n] m) b) = _
  have hnb : Nat.beq n b = false := by
   cases hx : Nat.beq n b with
   | false => rfl
   | true => exact absurd (Nat.eq_of_beq_eq_true hx).symm hne
  rw [hnb,cond_false,F7,if_neg (by simpa using hne),h]
  rfl
 refine ⟨R,B,_,{ h1 with ob := fun j o hj => ?_,ow := fun j o c hj hg => ?_ }⟩
 ·change (bif Nat.beq b j then some (Ob.row t [yN n k (cs.map (bP [n]))]) else lk ((n,Ob.dU e []) :: iF [n] m) j) = some o at hj
  cases hb : Nat.beq b j with
  | false => rw [hb] at hj; exact h1.ob j o hj
  | true =>
   rw [hb,cond_true] at hj
   injection hj with hj
   subst hj
   have := Nat.eq_of_beq_eq_true hb
   subst this
   have h2 := h1.ob b _ hlk
   rcases h2 with ⟨_,h3⟩ | ⟨c,cur,h3,h4,h5,h6,h7⟩
   ·cases h3
   ·refine .inr ⟨c,cur,h3,h4,fun x hx => ?_,by simpa using h6,fun j k' x y hj hk' => ?_⟩
    ·have : x = yN n k (cs.map (bP [n])) := by simpa using hx
     subst this
     have := h5 (cs.map (bP [n])) (by simp)
     simpa [yN] using this
    ·cases j with
     | zero =>
      simp at hj
      subst hj
      exact aAA (us := fun k' => cur[0 * bQ P t + k']?) (upd_same ..) (Zj hk) (fun q y hq => h7 0 q _ y rfl hq) k' y hk'
     | succ j => simp at hj
 ·change (bif Nat.beq b j then some (Ob.row t [yN n k (cs.map (bP [n]))]) else lk ((n,Ob.dU e []) :: iF [n] m) j) = some o at hj
  cases hb : Nat.beq b j with
  | false => rw [hb] at hj; exact h1.ow j o c hj hg
  | true =>
   have := Nat.eq_of_beq_eq_true hb
   subst this
   exact h1.ow b _ c hlk hg
end
end Go.Fw
end
section
set_option linter.unusedVariables false
set_option linter.unusedSimpArgs false
set_option linter.unnecessarySimpa false
namespace Go.Fw
def oU (n k j : Nat) : Nat := bif Nat.beq j n then k else j
def rW (n k : Nat) : CV → CV
 | .loc j o l => .loc (oU n k j) o l
 | .pl j o => .pl (oU n k j) o
 | .fn f caps => .fn f (caps.map (oU n k))
 | .mref j => .mref (oU n k j)
 | .tl j i o l => .tl (oU n k j) i o l
 | .tpl j i o => .tpl (oU n k j) i o
 | x => x
def Ko (n k : Nat) : SV → SV
 | .c x => .c (rW n k x)
 | .agg cs => .agg (cs.map (rW n k))
def EH (n k : Nat) : AV → AV
 | .s x => .s (Ko n k x)
 | .dI xs => .dI (xs.map (Ko n k))
def GX (n k : Nat) : Ob → Ob
 | .row e els => .row e (els.map (·.map (rW n k)))
 | .dU e els => .dU e els
 | .mp es => .mp es
 | .pool e rows => .pool e rows
 | .iY e p lens => .iY e (oU n k p) lens
 | .unk => .unk
def Kq (n k : Nat) (σ : Slots) : Slots := σ.map fun p => (p.1,EH n k p.2)
def Qw (n k : Nat) (m : Mem) : Mem := m.map fun p => (oU n k p.1,GX n k p.2)
def oD (n k : Nat) (g : Nat → GS) : Nat → GS := fun j => if j = k then g n else if j = n then .dead else g j
theorem vw {n k j : Nat} (g : Nat → GS) (hj : j ≠ k) : oD n k g (oU n k j) = g j := by
 unfold oU
 cases hb : Nat.beq j n with
 | true =>
  have := Nat.eq_of_beq_eq_true hb
  subst this
  simp [oD]
 | false =>
  have := Nat.ne_of_beq_eq_false hb
  simp [oD,hj,this]
section
variable {P : Program} {w : World} {R B : Nat → Prop} {g : Nat → GS} {n k : Nat}
theorem yM {j k : Nat} (h : [k].elem j = false) : j ≠ k := by
 have := lN h
 simpa using this
theorem RC.mv {x : CV} {v : Value} (hz : iE [k] x = true) (h : RC P w R B g x v) : RC P w R B (oD n k g) (rW n k x) v := by
 refine ⟨h.1,?_⟩
 have h2 := h.2
 cases x with
 | pv p => exact h2
 | px q cells => exact h2
 | loc j off len =>
  have hn := vw (n := n) g (yM (by simpa [iE] using hz))
  rcases h2 with ⟨h3,h4⟩ | h3 | ⟨b,cap,cur,e,h3,h4⟩
  ·exact .inl ⟨hn.trans h3,h4⟩
  ·exact .inr (.inl h3)
  ·exact .inr (.inr ⟨b,cap,cur,e,hn.trans h3,h4⟩)
 | pl j off =>
  obtain ⟨b,h3,h4⟩ := h2
  exact ⟨b,(vw g (yM (by simpa [iE] using hz))).trans h3,h4⟩
 | fn f caps =>
  obtain ⟨vs,h3,h4,h5⟩ := h2
  refine ⟨vs,h3,by simpa using h4,fun i j hk => ?_⟩
  rw [List.getElem?_map] at hk
  cases hc : caps[i]? with
  | none => rw [hc] at hk; cases hk
  | some n0 =>
   rw [hc] at hk
   injection hk with hk
   subst hk
   obtain ⟨b,h6,h7⟩ := h5 i n0 hc
   have hz' : caps.any [k].elem = false := by simpa [iE] using hz
   have hne : [k].elem n0 = false := by
    cases hx : [k].elem n0 with
    | false => rfl
    | true =>
     have : caps.any [k].elem = true := List.any_eq_true.2 ⟨n0,List.mem_of_getElem? hc,hx⟩
     rw [hz'] at this
     cases this
   exact ⟨b,(vw g (yM hne)).trans h6,h7⟩
 | mref j =>
  obtain ⟨b,h3,h4⟩ := h2
  exact ⟨b,(vw g (yM (by simpa [iE] using hz))).trans h3,h4⟩
 | tl j i off len =>
  have hn := vw (n := n) g (yM (by simpa [iE] using hz))
  rcases h2 with ⟨h3,h4⟩ | h3 | ⟨b,cap,cur,e,h3,h4⟩
  ·exact .inl ⟨by rw [hn]; exact h3,h4⟩
  ·exact .inr (.inl h3)
  ·exact .inr (.inr ⟨b,cap,cur,e,by rw [hn]; exact h3,h4⟩)
 | tpl j i off =>
  obtain ⟨b,h3,h4⟩ := h2
  exact ⟨b,by rw [vw (n := n) g (yM (by simpa [iE] using hz))]; exact h3,h4⟩
 | junk => trivial
theorem RF (X : List Nat) (x : CV) : iE X (bP X x) = true := by
 cases x with
 | loc j o l => cases hx : X.elem j <;> simp only [iE,bP,hx,cond_true,cond_false,Bool.not_false]
 | pl j o => cases hx : X.elem j <;> simp only [iE,bP,hx,cond_true,cond_false,Bool.not_false]
 | fn f caps => cases hx : caps.any X.elem <;> simp only [iE,bP,hx,cond_true,cond_false,Bool.not_false]
 | mref j => cases hx : X.elem j <;> simp only [iE,bP,hx,cond_true,cond_false,Bool.not_false]
 | tl j i o l => cases hx : X.elem j <;> simp only [iE,bP,hx,cond_true,cond_false,Bool.not_false]
 | tpl j i o => cases hx : X.elem j <;> simp only [iE,bP,hx,cond_true,cond_false,Bool.not_false]
 | _ => rfl
theorem OZ {xs : List CV} {us : Nat → Option Value} (h : ∀ (i : Nat) x,(xs.map (bP [k]))[i]? = some x → ∃ u,us i = some u ∧ RC P w R B g x u) :
  ∀ (i : Nat) x,((xs.map (bP [k])).map (rW n k))[i]? = some x → ∃ u,us i = some u ∧ RC P w R B (oD n k g) x u := fun i x hi => by
 rw [List.getElem?_map] at hi
 cases hc : (xs.map (bP [k]))[i]? with
 | none => rw [hc] at hi; cases hi
 | some y =>
  rw [hc] at hi
  injection hi with hi
  subst hi
  obtain ⟨u,h1,h2⟩ := h i y hc
  refine ⟨u,h1,h2.mv ?_⟩
  rw [List.getElem?_map] at hc
  cases hx : xs[i]? with
  | none => rw [hx] at hc; cases hc
  | some z =>
   rw [hx] at hc
   injection hc with hc
   subst hc
   exact RF _ _
theorem RS.mv {x : SV} {v : Value} (h : RS P w R B g (mF [k] x) v) : RS P w R B (oD n k g) (Ko n k (mF [k] x)) v := by
 cases x with
 | c x => exact RC.mv (RF _ _) h
 | agg cs =>
  obtain ⟨vs,h1,h2,h3⟩ := h
  exact ⟨vs,h1,by simpa using h2,OZ (us := fun i => vs[i]?) h3⟩
theorem RA.mv {x : AV} {v : Value} (h : RA P w R B g (lF [k] x) v) : RA P w R B (oD n k g) (EH n k (lF [k] x)) v := by
 cases x with
 | s x => exact RS.mv h
 | dI xs =>
  obtain ⟨vs,h1,h2,h3⟩ := h
  refine ⟨vs,h1,by simpa using h2,fun i x hi => ?_⟩
  rw [List.getElem?_map,List.getElem?_map] at hi
  cases hx : xs[i]? with
  | none => rw [hx] at hi; cases hi
  | some z =>
   rw [hx] at hi
   injection hi with hi
   subst hi
   obtain ⟨u,h4,h5⟩ := h3 i (mF [k] z) (by rw [List.getElem?_map,hx]; rfl)
   exact ⟨u,h4,h5.mv⟩
theorem RO.mv {j : Nat} {o : Ob} (hj : j ≠ k) (h : RO P w R B g j (jU [k] o)) : RO P w R B (oD n k g) (oU n k j) (GX n k (jU [k] o)) := by
 have hg := vw (n := n) g hj
 have hrow : ∀ {e : TypeId} {els : List (List CV)},dh P w R B g j e (els.map (·.map (bP [k]))) → dh P w R B (oD n k g) (oU n k j) e ((els.map (·.map (bP [k]))).map (·.map (rW n k))) := fun {e els} h => by
  rcases h with ⟨h1,h2⟩ | ⟨b,cur,h1,h2,h3,h4,h5⟩
  ·exact .inl ⟨hg.trans h1,by rw [h2]; rfl⟩
  ·refine .inr ⟨b,cur,hg.trans h1,h2,fun cs hcs => ?_,by simpa using h4,fun i q cs x hi hq => ?_⟩
   ·obtain ⟨c0,hc0,rfl⟩ := List.mem_map.1 hcs
    simpa using h3 c0 hc0
   ·rw [List.getElem?_map,List.getElem?_map] at hi
    cases hc : els[i]? with
    | none => rw [hc] at hi; cases hi
    | some c0 =>
     rw [hc] at hi
     injection hi with hi
     subst hi
     exact OZ (us := fun q => cur[i * bQ P e + q]?) (fun q y hq => h5 i q _ y (by rw [List.getElem?_map,hc]; rfl) hq) q x hq
 cases o with
 | row e els => exact hrow h
 | dU e els =>
  have h' : dh P w R B g j e ((dG els).map (·.map (bP [k]))) := by rw [EN]; exact h
  have := hrow h'
  rw [EN] at this
  have e1 : (dG els).map (·.map (rW n k)) = dG els := by simp [dG,rW,Function.comp_def]
  rw [e1] at this
  exact this
 | mp es =>
  obtain ⟨b,lU,clock,h1,h2⟩ := h
  exact ⟨b,lU,clock,hg.trans h1,h2⟩
 | pool e rows =>
  obtain ⟨⟨bs,h1,h2⟩,h3⟩ := h
  exact ⟨⟨bs,hg.trans h1,h2⟩,by rw [hg]; exact h3⟩
 | iY e p lens =>
  change RO P w R B g j (bif [k].elem p then .unk else .iY e p lens) at h
  show RO P w R B (oD n k g) (oU n k j) (GX n k (bif [k].elem p then .unk else .iY e p lens))
  cases hx : [k].elem p with
  | true => trivial
  | false =>
   rw [hx] at h
   have h' : dh P w R B g j e ((lJ p lens).map (·.map (bP [k]))) := by
    rw [MG hx]
    exact h
   have := hrow h'
   rw [MG hx] at this
   have e1 : (lJ p lens).map (·.map (rW n k)) = lJ (oU n k p) lens := by
    refine List.ext_getElem? fun i => ?_
    simp only [lJ,List.getElem?_map,List.getElem?_mapIdx,Option.map_map]
    cases lens[i]? <;> simp [rW]
   rw [e1] at this
   exact this
 | unk => trivial
end
section
variable {P : Program} {C : Ctx} {σ : Slots} {m : Mem} {n k : Nat}
theorem Qi (n k : Nat) : ∀ (σ : Slots) (t : Nat),lk (Kq n k σ) t = (lk σ t).map (EH n k)
 | [],_ => rfl
 | (j,v) :: r,t => by
  show (bif Nat.beq j t then some (EH n k v) else lk (Kq n k r) t) = Option.map (EH n k) (bif Nat.beq j t then some v else lk r t)
  cases Nat.beq j t
  ·exact Qi n k r t
  ·rfl
theorem Qq {m : Mem} {j : Nat} {o : Ob} (h : lk (Qw n k m) j = some o) : ∃ j0 o0,(j0,o0) ∈ m ∧ j = oU n k j0 ∧ o = GX n k o0 := by
 obtain ⟨p,hp,he⟩ := List.mem_map.1 (uz h)
 injection he with h1 h2
 exact ⟨p.1,p.2,hp,h1.symm,h2.symm⟩
def Hy : Mem → Bool
 | [] => true
 | (n,_) :: r => !(keys r).elem n && Hy r
theorem TR : ∀ {m : Mem} {n : Nat} {o : Ob},Hy m = true → (n,o) ∈ m → lk m n = some o
 | [],_,_,_,h => by cases h
 | (j,x) :: r,n,o,hu,h => by
  unfold Hy at hu
  simp only [Bool.and_eq_true,Bool.not_eq_true'] at hu
  show (bif Nat.beq j n then some x else lk r n) = some o
  cases h with
  | head => rw [Nat.beq_refl]; rfl
  | tail _ h =>
   have hne : j ≠ n := fun e => lN hu.1 (e ▸ List.mem_map.2 ⟨_,h,rfl⟩)
   cases hb : Nat.beq j n with
   | true => exact absurd (Nat.eq_of_beq_eq_true hb) hne
   | false => exact TR hu.2 h
theorem aU.mv (n k : Nat) (hp : (!C.pn.elem n && !C.pn.elem k) = true) (hu : Hy m = true) : aU P C σ m (Kq n k (jw [k] σ)) (Qw n k (iF [k] m)) := fun R B g a w hs => by
 simp only [Bool.and_eq_true,Bool.not_eq_true'] at hp
 have hpn := lN hp.1
 have hpk := lN hp.2
 -- forget k first
 have had : fG R B g w [] [k] R B (upd g k .dead) w := by
  refine ⟨hs.wf.upd k _ (Nat.le_refl _) (fun b hb => hb.elim) (fun i j b hi => by cases hi),fun _ h => h,fun _ h => h,rfl,rfl,rfl,Nat.le_refl _,fun _ _ _ => rfl,fun i hi => upd_ne g _ (by simpa using hi),fun i hi b hb => ?_,fun i hi => by cases hi⟩
  ·have : i = k := by simpa using hi
   subst this
   rw [upd_same] at hb; exact hb.elim
 have h1 : St P C (jw [k] σ) (iF [k] m) R B (upd g k .dead) a w :=
  hs.step (us := []) (df := []) (W := []) (X := [k]) (d := none) (v := .dI []) (u := undef) trivial (fun _ h => by cases h) (fun p hp => by cases hp) rfl (fun j hj => by
   have : j = k := by simpa using hj
   subst this; exact hpk) had (fun b hb => .inl hb) (fun h => by cases h) (fun p hp => by cases hp)
 have hjm : ∀ (m0 : Mem) (j : Nat) (o : Ob),(j,o) ∈ iF [k] m0 → j ≠ k ∧ ∃ o0,(j,o0) ∈ m0 ∧ o = jU [k] o0 := by
  intro m0
  induction m0 with
  | nil => intro j o h; cases h
  | cons p r ih =>
   intro j o h
   obtain ⟨i,x⟩ := p
   unfold iF at h
   cases hi : [k].elem i with
   | true =>
    rw [hi,cond_true] at h
    obtain ⟨h1,o0,h2,h3⟩ := ih j o h
    exact ⟨h1,o0,List.mem_cons_of_mem _ h2,h3⟩
   | false =>
    rw [hi,cond_false] at h
    cases h with
    | head => exact ⟨yM hi,x,List.mem_cons_self,rfl⟩
    | tail _ h =>
     obtain ⟨h1,o0,h2,h3⟩ := ih j o h
     exact ⟨h1,o0,List.mem_cons_of_mem _ h2,h3⟩
 have hlk : ∀ j o,(j,o) ∈ iF [k] m → lk (iF [k] m) j = some o := fun j o hm => by
  obtain ⟨h2,o0,h3,rfl⟩ := hjm m j o hm
  rw [F7,if_neg (by simpa using h2),TR hu h3]
  rfl
 generalize upd g k .dead = g1 at h1
 refine ⟨R,B,oD n k g1,{ h1 with wf := ⟨h1.wf.rb,h1.wf.lt,fun j b hj => ?_,fun i j b hi hj => ?_,fun q i j b hi hj => ?_⟩,sl := fun t v ht => ?_,ob := fun j o hj => ?_,ow := fun j o b hj hb => ?_,pin := fun j hj => ?_ }⟩
 ·unfold oD at hj
  split at hj
  ·exact h1.wf.jW n b hj
  ·split at hj
   ·exact hj.elim
   ·exact h1.wf.jW j b hj
 ·unfold oD at hi hj
  split at hi
  ·rename_i e1
   split at hj
   ·rename_i e2; rw [e1,e2]
   ·split at hj
    ·exact hj.elim
    ·rename_i e3; exact absurd (h1.wf.kX n j b hi hj).symm e3
  ·split at hi
   ·exact hi.elim
   ·rename_i e1 e2
    split at hj
    ·exact absurd (h1.wf.kX i n b hi hj) e2
    ·split at hj
     ·exact hj.elim
     ·exact h1.wf.kX i j b hi hj
 ·unfold oD at hi hj
  split at hi
  ·rename_i e1
   rw [if_pos e1] at hj
   exact h1.wf.nd n i j b hi hj
  ·rename_i e1
   rw [if_neg e1] at hj
   split at hi
   ·cases hi
   ·rename_i e2
    rw [if_neg e2] at hj
    exact h1.wf.nd q i j b hi hj
 ·rw [Qi,DK] at ht
  cases hl : lk σ t with
  | none => rw [hl] at ht; cases ht
  | some x =>
   rw [hl] at ht
   injection ht with ht
   subst ht
   exact RA.mv (h1.sl t _ (by rw [DK,hl]; rfl))
 ·obtain ⟨j0,o0,hm,rfl,rfl⟩ := Qq hj
  obtain ⟨h2,o1,h3,rfl⟩ := hjm m j0 o0 hm
  exact RO.mv h2 (h1.ob j0 _ (hlk j0 _ hm))
 ·obtain ⟨j0,o0,hm,rfl,rfl⟩ := Qq hj
  obtain ⟨h2,_⟩ := hjm m j0 o0 hm
  rw [vw g1 h2] at hb
  exact h1.ow j0 o0 b (hlk j0 o0 hm) hb
 ·have e1 : j ≠ k := fun e => hpk (e ▸ hj)
  have e2 : j ≠ n := fun e => hpn (e ▸ hj)
  have : oD n k g1 j = g1 j := by simp [oD,e1,e2]
  rw [this]
  exact h1.pin j hj
end
end Go.Fw
end
section
set_option linter.unusedVariables false
set_option linter.unusedSimpArgs false
set_option linter.unnecessarySimpa false
namespace Go.Fw
def qH : List Int → List Int → Bool
 | [],[] => true
 | a :: r,b :: s => (a == b) && qH r s
 | _,_ => false
def Fp (P : Program) : Nat → List Field → Bool
 | _,[] => true
 | k,f :: r => (f.name != "_") && Nat.beq f.offset k && (match P.underlying f.type with | some (.int _) => true | _ => false) && Fp P (k + 1) r
def Fj (P : Program) (t : TypeId) : Option Nat := match P.underlying t with
 | some (.struct fs) => if (Fp P 0 fs.toList && !P.stoodInHeld t && !P.eqGuardType P.depth t) = true then some fs.size else none
 | _ => none
section
variable {P : Program} {o : Oper}
def tX (l : List Int) : Array Value := (l.map fun n => Value.int .i64 n).toArray
theorem SG (w : World) (d : Nat) : ∀ (fs : List Field) (k : Nat) (xs ys : List Int),Fp P k fs = true → xs.length = k + fs.length → ys.length = k + fs.length →
  (Op.eqFields (d + 1) (tX xs) (tX ys) fs).run P w = .ok (qH (xs.drop k) (ys.drop k)) w
 | [],k,xs,ys,_,hx,hy => by
  rw [List.drop_eq_nil_of_le (by simp at hx; omega),List.drop_eq_nil_of_le (by simp at hy; omega)]
  rfl
 | f :: r,k,xs,ys,h,hx,hy => by
  unfold Fp at h
  simp only [Bool.and_eq_true] at h
  obtain ⟨⟨⟨h1,h2⟩,h3⟩,h4⟩ := h
  have hoff : f.offset = k := Nat.eq_of_beq_eq_true h2
  have hname : f.name ≠ "_" := by simpa using h1
  have hkx : k < xs.length := by simp at hx; omega
  have hky : k < ys.length := by simp at hy; omega
  have hkind : ∃ kd,P.underlying f.type = some (.int kd) := by
   split at h3
   ·exact ⟨_,by assumption⟩
   ·cases h3
  obtain ⟨kd,hk⟩ := hkind
  have hpx : (part f.type (tX xs) f.offset).run P w = .ok (.int .i64 xs[k]) w := by simp [part,isAgg,run_underlying hk,hoff,tX,List.getElem?_map,hkx]
  have hpy : (part f.type (tX ys) f.offset).run P w = .ok (.int .i64 ys[k]) w := by simp [part,isAgg,run_underlying hk,hoff,tX,List.getElem?_map,hky]
  have ih := SG w d r (k + 1) xs ys h4 (by simp at hx ⊢; omega) (by simp at hy ⊢; omega)
  rw [List.drop_eq_getElem_cons hkx,List.drop_eq_getElem_cons hky]
  unfold Op.eqFields
  rw [if_pos hname]
  simp only [Sem.run_bind,hpx,hpy,Result.andThen_ok,run_equalIn_int w d f.type .i64 kd _ _ hk]
  cases hb : (xs[k] == ys[k]) with
  | true => simp [ih,qH,hb]
  | false => simp [qH,hb]
theorem aAc {t : TypeId} {n : Nat} (h : Fj P t = some n) (xs ys : List Int) (hx : xs.length = n) (hy : ys.length = n) (w : World) :
  (Op.equalIn 10000 t (.agg (tX xs)) (.agg (tX ys))).run P w = .ok (qH xs ys) w ∧ P.eqGuardType P.depth t = false := by
 unfold Fj at h
 split at h
 ·rename_i fs hfs
  split at h
  ·rename_i hc
   simp only [Bool.and_eq_true,Bool.not_eq_true'] at hc
   injection h with h
   subst h
   have hf : P.fieldsOf t = fs := by simp [Program.fieldsOf,hfs]
   refine ⟨?_,hc.2⟩
   rw [show (10000 : Nat) = 9999 + 1 from rfl,run_equalIn_agg w 9999 t _ _ (by rw [hf]; exact hfs) hc.1.2,hf]
   have := SG (P := P) w 9998 fs.toList 0 xs ys hc.1.1 (by simpa using hx) (by simpa using hy)
   simpa using this
  ·cases h
 ·cases h
theorem NS {w : World} {R B : Nat → Prop} {g : Nat → GS} {xs : List Int} {v : Value} (h : RA P w R B g (Ag (xs.map iC)) v) : v = .agg (tX xs) := by
 obtain ⟨vs,rfl,hl,hc⟩ := h
 have : vs = xs.map fun n => Value.int .i64 n := by
  refine List.ext_getElem (by simpa using hl) fun i h1 h2 => ?_
  have hi : i < xs.length := by simpa using h2
  obtain ⟨u,h3,h4⟩ := hc i (iC xs[i]) (by rw [List.getElem?_map,List.getElem?_eq_getElem hi]; rfl)
  obtain ⟨_,h4⟩ := h4
  cases h4
  rw [List.getElem?_eq_getElem h1] at h3
  injection h3 with h3
  rw [h3]
  simp
 rw [this]
 rfl
theorem LT.Z9 {t t' : TypeId} {x y : Operand} {n : Nat} (xs ys : List Int) (ho : o.op = .binOp .neq t x y t') (h : Fj P t = some n) (hx : xs.length = n) (hy : ys.length = n) :
  LT P o [(x,Ag (xs.map iC)),(y,Ag (ys.map iC))] [] (Bv (!qH xs ys)) [] [] [] := .calm fun R B g w a _ hi _ => by
 obtain ⟨h1,h2⟩ := aAc h xs ys hx hy w
 refine ⟨.bool (!qH xs ys),?_,qO rfl⟩
 simp only [execOp,ho,NS (in1 hi),NS (in2 hi),Sem.run_bind,run_eqGuard_agg w .neq t x y _ _ h2,Result.andThen_ok,run_neq_struct,h1,Sem.run_pure]
end
end Go.Fw
end
section
set_option linter.unusedVariables false
set_option linter.unusedSimpArgs false
set_option linter.unnecessarySimpa false
namespace Go.Fw
theorem Eh {n : Nat} (h : n ≤ 1099511627776) : n < BIG := by unfold BIG; omega
theorem fM {n : Int} (h1 : -4611686018427387904 ≤ n) (h2 : n ≤ 4611686018427387904) : aJ n = n := aBN (by omega) (by omega)
theorem Qm {σ τ : Type} {b : σ → Option (σ ⊕ τ)} {r : τ} (st : Nat → σ) (n : Nat) (h : ∀ k,k < n → b (st k) = some (.inl (st (k + 1)))) (hr : b (st n) = some (.inr r)) : ∀ (j k f : Nat),k + j = n → j < f → bZ b f (st k) = some r
 | 0,k,f,hk,hf => by
  obtain ⟨f,rfl⟩ : ∃ g,f = g + 1 := ⟨f - 1,by omega⟩
  have : k = n := by omega
  subst this
  unfold bZ
  rw [hr]
 | j + 1,k,f,hk,hf => by
  obtain ⟨f,rfl⟩ : ∃ g,f = g + 1 := ⟨f - 1,by omega⟩
  unfold bZ
  rw [h k (by omega)]
  exact Qm st n h hr j (k + 1) f (by omega) (by omega)
theorem ny {σ τ : Type} {b : σ → Option (σ ⊕ τ)} {r : τ} {s : σ} (st : Nat → σ) (n : Nat) (hn : n ≤ 1099511627776) (h0 : st 0 = s) (h : ∀ k,k < n → b (st k) = some (.inl (st (k + 1)))) (hr : b (st n) = some (.inr r)) : bZ b BIG s = some r := by
 subst h0
 exact Qm st n h hr n 0 BIG (by omega) (Eh hn)
theorem qj {α : Type} {l : List α} {k : Nat} (h : k < l.length) : idx l (k : Int) = some l[k] := by
 unfold idx
 rw [if_pos (by omega),Int.toNat_natCast,List.getElem?_eq_getElem h]
theorem mD {α : Type} {l : List α} {k : Nat} {x : α} (h : l[k]? = some x) : idx l (k : Int) = some x := by
 unfold idx
 rw [if_pos (by omega),Int.toNat_natCast,h]
theorem fQ {k : Nat} (h : k ≤ 1099511627776) : aJ ((k : Int) + 1) = ((k + 1 : Nat) : Int) := by
 rw [fM (by omega) (by omega)]; omega
theorem Oi {τ : Type} {b : Int → Option (Int ⊕ τ)} {r : τ} (n : Nat) (hn : n ≤ 1099511627776) (h : ∀ k : Nat,k < n → b k = some (.inl (aJ ((k : Int) + 1)))) (hr : b n = some (.inr r)) : bZ b BIG 0 = some r :=
 ny (fun k => (k : Int)) n hn rfl (fun k hk => by rw [h k hk,fQ (by omega)]) hr
theorem Ue {γ : Type} {b : Int → Option (Int ⊕ (Unit ⊕ γ))} (bad : Nat → Bool) (c : γ) (k0 n : Nat) (hn : n ≤ 1099511627776) (h0 : k0 ≤ n) (h : ∀ k : Nat,k0 ≤ k → k < n → b k = bif bad k then some (.inr (.inr c)) else some (.inl (aJ ((k : Int) + 1)))) (hr : b n = some (.inr (.inl ()))) :
  bZ b BIG k0 = some (bif (List.range' k0 (n - k0)).any bad then .inr c else .inl ()) := by
 have go : ∀ (j k f : Nat),k + j = n → k0 ≤ k → j < f → bZ b f (k : Int) = some (bif (List.range' k j).any bad then .inr c else .inl ()) := by
  intro j
  induction j with
  | zero =>
   intro k f hk _ hf
   obtain ⟨f,rfl⟩ : ∃ g,f = g + 1 := ⟨f - 1,by omega⟩
   have : k = n := by omega
   subst this
   unfold bZ
   rw [hr]
   rfl
  | succ j ih =>
   intro k f hk hk0 hf
   obtain ⟨f,rfl⟩ : ∃ g,f = g + 1 := ⟨f - 1,by omega⟩
   have h1 := h k hk0 (by omega)
   unfold bZ
   cases hb : bad k with
   | true =>
    rw [hb,cond_true] at h1
    rw [h1,List.range'_succ,List.any_cons,hb]
    rfl
   | false =>
    rw [hb,cond_false,fQ (by omega)] at h1
    rw [h1,List.range'_succ,List.any_cons,hb,Bool.false_or]
    exact ih (k + 1) f (by omega) (by omega) (by omega)
 exact go (n - k0) k0 BIG (by omega) (Nat.le_refl _) (by have := Eh hn; omega)
theorem qm {σ τ : Type} {b : σ → Option (σ ⊕ τ)} {s : σ} (I : Nat → σ → Prop) (Q : τ → Prop) (n : Nat) (hn : n ≤ 1099511627776) (h0 : I 0 s)
  (h : ∀ k s,k < n → I k s → (∃ s',b s = some (.inl s') ∧ I (k + 1) s') ∨ ∃ r,b s = some (.inr r) ∧ Q r) (hr : ∀ s,I n s → ∃ r,b s = some (.inr r) ∧ Q r) : ∃ r,bZ b BIG s = some r ∧ Q r := by
 have go : ∀ (j k f : Nat) (s : σ),k + j = n → j < f → I k s → ∃ r,bZ b f s = some r ∧ Q r := by
  intro j
  induction j with
  | zero =>
   intro k f s hk hf hi
   obtain ⟨f,rfl⟩ : ∃ g,f = g + 1 := ⟨f - 1,by omega⟩
   have : k = n := by omega
   subst this
   obtain ⟨r,h1,h2⟩ := hr s hi
   exact ⟨r,by unfold bZ; rw [h1],h2⟩
  | succ j ih =>
   intro k f s hk hf hi
   obtain ⟨f,rfl⟩ : ∃ g,f = g + 1 := ⟨f - 1,by omega⟩
   rcases h k s (by omega) hi with ⟨s',h1,h2⟩ | ⟨r,h1,h2⟩
   ·obtain ⟨r,h3,h4⟩ := ih (k + 1) f s' (by omega) (by omega) h2
    exact ⟨r,by unfold bZ; rw [h1]; exact h3,h4⟩
   ·exact ⟨r,by unfold bZ; rw [h1],h2⟩
 exact go n 0 BIG s (by omega) (Eh hn) h0
theorem gB {n : Nat} (h : n ≤ 2147483648) : lim n = some () := by unfold lim pI; rw [if_pos h]
theorem Zp {n : Int} (h0 : 0 ≤ n) (h : n ≤ 2147483648) : zM n = some () := by unfold zM; rw [if_pos ⟨h0,h⟩]
theorem SS {a b : Nat} (h : a = b) : same a b = some () := by unfold same; rw [if_pos h]
end Go.Fw
end
section
set_option linter.unusedVariables false
set_option linter.unusedSimpArgs false
set_option linter.unnecessarySimpa false
namespace Go.Fw
def iter {β : Type} (f : Nat → β → β) : Nat → β → β
 | 0,a => a
 | n + 1,a => f n (iter f n a)
theorem QK {β : Type} {f : Nat → β → β} {a0 : β} (I : Nat → β → Prop) (h0 : I 0 a0) : ∀ n,(∀ k a,k < n → I k a → I (k + 1) (f k a)) → I n (iter f n a0)
 | 0,_ => h0
 | n + 1,h => h n _ (by omega) (QK I h0 n fun k a hk hi => h k a (by omega) hi)
theorem FV {β τ σ : Type} {b : σ → Option (σ ⊕ τ)} {s : σ} (mk : Nat → β → σ) (f : Nat → β → β) (I : Nat → β → Prop) (fin : β → τ) (n : Nat) (a0 : β) (hn : n ≤ 1099511627776) (hs : s = mk 0 a0) (h0 : I 0 a0)
  (h : ∀ k a,k < n → I k a → b (mk k a) = some (.inl (mk (k + 1) (f k a))) ∧ I (k + 1) (f k a)) (hr : ∀ a,I n a → b (mk n a) = some (.inr (fin a))) :
  bZ b BIG s = some (fin (iter f n a0)) ∧ I n (iter f n a0) := by
 have hI : ∀ m,m ≤ n → I m (iter f m a0) := fun m hm => QK I h0 m fun k a hk hi => (h k a (by omega) hi).2
 subst hs
 exact ⟨ny (fun k => mk k (iter f k a0)) n hn rfl (fun k hk => (h k _ hk (hI k (by omega))).1) (hr _ (hI n (Nat.le_refl _))),hI n (Nat.le_refl _)⟩
def pieces {α : Type} (f : Nat → List α) : Nat → List α
 | 0 => []
 | n + 1 => pieces f n ++ f n
theorem pieces_len {α : Type} {f : Nat → List α} {c : Nat} : ∀ n,(∀ k,k < n → (f k).length ≤ c) → (pieces f n).length ≤ c * n
 | 0,_ => by simp [pieces]
 | n + 1,h => by
  have h1 := pieces_len n fun k hk => h k (by omega)
  have h2 := h n (by omega)
  show (pieces f n ++ f n).length ≤ _
  rw [List.length_append,Nat.mul_add,Nat.mul_one]
  omega
theorem Rf {α : Type} {f g : Nat → List α} : ∀ n,(∀ k,k < n → f k = g k) → pieces f n = pieces g n
 | 0,_ => rfl
 | n + 1,h => by
  show pieces f n ++ f n = pieces g n ++ g n
  rw [Rf n fun k hk => h k (by omega),h n (by omega)]
theorem rD {α τ σ : Type} {b : σ → Option (σ ⊕ τ)} {s : σ} (mk : Nat → List α → σ) (f : Nat → List α) (fin : List α → τ) (c n : Nat) (Gf : List α) (hn : n ≤ 1099511627776) (hs : s = mk 0 Gf) (hc : ∀ k,k < n → (f k).length ≤ c)
  (h : ∀ k out,k < n → out.length ≤ Gf.length + c * k → b (mk k out) = some (.inl (mk (k + 1) (out ++ f k)))) (hr : ∀ out,b (mk n out) = some (.inr (fin out))) :
  bZ b BIG s = some (fin (Gf ++ pieces f n)) := by
 subst hs
 refine ny (fun k => mk k (Gf ++ pieces f k)) n hn (by simp [pieces]) (fun k hk => ?_) (hr _)
 have h1 := pieces_len (f := f) (c := c) k fun j hj => hc j (by omega)
 rw [h k _ hk (by rw [List.length_append]; omega),List.append_assoc]
 rfl
theorem Uf {p : Nat → Bool} {k0 n : Nat} : (List.range' k0 n).any p = true ↔ ∃ k,k0 ≤ k ∧ k < k0 + n ∧ p k = true := by
 rw [List.any_eq_true]
 constructor
 ·rintro ⟨k,hk,h⟩
  rw [List.mem_range'_1] at hk
  exact ⟨k,hk.1,hk.2,h⟩
 ·rintro ⟨k,h1,h2,h⟩
  exact ⟨k,List.mem_range'_1.2 ⟨h1,h2⟩,h⟩
theorem Eu {p : Nat → Bool} {k0 n : Nat} : (List.range' k0 n).any p = false ↔ ∀ k,k0 ≤ k → k < k0 + n → p k = false := by
 rw [← Bool.not_eq_true,Uf]
 constructor
 ·intro h k h1 h2
  cases hp : p k
  ·rfl
  ·exact absurd ⟨k,h1,h2,hp⟩ h
 ·rintro h ⟨k,h1,h2,h3⟩
  rw [h k h1 h2] at h3
  cases h3
theorem Et {γ : Type} {b : Int → Option (Int ⊕ (Unit ⊕ γ))} (bad : Nat → Bool) (c : γ) (n : Nat) (hn : n ≤ 1099511627776) (h : ∀ k : Nat,k < n → b k = bif bad k then some (.inr (.inr c)) else some (.inl (aJ ((k : Int) + 1)))) (hr : b n = some (.inr (.inl ()))) :
  bZ b BIG 0 = some (bif (List.range' 0 n).any bad then .inr c else .inl ()) := by
 have := Ue (b := b) bad c 0 n hn (by omega) (fun k _ hk => h k hk) hr
 rwa [Nat.sub_zero] at this
theorem aAf {α : Type} (a : List α) (z x : α) (k n : Nat) (ha : a.length = k) (hk : k < n) : (a ++ List.replicate (n - k) z).set k x = (a ++ [x]) ++ List.replicate (n - (k + 1)) z := by
 obtain ⟨m,hm⟩ : ∃ m,n - k = m + 1 := ⟨n - k - 1,by omega⟩
 rw [hm,show n - (k + 1) = m by omega,List.set_append_right _ _ (by omega),ha,Nat.sub_self,List.replicate_succ,List.set_cons_zero,List.append_assoc]
 rfl
theorem TD {α : Type} {l : List α} {k : Nat} (hk : k < l.length) : l.take (k + 1) = l.take k ++ [l[k]] := by
 rw [List.take_add_one,List.getElem?_eq_getElem hk]; rfl
end Go.Fw
end
section
set_option linter.unusedVariables false
set_option linter.unusedSimpArgs false
set_option linter.unnecessarySimpa false
namespace Go.Fw
open Go.ChangeMaps
def slc {α : Type} (l : List α) (lo hi : Int) : Option (List α) := if 0 ≤ lo ∧ lo ≤ hi ∧ hi ≤ (l.length : Int) then some ((l.take hi.toNat).drop lo.toNat) else none
theorem wF {α : Type} {l r : List α} {lo hi : Int} (h : slc l lo hi = some r) : 0 ≤ lo ∧ lo ≤ hi ∧ hi ≤ (l.length : Int) ∧ r = (l.take hi.toNat).drop lo.toNat := by
 unfold slc at h
 split at h
 ·rename_i h0
  injection h with h
  exact ⟨h0.1,h0.2.1,h0.2.2,h.symm⟩
 ·cases h
theorem Ho {α : Type} {l r : List α} {lo hi : Int} (h : slc l lo hi = some r) : lo.toNat ≤ hi.toNat := by
 have := wF h
 omega
theorem Hl {α : Type} {l r : List α} {lo hi : Int} (h : slc l lo hi = some r) : hi.toNat ≤ l.length := by
 have := wF h
 omega
def jA : List (Int × Int) → Int → Int
 | [],_ => 0
 | e :: r,k => bif k == e.1 then e.2 else jA r k
def jV : List (Int × Int) → Int → Bool
 | [],_ => false
 | e :: r,k => bif k == e.1 then true else jV r k
def iQ : List (Int × Int) → Int → Int → List (Int × Int)
 | [],k,v => [(k,v)]
 | e :: r,k,v => bif k == e.1 then (k,v) :: r else e :: iQ r k v
section
variable {P : Program} {o : Oper} {w : World} {R B : Nat → Prop} {g : Nat → GS}
theorem aAd {lo hi : Option Value} {len cap : Nat} {l h : Nat} (hlo : lo = some (.int .i64 (l : Int)) ∨ (lo = none ∧ l = 0)) (hhi : hi = some (.int .i64 (h : Int)) ∨ (hi = none ∧ h = len)) (h1 : l ≤ h) (h2 : h ≤ len) (h3 : len ≤ cap) (w : World) :
  (Instr.sliceBounds true len cap lo hi none).run P w = .ok (l,h,cap) w := by
 have e1 : (Instr.sliceBound (.int .i64 (h : Int)) cap .sliceAcap).run P w = .ok h w := by
  have : (0 : Int) ≤ (h : Int) ∧ (h : Int) ≤ (cap : Int) := by omega
  simp [Instr.sliceBound,asIntOf,this]
 have e2 : (Instr.sliceBound (.int .i64 (l : Int)) h .sliceB).run P w = .ok l w := by
  have : (0 : Int) ≤ (l : Int) ∧ (l : Int) ≤ (h : Int) := by omega
  simp [Instr.sliceBound,asIntOf,this]
 rcases hlo with rfl | ⟨rfl,rfl⟩ <;> rcases hhi with rfl | ⟨rfl,rfl⟩ <;> simp [Instr.sliceBounds,e1,e2,Result.andThen]
def sU : Option (Operand × Int) → List (Operand × AV)
 | some (x,n) => [(x,Iv n)]
 | none => []
theorem Ey {a : Act} {b : Option (Operand × Int)} {x : Option Operand} (hx : x = b.map (·.1)) (h : ∀ p ∈ sU b,RA P w R B g p.2 (a.eval p.1)) : x.map a.eval = b.map fun q => Value.int .i64 q.2 := by
 subst hx
 cases b with
 | none => rfl
 | some q =>
  obtain ⟨y,n⟩ := q
  have := lH (h (y,Iv n) List.mem_cons_self)
  simp [this]
theorem G6 {t e : TypeId} {it : TypeInfo} (ht : P.underlying t = some (.slice e)) (hit : P.info? e = some it) {lo hi : Option Value} {A : Option Addr} {len cap l h : Nat} (hlo : lo = some (.int .i64 (l : Int)) ∨ (lo = none ∧ l = 0)) (hhi : hi = some (.int .i64 (h : Int)) ∨ (hi = none ∧ h = len)) (h1 : l ≤ h) (h2 : h ≤ len) (h3 : len ≤ cap) (w : World) :
  (Instr.sliceAt t (.slice A len cap) lo hi none).run P w = .ok (.slice (if cap = l then A else A.map (·.add (l * bQ P e))) (h - l) (cap - l)) w := by
 have hb := aAd (P := P) hlo hhi h1 h2 h3 w
 simp [Instr.sliceAt,Instr.slice,run_underlying ht,hb,run_sizeOf hit,Result.andThen]
theorem Ew {b : Option (Operand × Int)} {n : Nat} {d : Option Nat} (h : (∃ x m,b = some (x,m) ∧ 0 ≤ m ∧ n = m.toNat) ∨ (b = none ∧ some n = d)) : (b.map fun q => Value.int .i64 q.2) = some (.int .i64 (n : Int)) ∨ ((b.map fun q => Value.int .i64 q.2) = none ∧ some n = d) := by
 rcases h with ⟨x,m,rfl,h0,rfl⟩ | ⟨rfl,h⟩
 ·left
  simp [Int.toNat_of_nonneg h0]
 ·exact .inr ⟨rfl,h⟩
theorem LT.aAr {x : Operand} {t e : TypeId} {lo hi : Option Operand} {kG kF : Option (Operand × Int)} {q : Bool} {els : List (List PV)} {l h : Nat} (ho : o.op = .slice t x lo hi none) (hlo : lo = kG.map (·.1)) (hhi : hi = kF.map (·.1)) (ht : P.underlying t = some (.slice e)) (hi2 : (P.info? e).isSome = true)
  (hl : ∀ cs ∈ els,cs.length = bQ P e) (el : (∃ x m,kG = some (x,m) ∧ 0 ≤ m ∧ l = m.toNat) ∨ (kG = none ∧ some l = some 0)) (eh : (∃ x m,kF = some (x,m) ∧ 0 ≤ m ∧ h = m.toNat) ∨ (kF = none ∧ some h = some els.length)) (h1 : l ≤ h) (h2 : h ≤ els.length) :
  LT P o ((x,Cc (.pv (.xs q els))) :: (sU kG ++ sU kF)) [] (Cc (.pv (.xs q ((els.take h).drop l)))) [] [] [] := .calm fun R B g w a hw hi3 _ => by
 obtain ⟨it,hit⟩ := Option.isSome_iff_exists.1 hi2
 have hv := in1 hi3
 have e1 : lo.map a.eval = kG.map fun q => Value.int .i64 q.2 := Ey hlo fun p hp => hi3 p (List.mem_cons_of_mem _ (List.mem_append_left _ hp))
 have e2 : hi.map a.eval = kF.map fun q => Value.int .i64 q.2 := Ey hhi fun p hp => hi3 p (List.mem_cons_of_mem _ (List.mem_append_right _ hp))
 have Bf := Ew el
 have Bc := Ew eh
 rw [← e1] at Bf
 rw [← e2] at Bc
 have el2 : lo.map a.eval = some (.int .i64 (l : Int)) ∨ (lo.map a.eval = none ∧ l = 0) := Bf.imp id (fun h => ⟨h.1,by injection h.2⟩)
 have Bd : hi.map a.eval = some (.int .i64 (h : Int)) ∨ (hi.map a.eval = none ∧ h = els.length) := Bc.imp id (fun h => ⟨h.1,by injection h.2⟩)
 obtain ⟨_,hv⟩ := hv
 generalize hav : a.eval x = v at hv
 have fin : ∀ (A : Option Addr) (c : Nat),v = .slice A els.length c → els.length ≤ c → ((els.take h).drop l = [] ∨ ∃ ad,A = some ad ∧ vz R B q ad.block ∧ ∃ (s : Nat) (val : Nat → Nat → Value),(∀ cs ∈ els,cs.length = s) ∧ (∀ j k cs p,els[j]? = some cs → cs[k]? = some p → w.cell? (ad.add (j * s + k)) = some (val j k)) ∧ ∀ j k cs p,els[j]? = some cs → cs[k]? = some p → gI w R B p (val j k)) →
   ∃ u,(execOp a.eval o).run P w = .ok (.value u) w ∧ RA P w R B g (Cc (.pv (.xs q ((els.take h).drop l)))) u := fun A c hA hc hx => by
  have hr := G6 (P := P) ht hit (A := A) el2 Bd h1 h2 hc w
  refine ⟨.slice (if c = l then A else A.map (·.add (l * bQ P e))) (h - l) (c - l),?_,?_⟩
  ·simp only [execOp,ho,hav,hA,Sem.run_bind,Option.map_none,hr,Result.andThen_ok,Sem.run_pure]
  ·refine ⟨rfl,?_⟩
   by_cases hnil : (els.take h).drop l = []
   ·rw [hnil]
    have hz : h - l = 0 := by
     have := congrArg List.length hnil
     simp at this
     omega
    rw [hz]
    exact .emp
   ·rcases hx with hx | ⟨ad,rfl,hb,s,val,hs,hcell,Jm⟩
    ·exact absurd hx hnil
    ·have hlt : l < h := by
      rcases Nat.lt_or_ge l h with h | h'
      ·exact h
      ·exact absurd (List.drop_eq_nil_of_le (by simp; omega)) hnil
     have hne : ¬ c = l := by omega
     rw [if_neg hne]
     have hget : ∀ j,((els.take h).drop l)[j]? = if l + j < h then els[l + j]? else none := fun j => by
      rw [List.getElem?_drop,List.getElem?_take]
     have hss : s = bQ P e := by
      have h0 : 0 < els.length := by omega
      have hm := List.getElem_mem h0
      rw [← hs _ hm,hl _ hm]
     refine .xs (s := s) (fun j k => val (l + j) k) (by simp; omega) (by rw [add_block]; exact hb) (by simp; omega) (fun cs hcs => hs cs (List.mem_of_mem_take (List.mem_of_mem_drop hcs))) (fun j k cs p hj hk => ?_) (fun j k cs p hj hk => ?_)
     ·rw [hget] at hj
      split at hj
      ·have := hcell _ _ _ _ hj hk
       rw [add_add,← hss]
       rwa [show l * s + (j * s + k) = (l + j) * s + k by rw [Nat.add_mul]; omega]
      ·cases hj
     ·rw [hget] at hj
      split at hj
      ·exact Jm _ _ _ _ hj hk
      ·cases hj
 cases hv with
 | @emp _ A c =>
  have h0 : h = 0 := by simp at h2; exact h2
  have hl0 : l = 0 := by omega
  subst h0
  subst hl0
  -- the capacity may be anything
  have hr := G6 (P := P) ht hit (A := A) (len := 0) (cap := c) el2 (Bd.imp id fun h => ⟨h.1,by simpa using h.2⟩) h1 (Nat.le_refl _) (Nat.zero_le _) w
  refine ⟨_,by simp only [execOp,ho,hav,Sem.run_bind,Option.map_none,hr,Result.andThen_ok,Sem.run_pure]; rfl,rfl,gI.emp⟩
 | @xs _ _ ad c s n val hn hb hc hs hcell Jm =>
  subst hn
  exact fin (some ad) c rfl hc (.inr ⟨ad,rfl,hb,s,val,hs,hcell,Jm⟩)
theorem LT.aAq {x : Operand} {t e : TypeId} {lo hi : Option Operand} {kG kF : Option (Operand × Int)} {n len : Nat} {els : List (List CV)} {l h : Nat} (ho : o.op = .slice t x lo hi none) (hlo : lo = kG.map (·.1)) (hhi : hi = kF.map (·.1)) (ht : P.underlying t = some (.slice e)) (hi2 : (P.info? e).isSome = true)
  (el : (∃ x m,kG = some (x,m) ∧ 0 ≤ m ∧ l = m.toNat) ∨ (kG = none ∧ some l = some 0)) (eh : (∃ x m,kF = some (x,m) ∧ 0 ≤ m ∧ h = m.toNat) ∨ (kF = none ∧ some h = some len)) (h1 : l ≤ h) (h2 : h ≤ len) :
  LT P o ((x,Cc (.loc n 0 len)) :: (sU kG ++ sU kF)) [(n,.row e els)] (Cc (.loc n l (h - l))) [] [] [] := .calm fun R B g w a hw hi3 hu => by
 obtain ⟨it,hit⟩ := Option.isSome_iff_exists.1 hi2
 have hv := in1 hi3
 have e1 : lo.map a.eval = kG.map fun q => Value.int .i64 q.2 := Ey hlo fun p hp => hi3 p (List.mem_cons_of_mem _ (List.mem_append_left _ hp))
 have e2 : hi.map a.eval = kF.map fun q => Value.int .i64 q.2 := Ey hhi fun p hp => hi3 p (List.mem_cons_of_mem _ (List.mem_append_right _ hp))
 have Bf := Ew el
 have Bc := Ew eh
 rw [← e1] at Bf
 rw [← e2] at Bc
 have el2 : lo.map a.eval = some (.int .i64 (l : Int)) ∨ (lo.map a.eval = none ∧ l = 0) := Bf.imp id (fun h => ⟨h.1,by injection h.2⟩)
 have Bd : hi.map a.eval = some (.int .i64 (h : Int)) ∨ (hi.map a.eval = none ∧ h = len) := Bc.imp id (fun h => ⟨h.1,by injection h.2⟩)
 obtain ⟨_,hv⟩ := hv
 rcases hv with ⟨k1,_,k3,k4⟩ | ⟨_,k2,_⟩ | ⟨b,cap,cur,e',k1,k2,k3,k4,k5,k6⟩
 ·have hh0 : h = 0 := by omega
  have hl0 : l = 0 := by omega
  subst hh0
  subst hl0
  subst k3
  have hr := G6 (P := P) ht hit (A := none) (len := 0) (cap := 0) el2 Bd (Nat.le_refl _) (Nat.le_refl _) (Nat.le_refl _) w
  refine ⟨_,by simp only [execOp,ho,k4,Sem.run_bind,Option.map_none,hr,Result.andThen_ok,Sem.run_pure]; rfl,rfl,.inl ⟨k1,rfl,rfl,by simp⟩⟩
 ·exact absurd rfl k2
 ·have hro := o9 hu
  have hee : e' = e := by
   rcases hro with ⟨h3,_⟩ | ⟨b',cur',h3,h4,_⟩
   ·rw [k1] at h3; cases h3
   ·rw [k1] at h3
    injection h3 with h3
    subst h3
    rw [k2] at h4
    injection h4 with h4
    injection h4
  subst hee
  have hr := G6 (P := P) ht hit (A := some ⟨b,0 * bQ P e',none⟩) el2 Bd h1 h2 k3 w
  refine ⟨Value.slice (if cap = l then (some (Addr.mk b (0 * bQ P e') none)) else Option.map (fun z : Addr => z.add (l * bQ P e')) (some (Addr.mk b (0 * bQ P e') none))) (h - l) (cap - l),by simp only [execOp,ho,k6,Sem.run_bind,hr,Result.andThen_ok,Sem.run_pure,Option.map_none],rfl,?_⟩
  by_cases hcl : cap = l
  ·rw [if_pos hcl]
   have hz : h - l = 0 := by omega
   by_cases hl0 : l = 0
   ·refine .inr (.inr ⟨b,cap,cur,e',k1,k2,by omega,by omega,by rw [hl0]; exact k5,?_⟩)
    rw [hl0]
    rfl
   ·exact .inr (.inl ⟨hz,hl0,_,_,by rw [hz]⟩)
  ·rw [if_neg hcl]
   refine .inr (.inr ⟨b,cap - l,cur,e',k1,k2,by omega,by omega,by rw [show l + (cap - l) = 0 + cap by omega]; exact k5,?_⟩)
   simp [add_lit]
variable {α : Type} {enc : α → List PV}
theorem LT.TN {x : Operand} {t e : TypeId} {lo hi : Option Operand} {kG kF : Option (Operand × Int)} {q : Bool} {xs : List α} {l h : Nat} (ho : o.op = .slice t x lo hi none) (hlo : lo = kG.map (·.1)) (hhi : hi = kF.map (·.1)) (ht : P.underlying t = some (.slice e)) (hi2 : (P.info? e).isSome = true)
  (hs : ∀ a,(enc a).length = bQ P e) (el : (∃ x m,kG = some (x,m) ∧ 0 ≤ m ∧ l = m.toNat) ∨ (kG = none ∧ some l = some 0)) (eh : (∃ x m,kF = some (x,m) ∧ 0 ≤ m ∧ h = m.toNat) ∨ (kF = none ∧ some h = some xs.length)) (h1 : l ≤ h) (h2 : h ≤ xs.length) :
  LT P o ((x,Cc (.pv (.xs q (xs.map enc)))) :: (sU kG ++ sU kF)) [] (Cc (.pv (.xs q (((xs.take h).drop l).map enc)))) [] [] [] := by
 have := LT.aAr (P := P) (o := o) (q := q) (els := xs.map enc) ho hlo hhi ht hi2 (fun cs hcs => by obtain ⟨a,_,rfl⟩ := List.mem_map.1 hcs; exact hs a) el (eh.imp id fun h => ⟨h.1,by simpa using h.2⟩) h1 (by simpa using h2)
 simpa [List.map_take,List.map_drop] using this
theorem LT.TM {x : Operand} {t e : TypeId} {lo hi : Option Operand} {kG kF : Option (Operand × Int)} {n : Nat} {xs : List α} {l h : Nat} (ho : o.op = .slice t x lo hi none) (hlo : lo = kG.map (·.1)) (hhi : hi = kF.map (·.1)) (ht : P.underlying t = some (.slice e)) (hi2 : (P.info? e).isSome = true)
  (el : (∃ x m,kG = some (x,m) ∧ 0 ≤ m ∧ l = m.toNat) ∨ (kG = none ∧ some l = some 0)) (eh : (∃ x m,kF = some (x,m) ∧ 0 ≤ m ∧ h = m.toNat) ∨ (kF = none ∧ some h = some xs.length)) (h1 : l ≤ h) (h2 : h ≤ xs.length) :
  LT P o ((x,Cc (.loc n 0 xs.length)) :: (sU kG ++ sU kF)) [(n,.dU e (xs.map enc))] (Cc (.loc n l (h - l))) [] [] [] :=
 (LT.aAq (P := P) (o := o) (n := n) (els := dG (xs.map enc)) ho hlo hhi ht hi2 el eh h1 h2).EX
theorem aA4 {v : Value} {n off m : Nat} {e : TypeId} {els : List (List CV)} (hs : 0 < bQ P e) (h : RC P w R B g (.loc n off m) v) (ho : dh P w R B g n e els) (hm : off + m ≤ els.length) : y7 P w R B g v ((els.drop off).take m) (bQ P e) := by
 obtain ⟨_,h⟩ := h
 have hnil : m = 0 → y7 P w R B g v ((els.drop off).take m) (bQ P e) ∨ ¬ ∃ A c,v = .slice A 0 c := fun h0 => by
  by_cases hv : ∃ A c,v = .slice A 0 c
  ·obtain ⟨A,c,rfl⟩ := hv
   subst h0
   exact .inl ⟨A,c,rfl,[],⟨rfl,fun k x hk => by simp at hk⟩,fun i u hu => by simp at hu⟩
  ·exact .inr hv
 rcases h with ⟨h1,_,h3,h4⟩ | ⟨h1,h2,A,c,h3⟩ | ⟨b,cap,cur,e',k1,k2,k3,k4,k5,k6⟩
 ·rcases hnil h3 with h | h
  ·exact h
  ·exact absurd ⟨none,0,h4⟩ h
 ·rcases hnil h1 with h | h
  ·exact h
  ·exact absurd ⟨A,c,h3⟩ h
 ·obtain ⟨hl,cur',h5,h6,h7⟩ := ho.flat hs k1
  rw [k2] at h5
  injection h5 with h5
  injection h5 with h5 h8 h9
  subst h5
  subst h8
  have hlen : ((els.drop off).take m).length = m := by simp; omega
  have CU : ((els.drop off).take m).flatten = (els.flatten.drop (off * bQ P e')).take (m * bQ P e') := by
   have e1 : els.flatten = (els.take off).flatten ++ (((els.drop off).take m).flatten ++ ((els.drop off).drop m).flatten) := by
    rw [← List.flatten_append,← List.flatten_append,List.take_append_drop,List.take_append_drop]
   have l1 : (els.take off).flatten.length = off * bQ P e' := by
    rw [flat_length (s := bQ P e') _ fun cs hcs => hl cs (List.mem_of_mem_take hcs)]
    simp only [List.length_take]
    congr 1
    omega
   have l2 : ((els.drop off).take m).flatten.length = m * bQ P e' := by
    rw [flat_length (s := bQ P e') _ fun cs hcs => hl cs (List.mem_of_mem_drop (List.mem_of_mem_take hcs)),hlen]
   rw [e1,← l1,List.drop_left,← l2,List.take_left]
  have hfl : els.flatten.length = els.length * bQ P e' := flat_length (s := bQ P e') _ hl
  refine ⟨_,cap,by rw [hlen]; exact k6,(cur.toList.drop (off * bQ P e')).take (m * bQ P e'),⟨?_,fun k x hk => ?_⟩,fun i u hu => ⟨_,rfl,?_⟩⟩
  ·rw [CU]
   have := h6
   simp only [List.length_take,List.length_drop,hfl,Array.length_toList]
   have hmm : off * bQ P e' + m * bQ P e' ≤ els.length * bQ P e' := by rw [← Nat.add_mul]; exact Nat.mul_le_mul_right _ hm
   omega
  ·rw [CU,List.getElem?_take] at hk
   split at hk
   ·rename_i hlt
    rw [List.getElem?_drop] at hk
    obtain ⟨u,hu,hr⟩ := h7.2 _ x hk
    refine ⟨u,?_,hr⟩
    rw [List.getElem?_take,if_pos hlt,List.getElem?_drop]
    rw [List.getElem?_take] at hu
    split at hu
    ·exact hu
    ·cases hu
   ·cases hk
  ·rw [add_lit,BI k2]
   rw [List.getElem?_take] at hu
   split at hu
   ·rw [List.getElem?_drop] at hu
    simpa using hu
   ·cases hu
theorem LT.aBC {t e : TypeId} {x y : Operand} {n k off m : Nat} {xs : List α} {z : Value} {s lm : Nat} (ho : o.op = .call { callee := .builtin .append,args := #[x,y],argTypes := #[t,t] }) (ht : P.underlying t = some (.slice e)) (hz : TI P e z s lm) (hzs : z.cells.size = s) (hs : 0 < s) (hb : lm ≤ 65536)
  (he : ∀ a,(enc a).length = s) (hk : k ≤ xs.length) (hm : off + m ≤ xs.length) (hlim : k + m ≤ pI) :
  LT P o [(x,Cc (.loc n 0 k)),(y,Cc (.loc n off m))] [(n,.dU e (xs.map enc))] (Cc (.loc n 0 (xs.take k ++ (xs.drop off).take m).length)) [(n,.dU e ((xs.take k ++ (xs.drop off).take m).map enc))] [n] [n] := by
 have hk2 : (xs.take k).length = k := by simp; omega
 have hm2 : ((xs.drop off).take m).length = m := by simp; omega
 have YQ : ∀ (w : World) (R B : Nat → Prop) (g : Nat → GS),dh P w R B g n e (dG (xs.map enc)) → dh P w R B g n e (dG ((xs.take k).map enc)) := fun w R B g h => by
  rcases h with ⟨h1,h2⟩ | ⟨b,cur,h1,h2,h3,h4,h5⟩
  ·left
   have : xs = [] := by
    cases xs with
    | nil => rfl
    | cons a r => simp [dG] at h2
   subst this
   exact ⟨h1,by simp [dG]⟩
  ·have hp : dG ((xs.take k).map enc) = (dG (xs.map enc)).take k := by simp [dG,List.map_take]
   rw [hp]
   refine .inr ⟨b,cur,h1,h2,fun cs hcs => h3 cs (List.mem_of_mem_take hcs),?_,fun j i cs c hj hc => ?_⟩
   ·refine Nat.le_trans (Nat.mul_le_mul_right _ ?_) h4
    simp
    omega
   ·rw [List.getElem?_take] at hj
    split at hj
    ·exact h5 j i cs c hj hc
    ·cases hj
 have := LT.append (P := P) (ins := [(x,Cc (.loc n 0 k)),(y,Cc (.loc n off m))]) (us := [(n,.dU e (xs.map enc))]) (n := n) (els := dG ((xs.take k).map enc)) (kU := dG (((xs.drop off).take m).map enc)) (W := [n]) ho ht hz hzs hs hb
  (fun cs hcs => by
   simp only [dG,List.mem_map] at hcs
   obtain ⟨c,⟨a,_,rfl⟩,rfl⟩ := hcs
   simpa using he a) (by simp [wB,hk2,hm2]; simp at hm2; omega)
  (fun R B g w a hw hi hu => ⟨.inr ⟨by rw [wB,List.length_map,hk2]; exact in1 hi,YQ w R B g (o9 hu)⟩,by
   have := aA4 (els := dG (xs.map enc)) (by rw [hz.sz]; exact hs) (in2 hi) (o9 hu) (by rw [wB,List.length_map]; exact hm)
   rw [hz.sz] at this
   have hp : dG (((xs.drop off).take m).map enc) = ((dG (xs.map enc)).drop off).take m := by simp [dG,List.map_take,List.map_drop]
   rw [hp]
   exact this,.inl rfl⟩)
 have h2 : LT P o [(x,Cc (.loc n 0 k)),(y,Cc (.loc n off m))] [(n,.dU e (xs.map enc))] (Cc (.loc n 0 (xs.take k ++ (xs.drop off).take m).length)) [(n,.row e ((dG ((xs.take k ++ (xs.drop off).take m).map enc)).map (·.map (bP [n]))))] [n] [n] := by
  rw [List.length_append,hk2,hm2]
  have hl : (dG ((xs.take k).map enc)).length + (dG (((xs.drop off).take m).map enc)).length = k + m := by rw [wB,wB,List.length_map,List.length_map,hk2,hm2]
  rw [hl] at this
  simpa [dG] using this
 exact h2.zA
theorem bK.kP {e : TypeId} {cs : List CV} (h : wO cs) : bK (.row e [cs]) := fun c hc x hx => by
 have : c = cs := by simpa using hc
 subst this
 exact h.spec x hx
theorem Iy {k : Int} : ∀ {es : List MapEntry} {m : List (Int × Int)} {i : Nat},es.map (fun e => (e.key,e.val)) = m.map (fun e => (Value.int .i64 e.1,Value.int .i64 e.2)) → jV m k = false → Instr.findNow (.int .i64) (.int .i64 k) es i = some none
 | [],[],_,_,_ => rfl
 | [],_ :: _,_,h,_ => by cases h
 | _ :: _,[],_,h,_ => by cases h
 | e :: es,x :: m,i,h,hh => by
  simp only [List.map_cons,List.cons.injEq,Prod.mk.injEq] at h
  obtain ⟨⟨h1,h2⟩,h3⟩ := h
  unfold jV at hh
  cases hx : k == x.1 with
  | true => rw [hx] at hh; cases hh
  | false =>
   rw [hx,cond_false] at hh
   simp [Instr.findNow,Instr.sameNow,h1,hx,Iy h3 hh]
theorem Iz {k : Int} : ∀ {es : List MapEntry} {m : List (Int × Int)} {i : Nat},es.map (fun e => (e.key,e.val)) = m.map (fun e => (Value.int .i64 e.1,Value.int .i64 e.2)) → jV m k = true →
  ∃ j,Instr.findNow (.int .i64) (.int .i64 k) es i = some (some (i + j,.int .i64 (jA m k))) ∧ (∃ e,es[j]? = some e ∧ e.key = .int .i64 k) ∧ ∀ v,iQ m k v = m.set j (k,v)
 | [],[],_,_,h => by cases h
 | [],_ :: _,_,h,_ => by cases h
 | _ :: _,[],_,h,_ => by cases h
 | e :: es,x :: m,i,h,hh => by
  simp only [List.map_cons,List.cons.injEq,Prod.mk.injEq] at h
  obtain ⟨⟨h1,h2⟩,h3⟩ := h
  unfold jV at hh
  cases hx : k == x.1 with
  | true =>
   refine ⟨0,?_,⟨e,rfl,by rw [h1,eq_of_beq hx]⟩,fun v => ?_⟩
   ·simp [Instr.findNow,Instr.sameNow,h1,hx,h2,jA]
   ·simp [iQ,hx]
  | false =>
   rw [hx,cond_false] at hh
   obtain ⟨j,k1,⟨e2,k2,k3⟩,k4⟩ := Iz (i := i + 1) h3 hh
   refine ⟨j + 1,?_,⟨e2,by simpa using k2,k3⟩,fun v => ?_⟩
   ·simp [Instr.findNow,Instr.sameNow,h1,hx,k1,jA]
    omega
   ·simp [iQ,hx,k4]
theorem Qv {k : Int} : ∀ {m : List (Int × Int)},jV m k = false → ∀ v,iQ m k v = m ++ [(k,v)]
 | [],_,_ => rfl
 | x :: m,h,v => by
  unfold jV at h
  cases hx : k == x.1 with
  | true => rw [hx] at h; cases h
  | false =>
   rw [hx,cond_false] at h
   simp [iQ,hx,Qv h]
def yL (P : Program) (t : TypeId) : Option (TypeId × TypeId) := match P.underlying t with
 | some (.map k e) => match P.underlying k,(P.info? e).bind (·.zero) with
  | some (.int .i64),some (.int .i64 0) => some (k,e)
  | _,_ => none
 | _ => none
theorem Qn {t k e : TypeId} (h : yL P t = some (k,e)) : P.underlying t = some (.map k e) ∧ P.underlying k = some (.int .i64) ∧ ∃ i,P.info? e = some i ∧ i.zero = some (.int .i64 0) := by
 unfold yL at h
 split at h
 ·rename_i k' e' hu
  split at h
  ·rename_i hk hz
   injection h with h
   injection h with h1 h2
   subst h1
   subst h2
   cases hi : P.info? e' with
   | none => rw [hi] at hz; cases hz
   | some i =>
    rw [hi] at hz
    exact ⟨hu,hk,i,rfl,hz⟩
  ·cases h
 ·cases h
theorem Gy {b : Bool} {k : TypeId} (hk : P.underlying k = some (.int .i64)) (n : Int) (w : World) : (Instr.checkKey b 10000 k (.int .i64 n)).run P w = .ok () w := by
 unfold Instr.checkKey
 simp only [Sem.run_bind,run_underlying hk,Result.andThen_ok]
 rfl
theorem Gz {k : TypeId} (hk : P.underlying k = some (.int .i64)) {n : Int} {es : List MapEntry} {r : Option (Nat × Value)} (h : Instr.findNow (.int .i64) (.int .i64 n) es 0 = some r) (w : World) : (Instr.findKey k (.int .i64 n) es).run P w = .ok r w := by
 simp [Instr.findKey,run_underlying hk,h,Result.andThen]
theorem LT.makeMap {t : TypeId} {n : Nat} (ho : o.op = .makeMap t none) : LT P o [] [] (Cc (.mref n)) [(n,.mp [])] [] [n] := by
 intro R B g w a hw hi hu K Q hK
 have hr := Go.RowKit.run_makeMap (P := P) t w
 have had := fG.alloc hw n (.map #[] 0)
 have hrun : (execOp a.eval o).run P w = .ok (.value (.map (some w.heap.size))) (w.alloc (.map #[] 0)) := by
  simp [execOp,ho,hr]
 unfold Oper.wp
 rw [hrun]
 refine hK _ _ _ _ _ had (fun b hb => .inl hb) (fun _ => ⟨rfl,w.heap.size,upd_same ..,rfl⟩) (fun p hp => ?_)
 have : p = (n,.mp []) := by simpa using hp
 subst this
 exact ⟨w.heap.size,#[],0,upd_same ..,(Go.MapKept.heap_alloc w _).1,rfl⟩
theorem Qp {t k e : TypeId} (ht : yL P t = some (k,e)) {n : Nat} {m : List (Int × Int)} (h : RO P w R B g n (.mp m)) {v : Value} (hv : RC P w R B g (.mref n) v) (x : Int) (ok : Bool) :
  (Instr.lookup t v (.int .i64 x) ok).run P w = .ok (if ok then .tuple #[.int .i64 (jA m x),.bool (jV m x)] else .int .i64 (jA m x)) w := by
 obtain ⟨h1,h2,i,h3,h4⟩ := Qn ht
 obtain ⟨b,lU,clock,k1,k2,k3⟩ := h
 obtain ⟨_,b',k4,rfl⟩ := hv
 rw [k1] at k4
 injection k4 with k4
 subst k4
 cases hh : jV m x with
 | false =>
  have hf := Gz (P := P) h2 (Iy k3 hh) w
  have hg : jA m x = 0 := by
   clear hf k3
   induction m with
   | nil => rfl
   | cons y r ih =>
    unfold jV at hh
    unfold jA
    cases hy : x == y.1 with
    | true => rw [hy] at hh; cases hh
    | false =>
     rw [hy,cond_false] at hh
     exact ih hh
  simp [Instr.lookup,run_underlying h1,Go.MapKept.run_getObj_map k2,Gy h2,hf,Result.andThen,zeroValue,typeInfo,h3,h4,hg]
 | true =>
  obtain ⟨j,hj,_,_⟩ := Iz (i := 0) k3 hh
  have hf := Gz (P := P) h2 hj w
  simp [Instr.lookup,run_underlying h1,Go.MapKept.run_getObj_map k2,Gy h2,hf,Result.andThen]
theorem LT.Zv {t k e : TypeId} {x y : Operand} {n : Nat} {m : List (Int × Int)} {i : Int} (ho : o.op = .lookup t x y false) (ht : yL P t = some (k,e)) : LT P o [(x,Cc (.mref n)),(y,Iv i)] [(n,.mp m)] (Iv (jA m i)) [] [] [] := .calm fun R B g w a hw hi hu => by
 have hl := Qp (P := P) ht (o9 hu) (in1 hi) i false
 rw [if_neg (by simp)] at hl
 refine ⟨_,?_,qO rfl⟩
 simp [execOp,ho,lH (in2 hi),hl]
theorem LT.Zw {t k e : TypeId} {x y : Operand} {n : Nat} {m : List (Int × Int)} {i : Int} (ho : o.op = .lookup t x y true) (ht : yL P t = some (k,e)) : LT P o [(x,Cc (.mref n)),(y,Iv i)] [(n,.mp m)] (.dI [.c (iC (jA m i)),.c (bC (jV m i))]) [] [] [] := .calm fun R B g w a hw hi hu => by
 have hl := Qp (P := P) ht (o9 hu) (in1 hi) i true
 rw [if_pos rfl] at hl
 refine ⟨.tuple #[.int .i64 (jA m i),.bool (jV m i)],by simp [execOp,ho,lH (in2 hi),hl],[.int .i64 (jA m i),.bool (jV m i)],rfl,rfl,fun k x hk => ?_⟩
 match k,hk with
 | 0,hk => simp at hk; subst hk; exact ⟨_,rfl,rfl,.sc rfl⟩
 | 1,hk => simp at hk; subst hk; exact ⟨_,rfl,rfl,.sc rfl⟩
 | k + 2,hk => simp at hk
theorem fG.aAe (h : WF R B g w) {n b : Nat} {es : Array MapEntry} {clock : Nat} (hn : g n = .blk b) (hh : w.heap[b]? = some (.map es clock)) (o' : Obj) : fG R B g w [n] [] R B g (setBlock w b o') where
 wf := h.mono (by simp [setBlock])
 r _ h := h
 b _ h := h
 os := rfl
 tape := rfl
 output := rfl
 size := by simp [setBlock]
 heap c _ hc := heap_setBlock_other hh o' (fun e => hc n List.mem_cons_self (by rw [hn,e]; rfl))
 names _ _ := rfl
 fresh _ hk := by cases hk
 shape k hk _ c cu e' hg hc := by
  have : k = n := by simpa using hk
  subst this
  rw [hn] at hg
  have hg : b = c := Eq.symm hg
  subst hg
  rw [hh] at hc
  cases hc
theorem LT.Qo {t k e : TypeId} {x y z : Operand} {n : Nat} {m : List (Int × Int)} {i j : Int} {v : AV} (ho : o.op = .mapUpdate t x y z ∨ o.op = .insert t x y z) (hd : o.dst = none) (ht : yL P t = some (k,e)) : LT P o [(x,Cc (.mref n)),(y,Iv i),(z,Iv j)] [(n,.mp m)] v [(n,.mp (iQ m i j))] [n] [] := by
 intro R B g w a hw hin hu K Q hK
 obtain ⟨h1,h2,_,_,_⟩ := Qn ht
 obtain ⟨b,lU,clock,k1,k2,k3⟩ := o9 hu
 obtain ⟨_,b',k4,k5⟩ := in1 hin
 rw [k1] at k4
 injection k4 with k4
 subst k4
 have e2 := lH (in2 hin)
 have e3 := lH (ZT hin)
 have key : ∃ es' clock',(Instr.mapUpdate t (.map (some b)) (.int .i64 i) (.int .i64 j)).run P w = .ok () (setBlock w b (.map es' clock')) ∧ es'.toList.map (fun e => (e.key,e.val)) = (iQ m i j).map fun e => (Value.int .i64 e.1,Value.int .i64 e.2) := by
  cases hh : jV m i with
  | false =>
   have hf := Gz (P := P) h2 (Iy k3 hh) w
   refine ⟨lU.push { key := .int .i64 i,val := .int .i64 j,born := clock },clock + 1,?_,?_⟩
   ·simp [Instr.mapUpdate,run_underlying h1,Go.MapKept.run_getObj_map k2,Gy h2,hf,Go.MapKept.run_setObj_map _ k2,Result.andThen]
    rfl
   ·rw [Qv hh]
    simp [k3]
  | true =>
   obtain ⟨q,hq,⟨en,hen,hkey⟩,hput⟩ := Iz (i := 0) k3 hh
   rw [Nat.zero_add] at hq
   have hf := Gz (P := P) h2 hq w
   have hen' : lU[q]? = some en := by simpa using hen
   refine ⟨lU.modify q fun e => { e with key := .int .i64 i,val := .int .i64 j },clock,?_,?_⟩
   ·simp [Instr.mapUpdate,run_underlying h1,Go.MapKept.run_getObj_map k2,Gy h2,hf,hen',hkey,Instr.keyThatStays,Instr.sameBits,Go.MapKept.run_setObj_map _ k2,Result.andThen]
    rfl
   ·rw [hput]
    apply List.ext_getElem?
    intro r
    have hk3 := congrArg (fun l => l[r]?) k3
    simp only [List.getElem?_map,Array.getElem?_toList] at hk3
    simp only [List.getElem?_map,List.getElem?_set,Array.getElem?_toList,Array.getElem?_modify]
    by_cases hr : q = r
    ·subst hr
     rw [hen'] at hk3
     cases hm : m[q]? with
     | none => rw [hm] at hk3; cases hk3
     | some y =>
      have := (List.getElem?_eq_some_iff.1 hm).1
      simp [hen',this]
    ·simp [hr,hk3]
 obtain ⟨es',clock',hrun,hes⟩ := key
 have hex : (execOp a.eval o).run P w = .ok .skip (setBlock w b (.map es' clock')) := by
  rcases ho with ho | ho <;> simp [execOp,ho,k5,e2,e3,hrun]
 have had := fG.aAe hw k1 k2 (.map es' clock')
 unfold Oper.wp
 rw [hex]
 have hq := hK undef R B g (setBlock w b (.map es' clock')) had (fun b hb => .inl hb) (fun h => by rw [hd] at h; cases h) (fun p hp => by
  have : p = (n,.mp (iQ m i j)) := by simpa using hp
  subst this
  exact ⟨b,es',clock',k1,heap_setBlock_same k2 _,hes⟩)
 exact hq
end
end Go.Fw
end
section
set_option linter.unusedVariables false
set_option linter.unusedSimpArgs false
set_option linter.unnecessarySimpa false
namespace Go.Fw
section
variable {P : Program} {C : Ctx} {σ : Slots} {m : Mem}
theorem RC.junk {w : World} {R B : Nat → Prop} {g : Nat → GS} {x : CV} {v : Value} (h : RC P w R B g x v) : RC P w R B g .junk v := ⟨h.1,trivial⟩
theorem aAS {w : World} {R B : Nat → Prop} {g : Nat → GS} {cs : List CV} {k : Nat} {T : Nat → Value → Prop} (h : ∀ (j : Nat) x,cs[j]? = some x → ∃ u,T j u ∧ RC P w R B g x u) : ∀ (j : Nat) x,(cs.set k .junk)[j]? = some x → ∃ u,T j u ∧ RC P w R B g x u := fun j x hj => by
 rw [List.getElem?_set] at hj
 by_cases hk : k = j
 ·rw [if_pos hk] at hj
  split at hj
  ·injection hj with hj
   subst hj
   rename_i hl
   obtain ⟨u,h1,h2⟩ := h j cs[j] (List.getElem?_eq_getElem (by omega))
   exact ⟨u,h1,h2.junk⟩
  ·cases hj
 ·rw [if_neg hk] at hj
  exact h j x hj
theorem St.slot {R B : Nat → Prop} {g : Nat → GS} {a : Act} {w : World} (hs : St P C σ m R B g a w) {t : Nat} {v : AV} (h : RA P w R B g v (a.tmps.getD t undef)) : St P C ((t,v) :: σ) m R B g a w := by
 refine { hs with sl := ?_ }
 intro t' v' hl
 change (bif Nat.beq t t' then some v else lk σ t') = some v' at hl
 cases hb : Nat.beq t t' with
 | true =>
  rw [hb,cond_true] at hl
  injection hl with hl
  subst hl
  rw [← Nat.eq_of_beq_eq_true hb]
  exact h
 | false =>
  rw [hb,cond_false] at hl
  exact hs.sl t' v' hl
theorem St.obj {R B : Nat → Prop} {g : Nat → GS} {a : Act} {w : World} (hs : St P C σ m R B g a w) {n : Nat} {o0 o : Ob} (h0 : lk m n = some o0) (h : RO P w R B g n o) : St P C σ ((n,o) :: m) R B g a w := by
 refine { hs with ob := ?_,ow := ?_ }
 ·intro n' o' hl
  change (bif Nat.beq n n' then some o else lk m n') = some o' at hl
  cases hb : Nat.beq n n' with
  | true =>
   rw [hb,cond_true] at hl
   injection hl with hl
   subst hl
   rw [← Nat.eq_of_beq_eq_true hb]
   exact h
  | false =>
   rw [hb,cond_false] at hl
   exact hs.ob n' o' hl
 ·intro n' o' b hl hg
  change (bif Nat.beq n n' then some o else lk m n') = some o' at hl
  cases hb : Nat.beq n n' with
  | true =>
   have := Nat.eq_of_beq_eq_true hb
   subst this
   exact hs.ow n o0 b h0 hg
  | false =>
   rw [hb,cond_false] at hl
   exact hs.ow n' o' b hl hg
theorem aU.mF (t : Nat) {x : CV} (h : lk σ t = some (Cc x)) : aU P C σ m ((t,Cc .junk) :: σ) m := fun R B g a w hs =>
 ⟨R,B,g,hs.slot (v := Cc .junk) (RC.junk (x := x) (hs.sl t _ h))⟩
theorem aU.KI (n k : Nat) {e : TypeId} {cs : List CV} (h : lk m n = some (.row e [cs])) : aU P C σ m σ ((n,.row e [cs.set k .junk]) :: m) := fun R B g a w hs => by
 refine ⟨R,B,g,hs.obj h ?_⟩
 rcases hs.ob n _ h with ⟨h1,h2⟩ | ⟨b,cur,h1,h2,h3,h4,h5⟩
 ·cases h2
 ·refine .inr ⟨b,cur,h1,h2,fun c hc => ?_,by simpa using h4,fun j i c x hj hx => ?_⟩
  ·have : c = cs.set k .junk := by simpa using hc
   subst this
   simpa using h3 cs List.mem_cons_self
  ·cases j with
   | succ j => simp at hj
   | zero =>
    simp at hj
    subst hj
    exact aAS (T := fun i u => cur[0 * bQ P e + i]? = some u) (fun i x hx => h5 0 i cs x rfl hx) i x hx
theorem aU.Kt (n : Nat) (e : TypeId) (hn : C.pn.elem n = false) : aU P C σ m (jw [n] σ) ((n,.dU e []) :: iF [n] m) := fun R B g a w hs =>
 ⟨R,B,upd g n .nil,hs.Q5 n (by
  intro h
  rw [List.elem_eq_true_of_mem h] at hn
  cases hn) e⟩
def yu : List PV → List PV → Prop
 | [],[] => True
 | p :: r,p' :: r' => QW p p' ∧ yu r r'
 | _,_ => False
theorem yu.get : ∀ {l l' : List PV},yu l l' → l'.length = l.length ∧ ∀ (k : Nat) p p',l[k]? = some p → l'[k]? = some p' → QW p p'
 | [],[],_ => ⟨rfl,fun k p p' h => by simp at h⟩
 | p :: r,p' :: r',h => by
  obtain ⟨h1,h2⟩ := yu.get h.2
  refine ⟨by simp [h1],fun k x x' hx hx' => ?_⟩
  cases k with
  | zero =>
   simp at hx hx'
   subst hx
   subst hx'
   exact h.1
  | succ k => exact h2 k x x' (by simpa using hx) (by simpa using hx')
 | [],_ :: _,h => h.elim
 | _ :: _,[],h => h.elim
theorem QW.xsm {α : Type} {enc enc' : α → List PV} (h : ∀ a,yu (enc a) (enc' a)) {q q' : Bool} (hq : q' = true → q = true) (xs : List α) : QW (.xs q (xs.map enc)) (.xs q' (xs.map enc')) := by
 refine .xs hq (by simp) (fun j cs cs' h1 h2 => ?_) (fun j k cs cs' p p' h1 h2 h3 h4 => ?_)
 ·rw [List.getElem?_map] at h1 h2
  cases hx : xs[j]? with
  | none => rw [hx] at h1; cases h1
  | some a =>
   rw [hx] at h1 h2
   injection h1 with h1
   injection h2 with h2
   subst h1
   subst h2
   exact (h a).get.1
 ·rw [List.getElem?_map] at h1 h2
  cases hx : xs[j]? with
  | none => rw [hx] at h1; cases h1
  | some a =>
   rw [hx] at h1 h2
   injection h1 with h1
   injection h2 with h2
   subst h1
   subst h2
   exact (h a).get.2 k p p' h3 h4
section
variable {α : Type} {enc : α → List PV}
end
end
end Go.Fw
end
section
set_option linter.unusedVariables false
set_option linter.unusedSimpArgs false
set_option linter.unnecessarySimpa false
namespace Go.Fw
section
variable {P : Program} {w : World} {R B : Nat → Prop} {g g' : Nat → GS} {X : List Nat} {p k m : Nat}
theorem RC.av {x : CV} {v : Value} (hz : iE X x = true) (hg : ∀ n,n ∉ X → g' n = g n) (h : RC P w R B g x v) : RC P w R B g' x v := by
 refine ⟨h.1,?_⟩
 have h2 := h.2
 cases x with
 | pv p => exact h2
 | px q cells => exact h2
 | loc n off len =>
  have hn := hg n (lN (by simpa [iE] using hz))
  rcases h2 with ⟨h3,h4⟩ | h3 | ⟨b,cap,cur,e,h3,h4⟩
  ·exact .inl ⟨hn.trans h3,h4⟩
  ·exact .inr (.inl h3)
  ·exact .inr (.inr ⟨b,cap,cur,e,hn.trans h3,h4⟩)
 | pl n off =>
  obtain ⟨b,h3,h4⟩ := h2
  exact ⟨b,(hg n (lN (by simpa [iE] using hz))).trans h3,h4⟩
 | fn f caps =>
  obtain ⟨vs,h3,h4,h5⟩ := h2
  exact ⟨vs,h3,h4,fun k n hk => by
   obtain ⟨b,h6,h7⟩ := h5 k n hk
   have hc : caps.any X.elem = false := by simpa [iE] using hz
   have hn : X.elem n = false := by
    have := List.any_eq_false.1 hc n (List.mem_of_getElem? hk)
    simpa using this
   exact ⟨b,(hg n (lN hn)).trans h6,h7⟩⟩
 | mref n =>
  obtain ⟨b,h3,h4⟩ := h2
  exact ⟨b,(hg n (lN (by simpa [iE] using hz))).trans h3,h4⟩
 | tl q j off len =>
  have hn := hg q (lN (by simpa [iE] using hz))
  rcases h2 with ⟨h3,h4⟩ | h3 | ⟨b,cap,cur,e,h3,h4⟩
  ·exact .inl ⟨by rw [hn]; exact h3,h4⟩
  ·exact .inr (.inl h3)
  ·exact .inr (.inr ⟨b,cap,cur,e,by rw [hn]; exact h3,h4⟩)
 | tpl q j off =>
  obtain ⟨b,h3,h4⟩ := h2
  exact ⟨b,by rw [hg q (lN (by simpa [iE] using hz))]; exact h3,h4⟩
 | junk => trivial
theorem RS.av {x : SV} {v : Value} (hz : Ar X x = true) (hg : ∀ n,n ∉ X → g' n = g n) (h : RS P w R B g x v) : RS P w R B g' x v := by
 cases x with
 | c x => exact RC.av hz hg h
 | agg cs =>
  obtain ⟨vs,h1,h2,h3⟩ := h
  exact ⟨vs,h1,h2,fun k x hk => by
   obtain ⟨u,h4,h5⟩ := h3 k x hk
   exact ⟨u,h4,h5.av (List.all_eq_true.1 hz x (List.mem_of_getElem? hk)) hg⟩⟩
theorem dh.av {n : Nat} {e : TypeId} {els : List (List CV)} (hn : n ∉ X) (hz : els.all (·.all (iE X)) = true) (hg : ∀ n,n ∉ X → g' n = g n) (h : dh P w R B g n e els) : dh P w R B g' n e els := by
 rcases h with ⟨h1,h2⟩ | ⟨b,cur,h1,h2,h3,h4,h5⟩
 ·exact .inl ⟨(hg n hn).trans h1,h2⟩
 ·exact .inr ⟨b,cur,(hg n hn).trans h1,h2,h3,h4,fun j k cs x hj hk => by
   obtain ⟨u,h6,h7⟩ := h5 j k cs x hj hk
   exact ⟨u,h6,h7.av (List.all_eq_true.1 (List.all_eq_true.1 hz cs (List.mem_of_getElem? hj)) x (List.mem_of_getElem? hk)) hg⟩⟩
theorem RO.av {n : Nat} {o : Ob} (hn : n ∉ X) (hz : mG X o = true) (hg : ∀ n,n ∉ X → g' n = g n) (h : RO P w R B g n o) : RO P w R B g' n o := by
 cases o with
 | row e els => exact dh.av hn hz hg h
 | dU e els => exact dh.av hn (by simp [dG,List.all_eq_true,iE]) hg h
 | mp es =>
  obtain ⟨b,lU,clock,h1,h2⟩ := h
  exact ⟨b,lU,clock,(hg n hn).trans h1,h2⟩
 | pool e rows =>
  obtain ⟨⟨bs,h1,h2⟩,h3⟩ := h
  exact ⟨⟨bs,(hg n hn).trans h1,h2⟩,by rw [hg n hn]; exact h3⟩
 | iY e p lens => exact dh.av hn (List.all_eq_true.2 fun cs hcs => by
   obtain ⟨j,l,rfl⟩ := GU hcs
   simpa [iE,mG] using hz) hg h
 | unk => trivial
theorem qR.of {n : Nat} {e : TypeId} {els : List (List PV)} (h : dh P w R B g n e (dG els)) : qR P w R B (g n) e els := by
 rcases h with ⟨h1,h2⟩ | ⟨b,cur,h1,h2,h3,h4,h5⟩
 ·exact .inl ⟨h1,by simpa [dG] using h2⟩
 ·refine .inr ⟨b,cur,h1,h2,fun cs hcs => ?_,by simpa [dG] using h4,fun j k cs x hj hk => ?_⟩
  ·have := h3 (cs.map .pv) (List.mem_map.2 ⟨cs,hcs,rfl⟩)
   simpa using this
  ·obtain ⟨u,hu,hr⟩ := h5 j k (cs.map .pv) (.pv x) (by simp [dG,hj]) (by simp [hk])
   exact ⟨u,hu,hr.2⟩
theorem qR.row {n : Nat} {s : GS} {e : TypeId} {els : List (List PV)} (h : qR P w R B s e els) (hn : g n = s) : dh P w R B g n e (dG els) := by
 rcases h with ⟨h1,h2⟩ | ⟨b,cur,h1,h2,h3,h4,h5⟩
 ·exact .inl ⟨hn.trans h1,by rw [h2]; rfl⟩
 ·refine .inr ⟨b,cur,hn.trans h1,h2,fun cs hcs => ?_,by simpa [dG] using h4,fun j k cs x hj hk => ?_⟩
  ·obtain ⟨c0,hc0,rfl⟩ := List.mem_map.1 hcs
   simpa using h3 c0 hc0
  ·simp only [dG,List.getElem?_map] at hj
   cases hc : els[j]? with
   | none => rw [hc] at hj; cases hj
   | some c0 =>
    rw [hc] at hj
    injection hj with hj
    subst hj
    rw [List.getElem?_map] at hk
    cases hc2 : c0[k]? with
    | none => rw [hc2] at hk; cases hk
    | some y =>
     rw [hc2] at hk
     injection hk with hk
     subst hk
     obtain ⟨u,hu,hr⟩ := h5 j k c0 y hc hc2
     exact ⟨u,hu,hr.oneCell,hr⟩
end
end Go.Fw
end
section
set_option linter.unusedVariables false
set_option linter.unusedSimpArgs false
set_option linter.unnecessarySimpa false
namespace Go.Fw
section
variable {P : Program} {C : Ctx} {σ : Slots} {mm : Mem} {α : Type} {enc : α → List PV}
theorem aU.iY {n p : Nat} {e : TypeId} {lens : List Nat} {cells : List (List CV)} (hc : cells = lJ p lens) (h : lk mm n = some (.row e cells)) : aU P C σ mm σ ((n,.iY e p lens) :: mm) := fun R B g a w hs => by
 subst hc
 exact ⟨R,B,g,hs.obj (o := .iY e p lens) h (show dh P w R B g n e (lJ p lens) from hs.ob n (.row e (lJ p lens)) h)⟩
end
end Go.Fw
end
section
set_option linter.unusedVariables false
set_option linter.unusedSimpArgs false
set_option linter.unnecessarySimpa false
namespace Go.Fw
section
variable {P : Program} {o : Oper} {α : Type} {enc : α → List PV}
theorem qR.blk {w : World} {R B : Nat → Prop} {s : GS} {e : TypeId} {els : List (List PV)} (h : qR P w R B s e els) {b : Nat} (hb : s = .blk b) {cur : Array Value} {e' : TypeId} (hh : w.heap[b]? = some (.cells cur e' (0,0))) :
  e' = e ∧ (∀ cs ∈ els,cs.length = bQ P e) ∧ els.length * bQ P e ≤ cur.size ∧ ∀ (j k : Nat) cs x,els[j]? = some cs → cs[k]? = some x → ∃ u,cur[j * bQ P e + k]? = some u ∧ gI w R B x u := by
 rcases h with ⟨h1,_⟩ | ⟨b',cur',h1,h2,h3,h4,h5⟩
 ·rw [hb] at h1; cases h1
 ·rw [hb] at h1
  injection h1 with h1
  subst h1
  rw [hh] at h2
  injection h2 with h2
  injection h2 with h2 h6 h7
  subst h2
  subst h6
  exact ⟨rfl,h3,h4,h5⟩
end
end Go.Fw
end
section
set_option linter.unusedVariables false
set_option linter.unusedSimpArgs false
set_option linter.unnecessarySimpa false
namespace Go.Fw
section
variable {P : Program} {C : Ctx} {σ : Slots} {mm : Mem} {α : Type} {enc : α → List PV}
theorem aU.lens {n p : Nat} {e : TypeId} {lens lens' : List Nat} (he : lens = lens') (h : lk mm n = some (.iY e p lens)) : aU P C σ mm σ ((n,.iY e p lens') :: mm) := fun R B g a w hs => by
 subst he
 exact ⟨R,B,g,hs.obj h (hs.ob n _ h)⟩
end
end Go.Fw
end
section
set_option linter.unusedVariables false
set_option linter.unusedSimpArgs false
set_option linter.unnecessarySimpa false
namespace Go.Fw
inductive uZ (n : Nat) (els : List (List PV)) : CV → CV → Prop
 | same {x y : CV} (h : bP [n] x = y) : uZ n els x y
 | fr {l : Nat} (h : l = els.length) : uZ n els (.loc n 0 l) (.pv (.xs true els))
inductive qQ (n : Nat) (els : List (List PV)) : List CV → List CV → Prop
 | nil : qQ n els [] []
 | cons {x y : CV} {xs ys : List CV} (h : uZ n els x y) (t : qQ n els xs ys) : qQ n els (x :: xs) (y :: ys)
inductive wL (n : Nat) (els : List (List PV)) : AV → AV → Prop
 | same {x y : AV} (h : lF [n] x = y) : wL n els x y
 | c {x y : CV} (h : uZ n els x y) : wL n els (.s (.c x)) (.s (.c y))
 | agg {xs ys : List CV} (h : qQ n els xs ys) : wL n els (.s (.agg xs)) (.s (.agg ys))
inductive yt (n : Nat) (els : List (List PV)) : Ob → Ob → Prop
 | same {x y : Ob} (h : jU [n] x = y) : yt n els x y
 | row {e : TypeId} {xs ys : List CV} (h : qQ n els xs ys) : yt n els (.row e [xs]) (.row e [ys])
def Ej (n : Nat) (els : List (List PV)) (σ : Slots) : Slots → Prop
 | [] => True
 | (t,v) :: r => (∃ x,lk σ t = some x ∧ wL n els x v) ∧ Ej n els σ r
def Ei (n : Nat) (els : List (List PV)) (m : Mem) : Mem → Prop
 | [] => True
 | (k,o) :: r => (Nat.beq k n = false ∧ ∃ x,lk m k = some x ∧ yt n els x o) ∧ Ei n els m r
section
variable {P : Program} {C : Ctx} {σ σ' : Slots} {m m' : Mem} {n : Nat} {els : List (List PV)}
theorem Ej.get : ∀ {σ' : Slots},Ej n els σ σ' → ∀ t v,lk σ' t = some v → ∃ x,lk σ t = some x ∧ wL n els x v
 | [],_,t,v,h => by cases h
 | (k,v') :: r,h,t,v,hl => by
  change (bif Nat.beq k t then some v' else lk r t) = some v at hl
  cases hb : Nat.beq k t with
  | true =>
   rw [hb,cond_true] at hl
   injection hl with hl
   subst hl
   have := Nat.eq_of_beq_eq_true hb
   subst this
   exact h.1
  | false =>
   rw [hb,cond_false] at hl
   exact Ej.get h.2 t v hl
theorem Ei.get : ∀ {m' : Mem},Ei n els m m' → ∀ k o,lk m' k = some o → k ≠ n ∧ ∃ x,lk m k = some x ∧ yt n els x o
 | [],_,t,v,h => by cases h
 | (k,v') :: r,h,t,v,hl => by
  change (bif Nat.beq k t then some v' else lk r t) = some v at hl
  cases hb : Nat.beq k t with
  | true =>
   rw [hb,cond_true] at hl
   injection hl with hl
   subst hl
   have := Nat.eq_of_beq_eq_true hb
   subst this
   exact ⟨Nat.ne_of_beq_eq_false h.1.1,h.1.2⟩
  | false =>
   rw [hb,cond_false] at hl
   exact Ei.get h.2 t v hl
theorem qQ.get {xs ys : List CV} (h : qQ n els xs ys) : xs.length = ys.length ∧ ∀ (k : Nat) y,ys[k]? = some y → ∃ x,xs[k]? = some x ∧ uZ n els x y := by
 induction h with
 | nil => exact ⟨rfl,fun k y h => by simp at h⟩
 | cons h _ ih =>
  refine ⟨by simp [ih.1],fun k y hk => ?_⟩
  cases k with
  | zero => simp at hk; subst hk; exact ⟨_,rfl,h⟩
  | succ k => exact ih.2 k y (by simpa using hk)
section
variable {w : World} {R B R' B' : Nat → Prop} {g g' : Nat → GS}
theorem uZ.rc (had : fG R B g w [] [n] R' B' g' w) (hw : WF R B g w) (hv : ∀ v,RC P w R B g (.loc n 0 els.length) v → gI w R' B' (.xs true els) v) {x y : CV} {v : Value} (h : uZ n els x y) (hx : RC P w R B g x v) : RC P w R' B' g' y v := by
 cases h with
 | same h => subst h; exact had.rc hw hx
 | fr h => subst h; exact ⟨hx.1,hv v hx⟩
theorem qQ.rl (had : fG R B g w [] [n] R' B' g' w) (hw : WF R B g w) (hv : ∀ v,RC P w R B g (.loc n 0 els.length) v → gI w R' B' (.xs true els) v) {xs ys : List CV} (h : qQ n els xs ys) {us : Nat → Option Value} (hx : ∀ (k : Nat) x,xs[k]? = some x → ∃ u,us k = some u ∧ RC P w R B g x u) :
  ∀ (k : Nat) y,ys[k]? = some y → ∃ u,us k = some u ∧ RC P w R' B' g' y u := fun k y hk => by
 obtain ⟨x,h1,h2⟩ := h.get.2 k y hk
 obtain ⟨u,h3,h4⟩ := hx k x h1
 exact ⟨u,h3,h2.rc had hw hv h4⟩
theorem wL.ra (had : fG R B g w [] [n] R' B' g' w) (hw : WF R B g w) (hv : ∀ v,RC P w R B g (.loc n 0 els.length) v → gI w R' B' (.xs true els) v) {x y : AV} {v : Value} (h : wL n els x y) (hx : RA P w R B g x v) : RA P w R' B' g' y v := by
 cases h with
 | same h => subst h; exact had.ra hw hx
 | c h => exact uZ.rc had hw hv h hx
 | agg h =>
  obtain ⟨vs,h1,h2,h3⟩ := hx
  exact ⟨vs,h1,h2.trans h.get.1,qQ.rl had hw hv h h3⟩
theorem yt.ro (had : fG R B g w [] [n] R' B' g' w) (hw : WF R B g w) (hv : ∀ v,RC P w R B g (.loc n 0 els.length) v → gI w R' B' (.xs true els) v) {k : Nat} (hk : k ≠ n) {x y : Ob} (h : yt n els x y) (hx : RO P w R B g k x) : RO P w R' B' g' k y := by
 cases h with
 | same h => subst h; exact had.ro hw (by simpa using hk) (by simp) hx
 | @row e xs ys h =>
  have hg : g' k = g k := had.names k (by simpa using hk)
  rcases hx with ⟨h1,h2⟩ | ⟨b,cur,h1,h2,h3,h4,h5⟩
  ·cases h2
  ·refine .inr ⟨b,cur,hg.trans h1,h2,fun cs hcs => ?_,h4,fun j i cs y hj hi => ?_⟩
   ·have : cs = ys := by simpa using hcs
    subst this
    rw [← h.get.1]
    exact h3 xs (by simp)
   ·cases j with
    | succ j => simp at hj
    | zero =>
     have : ys = cs := by simpa using hj
     subst this
     exact qQ.rl had hw hv h (us := fun i => cur[0 * bQ P e + i]?) (fun i x hi => h5 0 i xs x rfl hi) i y hi
end
variable {α : Type} {enc : α → List PV}
end
end Go.Fw
end
section
set_option linter.unusedVariables false
set_option linter.unusedSimpArgs false
set_option linter.unnecessarySimpa false
namespace Go.Fw
section
variable {P : Program} {w : World} {R B : Nat → Prop} {g : Nat → GS}
variable {o : Oper} {α : Type} {enc : α → List PV}
def I7 (P : Program) (t : TypeId) (i : Nat) : Option (TypeId × Nat) := match P.underlying t with
 | some (.struct fs) => (fs[i]?).map fun f => (f.type,f.offset)
 | _ => none
theorem LT.WJ {x : Operand} {t T : TypeId} {i d : Nat} {cs : List CV} {c : CV} (ho : o.op = .field t x i) (h : I7 P t i = some (T,d)) (ha : ja P T = some false) (hc : cs[d]? = some c) : LT P o [(x,Ag cs)] [] (Cc c) [] [] [] := .calm fun R B g w a _ hi _ => by
 obtain ⟨vs,hx,hl,hg⟩ := in1 hi
 obtain ⟨u,hu,hr⟩ := hg d c hc
 unfold I7 at h
 split at h
 ·rename_i fs hf
  cases hfi : fs[i]? with
  | none => rw [hfi] at h; cases h
  | some f =>
   rw [hfi] at h
   injection h with h
   injection h with h1 h2
   subst h1 h2
   exact ⟨u,by simp [execOp,ho,hx,Instr.field,run_underlying hf,hfi,asAgg,part,G5 ha,hu],hr⟩
 ·cases h
end
end Go.Fw
end
section
set_option linter.unusedVariables false
set_option linter.unusedSimpArgs false
set_option linter.unnecessarySimpa false
namespace Go.Fw
abbrev xF {α : Type} (enc : α → List PV) (l : List α) : CV := .pv (.xs false (l.map enc))
abbrev xT {α : Type} (enc : α → List PV) (l : List α) : CV := .pv (.xs true (l.map enc))
abbrev lo (n len : Nat) : CV := .loc n 0 len
abbrev pR {α : Type} (e : TypeId) (enc : α → List PV) (l : List α) : Ob := .dU e (l.map enc)
section
variable {P : Program} {C : Ctx} {σ : Slots} {m : Mem} {is : List It} {τ υ : Type} {M : Option τ} {K : τ → Post} {ops : Array Oper} {l : List Oper} {done : List Ct} {rest : List Oper} {o : Oper}
theorem On (h : aB P C is σ m M K) : aS P C ops [] is σ m M K := aS.nil h
theorem aY {x : Option υ} {f : υ → Option τ} (h : ∀ u,x = some u → aS P C ops rest is σ m (f u) K) : aS P C ops rest is σ m (x.bind f) K := aS.bind h
theorem Ws {x y : Code} (h : aB P C (.code x :: .code y :: is) σ m M K) : aB P C (.code (.seq x y) :: is) σ m M K := aB.seq h
theorem Wr {id : Nat} {l : List Oper} (h : aS P C l.toArray l is σ m M K) : aB P C (.code (.region id l.toArray false) :: is) σ m M K := aB.region h
theorem Ok {j : Nat} {want : Bool} {d : Tmp} {c : Bool} (hg : o.guard = some (j,want)) (h1 : (ops[j]?).bind (·.dst) = some d) (h2 : lk σ d = some (Bv c)) (h3 : (c == want) = false) (hd : eX C.N o.dst = true) (h : aS P C ops rest is (dX σ o.dst (.dI [])) m M K) : aS P C ops (o :: rest) is σ m M K :=
 aS.skip (by unfold eu; rw [hg]; exact ⟨d,h1,.inl ⟨c,h2,h3.symm⟩⟩) hd h
theorem Oj {j : Nat} {want : Bool} {d : Tmp} (hg : o.guard = some (j,want)) (h1 : (ops[j]?).bind (·.dst) = some d) (h2 : lk σ d = some (.dI [])) (hd : eX C.N o.dst = true) (h : aS P C ops rest is (dX σ o.dst (.dI [])) m M K) : aS P C ops (o :: rest) is σ m M K :=
 aS.skip (by unfold eu; rw [hg]; exact ⟨d,h1,.inr ⟨h2,rfl⟩⟩) hd h
theorem Em   {v : AV} (hlt : LT P o [] [] v [] [] [])   (hg : eu ops σ o true) (hd : eX C.N o.dst = true) (h : aS P C ops rest is (dX σ o.dst v) m M K) : aS P C ops (o :: rest) is σ m M K := aS.pure hlt trivial trivial hg hd h
theorem dA   {v : AV} {df : Mem} {W X : List Nat} (hlt : LT P o [] [] v df W X)   (hg : eu ops σ o true) (hs : (eX C.N o.dst && eP W (X ++ keys df) && eP W (keys ([] : Mem)) && eP (keys df) (X ++ W) && kH X C.pn) = true) (h : aS P C ops rest is (dX (jw X σ) o.dst v) (df ++ iF X m) M K) : aS P C ops (o :: rest) is σ m M K := aS.step hlt trivial trivial hg hs h
theorem qy   {v : AV} {df : Mem} {W X : List Nat} (hlt : LT P o [] [] v df W X)   (hg : eu l.toArray σ o true) (hs : (eX C.N o.dst && eP W (X ++ keys df) && eP W (keys ([] : Mem)) && eP (keys df) (X ++ W) && kH X C.pn) = true) (h : aT P C l (⟨[],[],v,df,W,X,true⟩ :: done) rest is (dX (jw X σ) o.dst v) (df ++ iF X m) M K) : aT P C l done (o :: rest) is σ m M K := aT.step hlt trivial trivial hg hs h
theorem ah {x0 : Operand} {v0 : AV}  {v : AV} (hlt : LT P o [(x0,v0)] [] v [] [] []) (e0 : dW σ x0 v0)  (hg : eu ops σ o true) (hd : eX C.N o.dst = true) (h : aS P C ops rest is (dX σ o.dst v) m M K) : aS P C ops (o :: rest) is σ m M K := aS.pure hlt ⟨e0,trivial⟩ trivial hg hd h
theorem dF {x0 : Operand} {v0 : AV}  {v : AV} {df : Mem} {W X : List Nat} (hlt : LT P o [(x0,v0)] [] v df W X) (e0 : dW σ x0 v0)  (hg : eu ops σ o true) (hs : (eX C.N o.dst && eP W (X ++ keys df) && eP W (keys ([] : Mem)) && eP (keys df) (X ++ W) && kH X C.pn) = true) (h : aS P C ops rest is (dX (jw X σ) o.dst v) (df ++ iF X m) M K) : aS P C ops (o :: rest) is σ m M K := aS.step hlt ⟨e0,trivial⟩ trivial hg hs h
theorem bf {x0 : Operand} {v0 : AV}  {v : AV} (hlt : LT P o [(x0,v0)] [] v [] [] []) (e0 : dW σ x0 v0)  (hg : eu l.toArray σ o true) (hd : eX C.N o.dst = true) (h : aT P C l (⟨[(x0,v0)],[],v,[],[],[],true⟩ :: done) rest is (dX σ o.dst v) m M K) : aT P C l done (o :: rest) is σ m M K := aT.pure hlt ⟨e0,trivial⟩ trivial hg hd h
theorem BL {x0 : Operand} {v0 : AV}  {v : AV} {df : Mem} {W X : List Nat} (hlt : LT P o [(x0,v0)] [] v df W X) (e0 : dW σ x0 v0)  (hg : eu l.toArray σ o true) (hs : (eX C.N o.dst && eP W (X ++ keys df) && eP W (keys ([] : Mem)) && eP (keys df) (X ++ W) && kH X C.pn) = true) (h : aT P C l (⟨[(x0,v0)],[],v,df,W,X,true⟩ :: done) rest is (dX (jw X σ) o.dst v) (df ++ iF X m) M K) : aT P C l done (o :: rest) is σ m M K := aT.step hlt ⟨e0,trivial⟩ trivial hg hs h
theorem bV {x0 : Operand} {v0 : AV} {n0 : Nat} {o0 : Ob} {v : AV} (hlt : LT P o [(x0,v0)] [(n0,o0)] v [] [] []) (e0 : dW σ x0 v0) (l0 : lk m n0 = some o0) (hg : eu ops σ o true) (hd : eX C.N o.dst = true) (h : aS P C ops rest is (dX σ o.dst v) m M K) : aS P C ops (o :: rest) is σ m M K := aS.pure hlt ⟨e0,trivial⟩ ⟨l0,trivial⟩ hg hd h
theorem fU {x0 : Operand} {v0 : AV} {n0 : Nat} {o0 : Ob} {v : AV} (hlt : LT P o [(x0,v0)] [(n0,o0)] v [] [] []) (e0 : dW σ x0 v0) (l0 : lk m n0 = some o0) (hg : eu l.toArray σ o true) (hd : eX C.N o.dst = true) (h : aT P C l (⟨[(x0,v0)],[(n0,o0)],v,[],[],[],true⟩ :: done) rest is (dX σ o.dst v) m M K) : aT P C l done (o :: rest) is σ m M K := aT.pure hlt ⟨e0,trivial⟩ ⟨l0,trivial⟩ hg hd h
theorem fA {x0 : Operand} {v0 : AV} {x1 : Operand} {v1 : AV}  {v : AV} (hlt : LT P o [(x0,v0),(x1,v1)] [] v [] [] []) (e0 : dW σ x0 v0) (e1 : dW σ x1 v1)  (hg : eu ops σ o true) (hd : eX C.N o.dst = true) (h : aS P C ops rest is (dX σ o.dst v) m M K) : aS P C ops (o :: rest) is σ m M K := aS.pure hlt ⟨e0,e1,trivial⟩ trivial hg hd h
theorem NJ {x0 : Operand} {v0 : AV} {x1 : Operand} {v1 : AV}  {v : AV} {df : Mem} {W X : List Nat} (hlt : LT P o [(x0,v0),(x1,v1)] [] v df W X) (e0 : dW σ x0 v0) (e1 : dW σ x1 v1)  (hg : eu ops σ o true) (hs : (eX C.N o.dst && eP W (X ++ keys df) && eP W (keys ([] : Mem)) && eP (keys df) (X ++ W) && kH X C.pn) = true) (h : aS P C ops rest is (dX (jw X σ) o.dst v) (df ++ iF X m) M K) : aS P C ops (o :: rest) is σ m M K := aS.step hlt ⟨e0,e1,trivial⟩ trivial hg hs h
theorem eG {x0 : Operand} {v0 : AV} {x1 : Operand} {v1 : AV}  {v : AV} (hlt : LT P o [(x0,v0),(x1,v1)] [] v [] [] []) (e0 : dW σ x0 v0) (e1 : dW σ x1 v1)  (hg : eu l.toArray σ o true) (hd : eX C.N o.dst = true) (h : aT P C l (⟨[(x0,v0),(x1,v1)],[],v,[],[],[],true⟩ :: done) rest is (dX σ o.dst v) m M K) : aT P C l done (o :: rest) is σ m M K := aT.pure hlt ⟨e0,e1,trivial⟩ trivial hg hd h
theorem lC {x0 : Operand} {v0 : AV} {x1 : Operand} {v1 : AV} {n0 : Nat} {o0 : Ob} {v : AV} (hlt : LT P o [(x0,v0),(x1,v1)] [(n0,o0)] v [] [] []) (e0 : dW σ x0 v0) (e1 : dW σ x1 v1) (l0 : lk m n0 = some o0) (hg : eu ops σ o true) (hd : eX C.N o.dst = true) (h : aS P C ops rest is (dX σ o.dst v) m M K) : aS P C ops (o :: rest) is σ m M K := aS.pure hlt ⟨e0,e1,trivial⟩ ⟨l0,trivial⟩ hg hd h
theorem bW {x0 : Operand} {v0 : AV} {x1 : Operand} {v1 : AV} {n0 : Nat} {o0 : Ob} {v : AV} {df : Mem} {W X : List Nat} (hlt : LT P o [(x0,v0),(x1,v1)] [(n0,o0)] v df W X) (e0 : dW σ x0 v0) (e1 : dW σ x1 v1) (l0 : lk m n0 = some o0) (hg : eu ops σ o true) (hs : (eX C.N o.dst && eP W (X ++ keys df) && eP W (keys [(n0,o0)]) && eP (keys df) (X ++ W) && kH X C.pn) = true) (h : aS P C ops rest is (dX (jw X σ) o.dst v) (df ++ iF X m) M K) : aS P C ops (o :: rest) is σ m M K := aS.step hlt ⟨e0,e1,trivial⟩ ⟨l0,trivial⟩ hg hs h
theorem kz {x0 : Operand} {v0 : AV} {x1 : Operand} {v1 : AV} {n0 : Nat} {o0 : Ob} {v : AV} (hlt : LT P o [(x0,v0),(x1,v1)] [(n0,o0)] v [] [] []) (e0 : dW σ x0 v0) (e1 : dW σ x1 v1) (l0 : lk m n0 = some o0) (hg : eu l.toArray σ o true) (hd : eX C.N o.dst = true) (h : aT P C l (⟨[(x0,v0),(x1,v1)],[(n0,o0)],v,[],[],[],true⟩ :: done) rest is (dX σ o.dst v) m M K) : aT P C l done (o :: rest) is σ m M K := aT.pure hlt ⟨e0,e1,trivial⟩ ⟨l0,trivial⟩ hg hd h
theorem ji {x0 : Operand} {v0 : AV} {x1 : Operand} {v1 : AV} {n0 : Nat} {o0 : Ob} {v : AV} {df : Mem} {W X : List Nat} (hlt : LT P o [(x0,v0),(x1,v1)] [(n0,o0)] v df W X) (e0 : dW σ x0 v0) (e1 : dW σ x1 v1) (l0 : lk m n0 = some o0) (hg : eu l.toArray σ o true) (hs : (eX C.N o.dst && eP W (X ++ keys df) && eP W (keys [(n0,o0)]) && eP (keys df) (X ++ W) && kH X C.pn) = true) (h : aT P C l (⟨[(x0,v0),(x1,v1)],[(n0,o0)],v,df,W,X,true⟩ :: done) rest is (dX (jw X σ) o.dst v) (df ++ iF X m) M K) : aT P C l done (o :: rest) is σ m M K := aT.step hlt ⟨e0,e1,trivial⟩ ⟨l0,trivial⟩ hg hs h
theorem kR {x0 : Operand} {v0 : AV} {x1 : Operand} {v1 : AV} {n0 : Nat} {o0 : Ob} {n1 : Nat} {o1 : Ob} {v : AV} {df : Mem} {W X : List Nat} (hlt : LT P o [(x0,v0),(x1,v1)] [(n0,o0),(n1,o1)] v df W X) (e0 : dW σ x0 v0) (e1 : dW σ x1 v1) (l0 : lk m n0 = some o0) (l1 : lk m n1 = some o1) (hg : eu ops σ o true) (hs : (eX C.N o.dst && eP W (X ++ keys df) && eP W (keys [(n0,o0),(n1,o1)]) && eP (keys df) (X ++ W) && kH X C.pn) = true) (h : aS P C ops rest is (dX (jw X σ) o.dst v) (df ++ iF X m) M K) : aS P C ops (o :: rest) is σ m M K := aS.step hlt ⟨e0,e1,trivial⟩ ⟨l0,l1,trivial⟩ hg hs h
theorem BM {x0 : Operand} {v0 : AV} {x1 : Operand} {v1 : AV} {n0 : Nat} {o0 : Ob} {n1 : Nat} {o1 : Ob} {v : AV} {df : Mem} {W X : List Nat} (hlt : LT P o [(x0,v0),(x1,v1)] [(n0,o0),(n1,o1)] v df W X) (e0 : dW σ x0 v0) (e1 : dW σ x1 v1) (l0 : lk m n0 = some o0) (l1 : lk m n1 = some o1) (hg : eu l.toArray σ o true) (hs : (eX C.N o.dst && eP W (X ++ keys df) && eP W (keys [(n0,o0),(n1,o1)]) && eP (keys df) (X ++ W) && kH X C.pn) = true) (h : aT P C l (⟨[(x0,v0),(x1,v1)],[(n0,o0),(n1,o1)],v,df,W,X,true⟩ :: done) rest is (dX (jw X σ) o.dst v) (df ++ iF X m) M K) : aT P C l done (o :: rest) is σ m M K := aT.step hlt ⟨e0,e1,trivial⟩ ⟨l0,l1,trivial⟩ hg hs h
theorem UY {x0 : Operand} {v0 : AV} {x1 : Operand} {v1 : AV} {x2 : Operand} {v2 : AV}  {v : AV} (hlt : LT P o [(x0,v0),(x1,v1),(x2,v2)] [] v [] [] []) (e0 : dW σ x0 v0) (e1 : dW σ x1 v1) (e2 : dW σ x2 v2)  (hg : eu ops σ o true) (hd : eX C.N o.dst = true) (h : aS P C ops rest is (dX σ o.dst v) m M K) : aS P C ops (o :: rest) is σ m M K := aS.pure hlt ⟨e0,e1,e2,trivial⟩ trivial hg hd h
theorem NI {x0 : Operand} {v0 : AV} {x1 : Operand} {v1 : AV} {x2 : Operand} {v2 : AV}  {v : AV} (hlt : LT P o [(x0,v0),(x1,v1),(x2,v2)] [] v [] [] []) (e0 : dW σ x0 v0) (e1 : dW σ x1 v1) (e2 : dW σ x2 v2)  (hg : eu l.toArray σ o true) (hd : eX C.N o.dst = true) (h : aT P C l (⟨[(x0,v0),(x1,v1),(x2,v2)],[],v,[],[],[],true⟩ :: done) rest is (dX σ o.dst v) m M K) : aT P C l done (o :: rest) is σ m M K := aT.pure hlt ⟨e0,e1,e2,trivial⟩ trivial hg hd h
theorem NK {x0 : Operand} {v0 : AV} {x1 : Operand} {v1 : AV} {x2 : Operand} {v2 : AV} {n0 : Nat} {o0 : Ob} {v : AV} {df : Mem} {W X : List Nat} (hlt : LT P o [(x0,v0),(x1,v1),(x2,v2)] [(n0,o0)] v df W X) (e0 : dW σ x0 v0) (e1 : dW σ x1 v1) (e2 : dW σ x2 v2) (l0 : lk m n0 = some o0) (hg : eu ops σ o true) (hs : (eX C.N o.dst && eP W (X ++ keys df) && eP W (keys [(n0,o0)]) && eP (keys df) (X ++ W) && kH X C.pn) = true) (h : aS P C ops rest is (dX (jw X σ) o.dst v) (df ++ iF X m) M K) : aS P C ops (o :: rest) is σ m M K := aS.step hlt ⟨e0,e1,e2,trivial⟩ ⟨l0,trivial⟩ hg hs h
theorem UZ {x0 : Operand} {v0 : AV} {x1 : Operand} {v1 : AV} {x2 : Operand} {v2 : AV} {x3 : Operand} {v3 : AV}  {v : AV} {df : Mem} {W X : List Nat} (hlt : LT P o [(x0,v0),(x1,v1),(x2,v2),(x3,v3)] [] v df W X) (e0 : dW σ x0 v0) (e1 : dW σ x1 v1) (e2 : dW σ x2 v2) (e3 : dW σ x3 v3)  (hg : eu ops σ o true) (hs : (eX C.N o.dst && eP W (X ++ keys df) && eP W (keys ([] : Mem)) && eP (keys df) (X ++ W) && kH X C.pn) = true) (h : aS P C ops rest is (dX (jw X σ) o.dst v) (df ++ iF X m) M K) : aS P C ops (o :: rest) is σ m M K := aS.step hlt ⟨e0,e1,e2,e3,trivial⟩ trivial hg hs h
theorem mv (v : AV) {x : Operand} (ho : o.op = .move x) (e : dW σ x v) (hg : eu ops σ o true) (hd : eX C.N o.dst = true) (h : aS P C ops rest is (dX σ o.dst v) m M K) : aS P C ops (o :: rest) is σ m M K := aS.pure (LT.move ho) ⟨e,trivial⟩ trivial hg hd h
theorem Ui (v : AV) {x : Operand} (ho : o.op = .assign x) (e : dW σ x v) (hg : eu ops σ o true) (hd : eX C.N o.dst = true) (h : aS P C ops rest is (dX σ o.dst v) m M K) : aS P C ops (o :: rest) is σ m M K := aS.pure (LT.assign ho) ⟨e,trivial⟩ trivial hg hd h
theorem en (σ' : Slots) (m' : Mem) (h1 : uj σ' σ) (h2 : uh m' m) (k : aB P C is σ' m' M K) : aB P C is σ m M K := aB.ent (aU.of h1 h2) k
end
end Go.Fw
end
section
set_option linter.unusedVariables false
set_option linter.unusedSimpArgs false
set_option linter.unnecessarySimpa false
set_option maxRecDepth 100000
set_option maxHeartbeats 8000000
open Go Go.Fw
namespace Go.Proofs.YtdmlaldifbmkpaaGreat
structure aK where
  mk ::
  A : Int
  B : Int
structure aQ where
  mk ::
  aF : Int
  aA : (List aK)
structure dB where
  mk ::
  b : (List Int)
  i : Int
  h : Int
structure ay where
  mk ::
  Free : (List Int)
  aN : (List Int)
  aI : (List Int)
structure IV where
  mk ::
  X : Int
  Y : Int
structure Ep where
  mk ::
  Graph : aQ
  Places : (List IV)
def bF (a : Int) : List PV := [.sc (.int .u8 a)]
theorem mY (a : Int) : sK (bF a) := ⟨.sc, trivial⟩
theorem aAO (a : Int) : yu (bF a) (bF a) := ⟨.sc, trivial⟩
def aG (a : aK) : List PV := [.sc (.int .i64 a.A), .sc (.int .i64 a.B)]
theorem jF (a : aK) : sK (aG a) := ⟨.sc, .sc, trivial⟩
def aC (a : Int) : List PV := [.sc (.int .i64 a)]
theorem dS (a : Int) : sK (aC a) := ⟨.sc, trivial⟩
def rF (a : Bool) : List PV := [.sc (.bool a)]
def GL (code : (List Int)) : Option Bool :=
 some (decide (1048576 < (code.length : Int)))
def yC (code : (List Int)) (s1 : (Int × Int)) : Option ((Int × Int) ⊕ Int) :=
(((
(bif (decide (s1.2 < (code.length : Int))) then
 some (decide (s1.2 < 4000))
 else
 some false
)
) : Option Bool).bind (fun j14 =>
(bif j14 then
(idx code s1.2).bind (fun x17 =>
 some (.inl ((bits .and .i64 (aJ ((aJ ((aJ (s1.1 * 131)) + (aJ x17))) + 7)) 1073741823), (aJ (s1.2 + 1))))
)
 else
 some (.inr s1.1)
)
))
def vY (code : (List Int)) : Option dB :=
((bZ (yC code) BIG ((aJ (10101 + (code.length : Int))), 0)).bind (fun b12 =>
 some (dB.mk code 0 b12)
))
def uH (c : dB) : Option (Int × dB) :=
(((
(bif (decide (c.i < (c.b.length : Int))) then
(idx c.b c.i).bind (fun x5 =>
 some ((bits .and .i64 (aJ ((bits .and .i64 (bits .xor .i64 (mM (aJ ((aJ (c.h * 6364136223846793005)) + 1442695040888963407)) 33) (mM (aJ ((aJ (c.h * 6364136223846793005)) + 1442695040888963407)) 45)) 255) + (aJ x5))) 255), (aJ (c.i + 1)))
)
 else
 some ((bits .and .i64 (bits .xor .i64 (mM (aJ ((aJ (c.h * 6364136223846793005)) + 1442695040888963407)) 33) (mM (aJ ((aJ (c.h * 6364136223846793005)) + 1442695040888963407)) 45)) 255), c.i)
)
) : Option (Int × Int)).bind (fun j3 =>
 some (j3.1, (dB.mk c.b j3.2 (aJ ((aJ (c.h * 6364136223846793005)) + 1442695040888963407))))
))
def jC (c : dB) (n : Int) : Option (Int × dB) :=
(bif (decide (n ≤ 0)) then
 some (0, c)
 else
(bif (decide (n ≤ 256)) then
(uH c).bind (fun r3 =>
(nz n).bind (fun u4 =>
 some ((Int.tmod r3.1 n), r3.2)
)
)
 else
(uH c).bind (fun r5 =>
(uH r5.2).bind (fun r6 =>
(uH r6.2).bind (fun r7 =>
(uH r7.2).bind (fun r8 =>
(nz n).bind (fun u9 =>
 some ((Int.tmod (aJ ((aJ ((aJ ((aJ (r5.1 * 16777216)) + (aJ (r6.1 * 65536)))) + (aJ (r7.1 * 256)))) + r8.1)) n), r8.2)
)
)
)
)
)
)
)
def Ah (n : Int) (odd : Int) (s1 : (Int × (List Int) × Int × Int × (List aK))) (gX : (Int × (List Int) × Int × Int × (List aK))) : Option ((Int × (List Int) × Int × Int × (List aK)) ⊕ (Int × (List Int) × Int × Int × (List aK))) :=
(bif (decide (gX.1 < n)) then
(((
(jC (dB.mk gX.2.1 gX.2.2.1 gX.2.2.2.1) 10).bind (fun rY =>
(bif (decide (rY.1 < odd)) then
 some ((decide ((gX.2.2.2.2.length : Int) < 24)), rY.2.b, rY.2.i, rY.2.h)
 else
 some (false, rY.2.b, rY.2.i, rY.2.h)
)
)
) : Option (Bool × (List Int) × Int × Int)).bind (fun j81 =>
(((
(bif j81.1 then
(lim (gX.2.2.2.2.length + [(aK.mk s1.1 gX.1)].length)).bind (fun u88 =>
 some (gX.2.2.2.2 ++ [(aK.mk s1.1 gX.1)])
)
 else
 some gX.2.2.2.2
)
) : Option (List aK)).bind (fun j86 =>
 some (.inl ((aJ (gX.1 + 1)), j81.2.1, j81.2.2.1, j81.2.2.2, j86))
))
))
 else
 some (.inr (s1.1, gX.2.1, gX.2.2.1, gX.2.2.2.1, gX.2.2.2.2))
)
def D9 (n : Int) (odd : Int) (s1 : (Int × (List Int) × Int × Int × (List aK))) : Option ((Int × (List Int) × Int × Int × (List aK)) ⊕ ((List Int) × Int × Int × (List aK))) :=
(bif (decide (s1.1 < n)) then
((bZ (Ah n odd s1) BIG ((aJ (s1.1 + 1)), s1.2.1, s1.2.2.1, s1.2.2.2.1, s1.2.2.2.2)).bind (fun oM =>
 some (.inl ((aJ (oM.1 + 1)), oM.2.1, oM.2.2.1, oM.2.2.2.1, oM.2.2.2.2))
))
 else
 some (.inr (s1.2.1, s1.2.2.1, s1.2.2.2.1, s1.2.2.2.2))
)
def D8 (c : dB) (n : Int) (odd : Int) : Option (aQ × dB) :=
((bZ (D9 n odd) BIG (0, c.b, c.i, c.h, ([] : List aK))).bind (fun jT =>
 some ((aQ.mk n jT.2.2.2), (dB.mk jT.1 jT.2.1 jT.2.2.1))
))
def vX (x : Int) (low : Int) (high : Int) : Option Bool :=
(((
(bif (decide (low ≤ x)) then
 some (decide (x ≤ high))
 else
 some false
)
) : Option Bool).bind (fun j2 =>
 some j2
))
def yD (a : aK) (b : aK) : Option Bool :=
(((
(bif (decide (a.A < b.A)) then
 some true
 else
(bif (a.A == b.A) then
 some (decide (a.B ≤ b.B))
 else
 some false
)
)
) : Option Bool).bind (fun j3 =>
 some j3
))
def Dq (g : aQ) (s7 : Int) : Option (Int ⊕ (Unit ⊕ Bool)) :=
(bif (decide (s7 < (g.aA.length : Int))) then
(idx g.aA s7).bind (fun fP =>
(((
(bif (decide (fP.A < 0)) then
 some true
 else
(bif (decide (fP.B ≤ fP.A)) then
 some true
 else
(bif (decide (g.aF ≤ fP.B)) then
 some true
 else
(bif (decide (0 < s7)) then
(idx g.aA (aJ (s7 - 1))).bind (fun x54 =>
(yD x54 fP).bind (fun oI =>
 some (!oI)
)
)
 else
 some false
)
)
)
)
) : Option Bool).bind (fun j49 =>
(bif j49 then
 some (.inr (.inr false))
 else
 some (.inl (aJ (s7 + 1)))
)
))
)
 else
 some (.inr (.inl ()))
)
def o6 (g : aQ) : Option Bool :=
(((
(vX g.aF 1 8).bind (fun r4 =>
(bif (!r4) then
 some true
 else
 some (decide (24 < (g.aA.length : Int)))
)
)
) : Option Bool).bind (fun j3 =>
(bif j3 then
 some false
 else
((bZ (Dq g) BIG 0).bind (Sum.elim (fun BR => (
 some true
)) (fun r => some r)))
)
))
def yE (g : aQ) : Option aQ :=
(lim (([] : List aK).length + g.aA.length)).bind (fun u1 =>
 some (aQ.mk g.aF (([] : List aK) ++ g.aA))
)
def uI (g : aQ) (x : aK) (s1 : (Bool × Int × (List aK))) : Option ((Bool × Int × (List aK)) ⊕ (Bool × (List aK))) :=
(bif (decide (s1.2.1 < (g.aA.length : Int))) then
(((
(bif (!s1.1) then
(idx g.aA s1.2.1).bind (fun yh =>
(yD yh x).bind (fun Gt =>
 some (!Gt)
)
)
 else
 some false
)
) : Option Bool).bind (fun j34 =>
(((
(bif j34 then
(lim (s1.2.2.length + [x].length)).bind (fun u42 =>
 some (true, (s1.2.2 ++ [x]))
)
 else
 some (s1.1, s1.2.2)
)
) : Option (Bool × (List aK))).bind (fun j40 =>
(idx g.aA s1.2.1).bind (fun x43 =>
(lim (j40.2.length + [x43].length)).bind (fun u44 =>
 some (.inl (j40.1, (aJ (s1.2.1 + 1)), (j40.2 ++ [x43])))
)
)
))
))
 else
 some (.inr (s1.1, s1.2.2))
)
def qB (g : aQ) (x : aK) : Option aQ :=
((bZ (uI g x) BIG (false, 0, ([] : List aK))).bind (fun pK =>
(((
(bif (!pK.1) then
(lim (pK.2.length + [x].length)).bind (fun u49 =>
 some (pK.2 ++ [x])
)
 else
 some pK.2
)
) : Option (List aK)).bind (fun j47 =>
 some (aQ.mk g.aF j47)
))
))
def vP (g : aQ) (a : Int) (b : Int) : Option (aQ × Bool) :=
(((
(o6 g).bind (fun r9 =>
(bif (!r9) then
 some true
 else
(bif (decide (a < 0)) then
 some true
 else
(bif (decide (b < 0)) then
 some true
 else
(bif (decide (g.aF ≤ a)) then
 some true
 else
(bif (decide (g.aF ≤ b)) then
 some true
 else
(bif (a == b) then
 some true
 else
 some (decide (24 ≤ (g.aA.length : Int)))
)
)
)
)
)
)
)
) : Option Bool).bind (fun j8 =>
(bif j8 then
(yE g).bind (fun lS =>
 some (lS, false)
)
 else
(qB g (aK.mk (if b < a then b else a) (if a < b then b else a))).bind (fun fJ =>
 some (fJ, true)
)
)
))
def D7  (s6 : (Int × (List Int) × Int × Int × Int × (List aK))) : Option ((Int × (List Int) × Int × Int × Int × (List aK)) ⊕ ((List Int) × Int × Int × (List aK) × Int)) :=
(bif (decide (0 < s6.1)) then
(jC (dB.mk s6.2.1 s6.2.2.1 s6.2.2.2.1) s6.2.2.2.2.1).bind (fun lS =>
(jC lS.2 s6.2.2.2.2.1).bind (fun fJ =>
(vP (aQ.mk s6.2.2.2.2.1 s6.2.2.2.2.2) lS.1 fJ.1).bind (fun fE =>
 some (.inl ((aJ (s6.1 - 1)), fJ.2.b, fJ.2.i, fJ.2.h, fE.1.aF, fE.1.aA))
)
)
)
 else
 some (.inr (s6.2.1, s6.2.2.1, s6.2.2.2.1, s6.2.2.2.2.2, s6.2.2.2.2.1))
)
def D6 (c : dB) : Option (aQ × dB) :=
(jC c 5).bind (fun r1 =>
(jC r1.2 4).bind (fun r2 =>
(D8 r2.2 (aJ (2 + r1.1)) (aJ (5 + r2.1))).bind (fun r3 =>
(jC r3.2 3).bind (fun r4 =>
(jC r4.2 2).bind (fun r5 =>
((bZ (D7) BIG ((aJ (r4.1 * r5.1)), r5.2.b, r5.2.i, r5.2.h, r3.1.aF, r3.1.aA)).bind (fun b15 =>
 some ((aQ.mk b15.2.2.2.2 b15.2.2.2.1), (dB.mk b15.1 b15.2.1 b15.2.2.1))
))
)
)
)
)
)
def D5 (c : dB) (list : (List Int)) : Option (Int × dB) :=
(jC c (list.length : Int)).bind (fun r1 =>
(idx list r1.1).bind (fun x2 =>
 some (x2, r1.2)
)
)
def Ae (c : dB) : Option (aQ × dB) :=
(D6 c).bind (fun r1 =>
(jC r1.2 16).bind (fun r2 =>
(((
(bif (r2.1 == 0) then
(D5 r2.2 ([0, (-1), 9, 3] : List Int)).bind (fun r11 =>
 some (r11.2.b, r11.2.i, r11.2.h, r11.1, r1.1.aA)
)
 else
(bif (r2.1 == 1) then
(jC r2.2 3).bind (fun r13 =>
(jC r13.2 9).bind (fun iM =>
(lim (r1.1.aA.length + [(aK.mk r13.1 iM.1)].length)).bind (fun u15 =>
 some (iM.2.b, iM.2.i, iM.2.h, r1.1.aF, (r1.1.aA ++ [(aK.mk r13.1 iM.1)]))
)
)
)
 else
 some (r2.2.b, r2.2.i, r2.2.h, r1.1.aF, r1.1.aA)
)
)
) : Option ((List Int) × Int × Int × Int × (List aK))).bind (fun j9 =>
 some ((aQ.mk j9.2.2.2.1 j9.2.2.2.2), (dB.mk j9.1 j9.2.1 j9.2.2.1))
))
)
)
def Dz (c : dB) (n : Int) : Option (Bool × dB) :=
(jC c n).bind (fun r1 =>
 some ((r1.1 == 0), r1.2)
)
def EG (c : dB) (n : Int) (x : aK) (other : Int) : Option (Int × dB) :=
(jC c n).bind (fun r1 =>
(((
(bif (r1.1 == x.A) then
 some true
 else
 some (r1.1 == x.B)
)
) : Option Bool).bind (fun j3 =>
(bif j3 then
 some (other, r1.2)
 else
 some (r1.1, r1.2)
)
))
)
def uG (g : aQ) (k : Int) : Option (aQ × Bool) :=
(((
(o6 g).bind (fun r5 =>
(bif (!r5) then
 some true
 else
(bif (decide (k < 0)) then
 some true
 else
 some (decide ((g.aA.length : Int) ≤ k))
)
)
)
) : Option Bool).bind (fun j4 =>
(bif j4 then
(yE g).bind (fun r9 =>
 some (r9, false)
)
 else
(slc g.aA 0 k).bind (fun v10 =>
(lim (([] : List aK).length + ((g.aA.take k.toNat).drop 0).length)).bind (fun u11 =>
(slc g.aA (aJ (k + 1)) (g.aA.length : Int)).bind (fun v12 =>
(lim ((([] : List aK) ++ ((g.aA.take k.toNat).drop 0)).length + ((g.aA.take g.aA.length).drop ((aJ (k + 1)).toNat)).length)).bind (fun u13 =>
 some ((aQ.mk g.aF ((([] : List aK) ++ ((g.aA.take k.toNat).drop 0)) ++ ((g.aA.take g.aA.length).drop ((aJ (k + 1)).toNat)))), true)
)
)
)
)
)
))
def EF (s3 : (Int × (List Int) × Int × Int × Int × (List aK))) (kY : (Int × dB)) (mP : aK) (o8 : Int) : Option (Int ⊕ (Int × Int × Int × (List Int) × Int × Int × Int × (List aK) × Int × Int)) :=
(((
(bif (o8 == mP.A) then
 some true
 else
 some (o8 == mP.B)
)
) : Option Bool).bind (fun Fq =>
(bif Fq then
 some (.inl (aJ (o8 + 1)))
 else
 some (.inr (s3.1, kY.1, o8, kY.2.b, kY.2.i, kY.2.h, s3.2.2.2.2.1, s3.2.2.2.2.2, mP.A, mP.B))
)
))
def Am (n : Int) (s3 : (Int × (List Int) × Int × Int × Int × (List aK))) : Option ((Int × (List Int) × Int × Int × Int × (List aK)) ⊕ ((List Int) × Int × Int × Int × (List aK))) :=
(bif (decide (s3.1 < n)) then
(jC (dB.mk s3.2.1 s3.2.2.1 s3.2.2.2.1) s3.1).bind (fun kN =>
(jC kN.2 (aJ (s3.1 - 1))).bind (fun oW =>
(nz s3.1).bind (fun aBH =>
(((
(Dz oW.2 2).bind (fun rX =>
(bif rX.1 then
 some ((decide (2 < s3.1)), rX.2.b, rX.2.i, rX.2.h)
 else
 some (false, rX.2.b, rX.2.i, rX.2.h)
)
)
) : Option (Bool × (List Int) × Int × Int)).bind (fun j110 =>
(((
(bif j110.1 then
(jC (dB.mk j110.2.1 j110.2.2.1 j110.2.2.2) (s3.2.2.2.2.2.length : Int)).bind (fun kY =>
(idx s3.2.2.2.2.2 kY.1).bind (fun mP =>
((bZ (EF s3 kY mP) BIG 0).bind (fun dV =>
(EG (dB.mk dV.2.2.2.1 dV.2.2.2.2.1 dV.2.2.2.2.2.1) dV.1 (aK.mk dV.2.2.2.2.2.2.2.2.1 dV.2.2.2.2.2.2.2.2.2) dV.2.2.1).bind (fun oZ =>
(uG (aQ.mk dV.2.2.2.2.2.2.1 dV.2.2.2.2.2.2.2.1) dV.2.1).bind (fun mJ =>
(qB mJ.1 (aK.mk dV.2.2.2.2.2.2.2.2.1 dV.1)).bind (fun yR =>
(qB yR (aK.mk dV.2.2.2.2.2.2.2.2.2 dV.1)).bind (fun yS =>
(qB yS (aK.mk oZ.1 dV.1)).bind (fun BB =>
 some (dV.1, oZ.2.b, oZ.2.i, oZ.2.h, BB.aF, BB.aA)
)
)
)
)
)
))
)
)
 else
(qB (aQ.mk s3.2.2.2.2.1 s3.2.2.2.2.2) (aK.mk kN.1 s3.1)).bind (fun yT =>
(qB yT (aK.mk (Int.tmod (aJ ((aJ (kN.1 + 1)) + oW.1)) s3.1) s3.1)).bind (fun uO =>
 some (s3.1, j110.2.1, j110.2.2.1, j110.2.2.2, uO.aF, uO.aA)
)
)
)
) : Option (Int × (List Int) × Int × Int × Int × (List aK))).bind (fun j133 =>
 some (.inl ((aJ (j133.1 + 1)), j133.2.1, j133.2.2.1, j133.2.2.2.1, j133.2.2.2.2.1, j133.2.2.2.2.2))
))
))
)
)
)
 else
 some (.inr (s3.2.1, s3.2.2.1, s3.2.2.2.1, s3.2.2.2.2.1, s3.2.2.2.2.2))
)
def yJ (c : dB) (n : Int) : Option (aQ × dB) :=
(bif (decide (n < 2)) then
 some ((aQ.mk n ([] : List aK)), c)
 else
(qB (aQ.mk n ([] : List aK)) (aK.mk 0 1)).bind (fun r2 =>
((bZ (Am n) BIG (2, c.b, c.i, c.h, r2.aF, r2.aA)).bind (fun jb =>
 some ((aQ.mk jb.2.2.2.1 jb.2.2.2.2), (dB.mk jb.1 jb.2.1 jb.2.2.1))
))
)
)
def Ak (c : dB) : Option (aQ × dB) :=
(jC c 4).bind (fun r1 =>
(bif (r1.1 == 0) then
(Ae r1.2).bind (fun r3 =>
 some (r3.1, r3.2)
)
 else
(bif (r1.1 == 1) then
(jC r1.2 5).bind (fun r5 =>
(yJ r5.2 (aJ (2 + r5.1))).bind (fun r6 =>
(jC r6.2 (r6.1.aA.length : Int)).bind (fun r7 =>
(uG r6.1 r7.1).bind (fun r8 =>
 some (r8.1, r7.2)
)
)
)
)
 else
(bif (r1.1 == 2) then
(jC r1.2 5).bind (fun r10 =>
(yJ r10.2 (aJ (2 + r10.1))).bind (fun r11 =>
(jC r11.2 r11.1.aF).bind (fun r12 =>
(jC r12.2 r11.1.aF).bind (fun r13 =>
(vP r11.1 r12.1 r13.1).bind (fun iM =>
 some (iM.1, r13.2)
)
)
)
)
)
 else
(jC r1.2 6).bind (fun gq =>
(yJ gq.2 (aJ (1 + gq.1))).bind (fun r16 =>
 some (r16.1, r16.2)
)
)
)
)
)
)
def vT (g : aQ) (a : Int) (b : Int) (s1 : (Int × Int)) : Option ((Int × Int) ⊕ Int) :=
(bif (decide (s1.2 < (g.aA.length : Int))) then
(((
(idx g.aA s1.2).bind (fun NG =>
(bif (NG.A == a) then
(idx g.aA s1.2).bind (fun II =>
(bif (II.B == b) then
 some true
 else
(idx g.aA s1.2).bind (fun x69 =>
(bif (x69.A == b) then
(idx g.aA s1.2).bind (fun IJ =>
 some (IJ.B == a)
)
 else
 some false
)
)
)
)
 else
(idx g.aA s1.2).bind (fun NH =>
(bif (NH.A == b) then
(idx g.aA s1.2).bind (fun IK =>
 some (IK.B == a)
)
 else
 some false
)
)
)
)
) : Option Bool).bind (fun j64 =>
(((
(bif j64 then
 some (aJ (s1.1 + 1))
 else
 some s1.1
)
) : Option Int).bind (fun j76 =>
 some (.inl (j76, (aJ (s1.2 + 1))))
))
))
 else
 some (.inr s1.1)
)
def xg (g : aQ) (a : Int) (b : Int) : Option Int :=
((bZ (vT g a b) BIG (0, 0)).bind (fun jT =>
 some jT
))
def Ad  (s3 : (Int × (List Int) × Int × Int × Int × (List aK))) : Option ((Int × (List Int) × Int × Int × Int × (List aK)) ⊕ ((List Int) × Int × Int × (List aK) × Int)) :=
(bif (decide (0 < s3.1)) then
(jC (dB.mk s3.2.1 s3.2.2.1 s3.2.2.2.1) 6).bind (fun gu =>
(jC gu.2 6).bind (fun r25 =>
(xg (aQ.mk s3.2.2.2.2.1 s3.2.2.2.2.2) gu.1 r25.1).bind (fun LY =>
(((
(bif (LY == 0) then
(vP (aQ.mk s3.2.2.2.2.1 s3.2.2.2.2.2) gu.1 r25.1).bind (fun bI =>
 some (bI.1.aF, bI.1.aA)
)
 else
 some (s3.2.2.2.2.1, s3.2.2.2.2.2)
)
) : Option (Int × (List aK))).bind (fun j29 =>
 some (.inl ((aJ (s3.1 - 1)), r25.2.b, r25.2.i, r25.2.h, j29.1, j29.2))
))
)
)
)
 else
 some (.inr (s3.2.1, s3.2.2.1, s3.2.2.2.1, s3.2.2.2.2.2, s3.2.2.2.2.1))
)
def Ac (c : dB) : Option (aQ × dB) :=
(Ak c).bind (fun r1 =>
(jC r1.2 4).bind (fun r2 =>
((bZ (Ad) BIG (r2.1, r2.2.b, r2.2.i, r2.2.h, r1.1.aF, r1.1.aA)).bind (fun b22 =>
 some ((aQ.mk b22.2.2.2.2 b22.2.2.2.1), (dB.mk b22.1 b22.2.1 b22.2.2.1))
))
)
)
def Dn (code : (List Int)) : Option aQ :=
(vY code).bind (fun r1 =>
(Ac r1).bind (fun r2 =>
 some r2.1
)
)
def uF (x : Int) (zO : Int) (hi : Int) : Option Bool :=
(((
(bif (decide (zO ≤ x)) then
 some (decide (x ≤ hi))
 else
 some false
)
) : Option Bool).bind (fun j2 =>
 some j2
))
def zZ (a : Int) (b : Int) : Option Int :=
(bif (decide (a < b)) then
 some (-1)
 else
(bif (decide (b < a)) then
 some 1
 else
 some 0
)
)
def zY (x : aK) (y : aK) : Option Int :=
(zZ x.A y.A).bind (fun r1 =>
(bif (r1 != 0) then
 some r1
 else
(zZ x.B y.B).bind (fun r3 =>
 some r3
)
)
)
def vH (g : aQ) (s7 : Int) : Option (Int ⊕ (Unit ⊕ Bool)) :=
(bif (decide (s7 < (g.aA.length : Int))) then
(idx g.aA s7).bind (fun fP =>
(((
(bif (decide (fP.A < 0)) then
 some true
 else
(bif (decide (fP.B ≤ fP.A)) then
 some true
 else
(bif (decide (g.aF ≤ fP.B)) then
 some true
 else
(bif (decide (0 < s7)) then
(idx g.aA (aJ (s7 - 1))).bind (fun x54 =>
(zY x54 fP).bind (fun oI =>
 some (decide (0 < oI))
)
)
 else
 some false
)
)
)
)
) : Option Bool).bind (fun j49 =>
(bif j49 then
 some (.inr (.inr false))
 else
 some (.inl (aJ (s7 + 1)))
)
))
)
 else
 some (.inr (.inl ()))
)
def qM (g : aQ) : Option Bool :=
(((
(uF g.aF 1 8).bind (fun r4 =>
(bif (!r4) then
 some true
 else
 some (decide (24 < (g.aA.length : Int)))
)
)
) : Option Bool).bind (fun j3 =>
(bif j3 then
 some false
 else
((bZ (vH g) BIG 0).bind (Sum.elim (fun BR => (
 some true
)) (fun r => some r)))
)
))
def DV (k : Int) (l : Int) : Option Bool :=
(((
(uF k 1 3).bind (fun r5 =>
(bif r5 then
(uF l 0 (aJ ((aJ (2 * k)) - 1))).bind (fun r7 =>
 some r7
)
 else
 some false
)
)
) : Option Bool).bind (fun j4 =>
 some j4
))
def xU (l : (List Int)) : Option (List Int) :=
(lim (([] : List Int).length + l.length)).bind (fun u1 =>
 some (([] : List Int) ++ l)
)
def DZ (p : ay) : Option ay :=
(xU p.Free).bind (fun r1 =>
(xU p.aN).bind (fun r2 =>
(xU p.aI).bind (fun r3 =>
 some (ay.mk r1 r2 r3)
)
)
)
def DL (x : aK) (v : Int) : Option Int :=
(bif (x.A == v) then
 some x.B
 else
 some x.A
)
def vO (p : ay) (a : Int) (dH : (Int × (List (Int × Int)) × (List Int))) (eF : Int) (mZ : Int) (pF : Int) (jK : (Int × (List Int))) : Option ((Int × (List Int)) ⊕ ((List Int) × (List Int))) :=
(bif (jK.1 != a) then
(idx jK.2 (jA (iQ dH.2.1 eF dH.1) jK.1)).bind (fun BK =>
(idx jK.2 (jA (iQ dH.2.1 eF dH.1) jK.1)).bind (fun aCB =>
 some (.inl (BK, (jK.2.set (jA (iQ dH.2.1 eF dH.1) jK.1).toNat jK.1)))
)
)
 else
 some (.inr (((p.Free.set eF.toNat (aJ (mZ - 1))).set a.toNat (aJ (pF + 1))), jK.2))
)
def uD (bars : (List aK)) (p : ay) (a : Int) (b : Int) (s1 : (Int × (List (Int × Int)) × (List Int))) (dH : (Int × (List (Int × Int)) × (List Int))) : Option ((Int × (List (Int × Int)) × (List Int)) ⊕ ((Int × (List (Int × Int)) × (List Int)) ⊕ (Bool × ay))) :=
(bif (decide (dH.1 < (p.aI.length : Int))) then
(idx p.aI dH.1).bind (fun Ec =>
(idx p.aN dH.1).bind (fun UM =>
(idx dH.2.2 s1.1).bind (fun UN =>
(bif (UM != UN) then
 some (.inl ((aJ (dH.1 + 1)), dH.2.1, dH.2.2))
 else
(idx bars Ec).bind (fun Ed =>
(idx dH.2.2 s1.1).bind (fun IE =>
(DL Ed IE).bind (fun eF =>
(bif (jV dH.2.1 eF) then
 some (.inl ((aJ (dH.1 + 1)), dH.2.1, dH.2.2))
 else
(((
(bif (eF == b) then
 some true
 else
(idx p.Free eF).bind (fun NE =>
 some (NE == 0)
)
)
) : Option Bool).bind (fun Fv =>
(bif Fv then
(lim (dH.2.2.length + ([eF] : List Int).length)).bind (fun aBJ =>
 some (.inl ((aJ (dH.1 + 1)), (iQ dH.2.1 eF dH.1), (dH.2.2 ++ ([eF] : List Int))))
)
 else
(idx p.Free eF).bind (fun mZ =>
(idx p.Free eF).bind (fun aB9 =>
(idx (p.Free.set eF.toNat (aJ (mZ - 1))) a).bind (fun pF =>
(idx (p.Free.set eF.toNat (aJ (mZ - 1))) a).bind (fun aCA =>
((bZ (vO p a dH eF mZ pF) BIG (eF, p.aN)).bind (fun um =>
 some (.inr (.inr (true, (ay.mk um.1 um.2 p.aI))))
))
)
)
)
)
)
))
)
)
)
)
)
)
)
)
 else
 some (.inr (.inl (s1.1, dH.2.1, dH.2.2)))
)
def xX (bars : (List aK)) (p : ay) (a : Int) (b : Int) (s1 : (Int × (List (Int × Int)) × (List Int))) : Option ((Int × (List (Int × Int)) × (List Int)) ⊕ (Unit ⊕ (Bool × ay))) :=
(bif (decide (s1.1 < (s1.2.2.length : Int))) then
((bZ (uD bars p a b s1) BIG (0, s1.2.1, s1.2.2)).bind (Sum.elim (fun qV => (
 some (.inl ((aJ (qV.1 + 1)), qV.2.1, qV.2.2))
)) (fun r => some (.inr (.inr r)))))
 else
 some (.inr (.inl ()))
)
def vN (bars : (List aK)) (p : ay) (a : Int) (b : Int) : Option (Bool × ay) :=
((bZ (xX bars p a b) BIG (0, (iQ ([] : List (Int × Int)) a (-1)), ([a] : List Int))).bind (Sum.elim (fun Na => (
 some (false, p)
)) (fun r => some r)))
def vM (bars : (List aK)) (a : Int) (b : Int) (want : Int) (s1 : ((List Int) × (List Int) × (List Int))) : Option (((List Int) × (List Int) × (List Int)) ⊕ (((List Int) × (List Int) × (List Int)) ⊕ (Bool × ay))) :=
(idx s1.1 a).bind (fun x25 =>
(idx s1.1 b).bind (fun UQ =>
(bif (decide ((aJ (x25 + UQ)) < want)) then
(((
(vN bars (ay.mk s1.1 s1.2.1 s1.2.2) a b).bind (fun r32 =>
(bif (!r32.1) then
(vN bars r32.2 b a).bind (fun qp =>
 some ((!qp.1), qp.2.Free, qp.2.aN, qp.2.aI)
)
 else
 some (false, r32.2.Free, r32.2.aN, r32.2.aI)
)
)
) : Option (Bool × (List Int) × (List Int) × (List Int))).bind (fun j31 =>
(bif j31.1 then
 some (.inr (.inr (false, (ay.mk j31.2.1 j31.2.2.1 j31.2.2.2))))
 else
 some (.inl (j31.2.1, j31.2.2.1, j31.2.2.2))
)
))
 else
 some (.inr (.inl (s1.1, s1.2.1, s1.2.2)))
)
)
)
def xW (bars : (List aK)) (p : ay) (a : Int) (b : Int) (want : Int) : Option (Bool × ay) :=
((bZ (vM bars a b want) BIG (p.Free, p.aN, p.aI)).bind (Sum.elim (fun oL => (
 some (true, (ay.mk oL.1 oL.2.1 oL.2.2))
)) (fun r => some r)))
def nP (bars : (List aK)) (l : Int) (p : ay) (e : Int) : Option (Bool × ay) :=
(idx bars e).bind (fun x1 =>
(xW bars p x1.A x1.B (aJ (l + 1))).bind (fun r2 =>
(bif (!r2.1) then
 some (false, r2.2)
 else
(idx r2.2.Free x1.A).bind (fun x4 =>
(((
(bif (x4 == 0) then
 some x1.B
 else
 some x1.A
)
) : Option Int).bind (fun j6 =>
(idx r2.2.Free j6).bind (fun x8 =>
(idx r2.2.Free j6).bind (fun x9 =>
(lim (r2.2.aN.length + ([j6] : List Int).length)).bind (fun u10 =>
(lim (r2.2.aI.length + ([e] : List Int).length)).bind (fun u11 =>
 some (true, (ay.mk (r2.2.Free.set j6.toNat (aJ (x8 - 1))) (r2.2.aN ++ ([j6] : List Int)) (r2.2.aI ++ ([e] : List Int))))
)
)
)
)
))
)
)
)
)
def zi (points : Int) (k : Int) (s1 : (Int × (List Int))) : Option ((Int × (List Int)) ⊕ (List Int)) :=
(bif (decide (s1.1 < points)) then
(lim (s1.2.length + ([k] : List Int).length)).bind (fun u8 =>
 some (.inl ((aJ (s1.1 + 1)), (s1.2 ++ ([k] : List Int))))
)
 else
 some (.inr s1.2)
)
def zk (bars : (List aK)) (l : Int) (s9 : (Int × (List Int) × (List Int) × (List Int))) : Option ((Int × (List Int) × (List Int) × (List Int)) ⊕ ((List Int) × (List Int) × (List Int))) :=
(bif (decide (s9.1 < (bars.length : Int))) then
(DZ (ay.mk s9.2.1 s9.2.2.1 s9.2.2.2)).bind (fun gu =>
(nP bars l gu s9.1).bind (fun r25 =>
(((
(bif r25.1 then
 some (r25.2.Free, r25.2.aN, r25.2.aI)
 else
 some (s9.2.1, s9.2.2.1, s9.2.2.2)
)
) : Option ((List Int) × (List Int) × (List Int))).bind (fun j27 =>
 some (.inl ((aJ (s9.1 + 1)), j27.1, j27.2.1, j27.2.2))
))
)
)
 else
 some (.inr (s9.2.1, s9.2.2.1, s9.2.2.2))
)
def zh (points : Int) (bars : (List aK)) (k : Int) (l : Int) : Option ay :=
((bZ (zi points k) BIG (0, ([] : List Int))).bind (fun b6 =>
((bZ (zk bars l) BIG (0, b6, ([] : List Int), ([] : List Int))).bind (fun b22 =>
 some (ay.mk b22.1 b22.2.1 b22.2.2)
))
))
def DY (g : aQ) (k : Int) (l : Int) : Option (ay × Bool) :=
(((
(qM g).bind (fun r5 =>
(bif (!r5) then
 some true
 else
(DV k l).bind (fun r7 =>
 some (!r7)
)
)
)
) : Option Bool).bind (fun j4 =>
(bif j4 then
 some ((ay.mk ([] : List Int) ([] : List Int) ([] : List Int)), false)
 else
(zh g.aF g.aA k l).bind (fun r9 =>
 some (r9, true)
)
)
))
def xQ (g : aQ) (k : Int) (l : Int) : Option Int :=
(DY g k l).bind (fun r1 =>
(bif (!r1.2) then
 some (-1)
 else
 some (r1.1.aI.length : Int)
)
)
def xR (g : aQ) : Option aQ :=
(lim (([] : List aK).length + g.aA.length)).bind (fun u1 =>
 some (aQ.mk g.aF (([] : List aK) ++ g.aA))
)
def DX (g : aQ) (k : Int) : Option (aQ × Bool) :=
(xR g).bind (fun r1 =>
(((
(qM g).bind (fun r6 =>
(bif (!r6) then
 some true
 else
(uF k 0 (aJ ((g.aA.length : Int) - 1))).bind (fun r8 =>
 some (!r8)
)
)
)
) : Option Bool).bind (fun j5 =>
(bif j5 then
 some (r1, false)
 else
(slc r1.aA 0 k).bind (fun v10 =>
(slc r1.aA (aJ (k + 1)) (r1.aA.length : Int)).bind (fun v11 =>
(lim ((k.toNat - 0) + (r1.aA.length - (aJ (k + 1)).toNat))).bind (fun u12 =>
(same ((aJ (k + 1)).toNat + (r1.aA.length - (aJ (k + 1)).toNat) - r1.aA.length) 0).bind (fun u13 =>
(same ((k.toNat - 0) - r1.aA.length) 0).bind (fun u14 =>
 some ((aQ.mk r1.aF (r1.aA.take (k.toNat - 0) ++ (r1.aA.drop ((aJ (k + 1)).toNat)).take (r1.aA.length - (aJ (k + 1)).toNat))), true)
)))
)
)
)
))
)
def zQ (g : aQ) (k : Int) (l : Int) (r1 : Int) (s3 : (Int × (List Int))) : Option ((Int × (List Int)) ⊕ (List Int)) :=
(bif (decide (s3.1 < (g.aA.length : Int))) then
(DX g s3.1).bind (fun r22 =>
(xQ r22.1 k l).bind (fun lT =>
(((
(bif (decide (lT < r1)) then
(lim (s3.2.length + ([s3.1] : List Int).length)).bind (fun u28 =>
 some (s3.2 ++ ([s3.1] : List Int))
)
 else
 some s3.2
)
) : Option (List Int)).bind (fun j26 =>
 some (.inl ((aJ (s3.1 + 1)), j26))
))
)
)
 else
 some (.inr s3.2)
)
def DN (g : aQ) (k : Int) (l : Int) : Option (List Int) :=
(xQ g k l).bind (fun r1 =>
(bif (decide (r1 < 0)) then
 some ([] : List Int)
 else
((bZ (zQ g k l r1) BIG (0, ([] : List Int))).bind (fun b20 =>
 some b20
))
)
)
def xM (g : aQ) : Option (List Int) :=
(DN g 2 3).bind (fun r1 =>
 some r1
)
def zx (s : (List Int)) (v : Int) (s1 : Int) : Option (Int ⊕ (Unit ⊕ Int)) :=
(bif (decide (s1 < (s.length : Int))) then
(idx s s1).bind (fun x10 =>
(bif (v == x10) then
 some (.inr (.inr s1))
 else
 some (.inl (aJ (s1 + 1)))
)
)
 else
 some (.inr (.inl ()))
)
def Dh (s : (List Int)) (v : Int) : Option Int :=
((bZ (zx s v) BIG 0).bind (Sum.elim (fun b8 => (
 some (-1)
)) (fun r => some r)))
def xZ (s : (List Int)) (v : Int) : Option Bool :=
(Dh s v).bind (fun r1 =>
 some (decide (0 ≤ r1))
)
def zX (g : aQ) (r3 : (List Int)) (s4 : (Int × (List Int))) : Option ((Int × (List Int)) ⊕ (List Int)) :=
(bif (decide (s4.1 < (g.aA.length : Int))) then
(xZ r3 s4.1).bind (fun bn =>
(((
(bif (!bn) then
(lim (s4.2.length + ([s4.1] : List Int).length)).bind (fun u26 =>
 some (s4.2 ++ ([s4.1] : List Int))
)
 else
 some s4.2
)
) : Option (List Int)).bind (fun j24 =>
 some (.inl ((aJ (s4.1 + 1)), j24))
))
)
 else
 some (.inr s4.2)
)
def zW (g : aQ) : Option (List Int) :=
(qM g).bind (fun r1 =>
(bif (!r1) then
 some ([] : List Int)
 else
(xM g).bind (fun r3 =>
((bZ (zX g r3) BIG (0, ([] : List Int))).bind (fun b19 =>
 some b19
))
)
)
)
def AX (g : aQ) (k : Int) (s9 : (Int × (List Int))) : Option ((Int × (List Int)) ⊕ (List Int)) :=
(bif (decide (s9.1 < g.aF)) then
(lim (s9.2.length + ([k] : List Int).length)).bind (fun u16 =>
 some (.inl ((aJ (s9.1 + 1)), (s9.2 ++ ([k] : List Int))))
)
 else
 some (.inr s9.2)
)
def AU (g : aQ) (k : Int) : Option (ay × Bool) :=
(((
(o6 g).bind (fun r5 =>
(bif (!r5) then
 some true
 else
(vX k 1 3).bind (fun r7 =>
 some (!r7)
)
)
)
) : Option Bool).bind (fun j4 =>
(bif j4 then
 some ((ay.mk ([] : List Int) ([] : List Int) ([] : List Int)), false)
 else
((bZ (AX g k) BIG (0, ([] : List Int))).bind (fun b14 =>
 some ((ay.mk b14 ([] : List Int) ([] : List Int)), true)
))
)
))
def xk (k : Int) (l : Int) : Option Bool :=
(((
(vX k 1 3).bind (fun r5 =>
(bif r5 then
(bif (decide (0 ≤ l)) then
 some (decide (l < (aJ (2 * k))))
 else
 some false
)
 else
 some false
)
)
) : Option Bool).bind (fun j4 =>
 some j4
))
def Aj (p : ay) (v : Int) (s1 : (Int × Int)) : Option ((Int × Int) ⊕ Int) :=
(bif (decide (s1.2 < (p.aN.length : Int))) then
(idx p.aN s1.2).bind (fun x14 =>
(((
(bif (x14 == v) then
 some (aJ (s1.1 + 1))
 else
 some s1.1
)
) : Option Int).bind (fun j16 =>
 some (.inl (j16, (aJ (s1.2 + 1))))
))
)
 else
 some (.inr s1.1)
)
def ED (p : ay) (v : Int) : Option Int :=
((bZ (Aj p v) BIG (0, 0)).bind (fun b12 =>
 some b12
))
def AP (g : aQ) (p : ay) (s13 : Int) : Option (Int ⊕ (Unit ⊕ Bool)) :=
(bif (decide (s13 < (p.aI.length : Int))) then
(idx p.aI s13).bind (fun x84 =>
(((
(bif (decide (x84 < 0)) then
 some true
 else
(bif (decide ((g.aA.length : Int) ≤ x84)) then
 some true
 else
(bif (decide (0 < s13)) then
(idx p.aI (aJ (s13 - 1))).bind (fun x104 =>
(bif (decide (x84 ≤ x104)) then
 some true
 else
(idx p.aN s13).bind (fun Mc =>
(idx g.aA x84).bind (fun x107 =>
(bif (Mc != x107.A) then
(idx p.aN s13).bind (fun IB =>
(idx g.aA x84).bind (fun IC =>
 some (IB != IC.B)
)
)
 else
 some false
)
)
)
)
)
 else
(idx p.aN s13).bind (fun Md =>
(idx g.aA x84).bind (fun x112 =>
(bif (Md != x112.A) then
(idx p.aN s13).bind (fun x114 =>
(idx g.aA x84).bind (fun x115 =>
 some (x114 != x115.B)
)
)
 else
 some false
)
)
)
)
)
)
) : Option Bool).bind (fun j100 =>
(bif j100 then
 some (.inr (.inr false))
 else
 some (.inl (aJ (s13 + 1)))
)
))
)
 else
 some (.inr (.inl ()))
)
def AQ (g : aQ) (k : Int) (p : ay) (nU : Int) : Option (Int ⊕ (Unit ⊕ Bool)) :=
(bif (decide (nU < g.aF)) then
(((
(idx p.Free nU).bind (fun Me =>
(bif (decide (Me < 0)) then
 some true
 else
(idx p.Free nU).bind (fun ND =>
(ED p nU).bind (fun lG =>
 some ((aJ (ND + lG)) != k)
)
)
)
)
) : Option Bool).bind (fun tY =>
(bif tY then
 some (.inr (.inr false))
 else
 some (.inl (aJ (nU + 1)))
)
))
 else
 some (.inr (.inl ()))
)
def vU (g : aQ) (k : Int) (p : ay) : Option Bool :=
(((
(o6 g).bind (fun r7 =>
(bif (!r7) then
 some true
 else
(vX k 1 3).bind (fun r9 =>
(bif (!r9) then
 some true
 else
(bif ((p.Free.length : Int) != g.aF) then
 some true
 else
 some ((p.aN.length : Int) != (p.aI.length : Int))
)
)
)
)
)
) : Option Bool).bind (fun j6 =>
(bif j6 then
 some false
 else
((bZ (AP g p) BIG 0).bind (Sum.elim (fun Nh => (
((bZ (AQ g k p) BIG 0).bind (Sum.elim (fun Nb => (
 some true
)) (fun r => some r)))
)) (fun r => some r)))
)
))
def uJ (p : ay) : Option ay :=
(lim (([] : List Int).length + p.Free.length)).bind (fun u1 =>
(lim (([] : List Int).length + p.aN.length)).bind (fun u2 =>
(lim (([] : List Int).length + p.aI.length)).bind (fun u3 =>
 some (ay.mk (([] : List Int) ++ p.Free) (([] : List Int) ++ p.aN) (([] : List Int) ++ p.aI))
)
)
)
def yH (b : aK) (v : Int) : Option Int :=
 some (aJ ((aJ (b.A + b.B)) - v))
def yI (g : aQ) (p : ay) (fromV : (List Int)) (a : Int) (u : Int) (r1 : ay) (x2 : Int) (x4 : Int) (s6 : (Int × (List Int))) : Option ((Int × (List Int)) ⊕ ((List Int) × (List Int) × (List Int))) :=
(bif (s6.1 != a) then
(idx fromV s6.1).bind (fun x21 =>
(idx p.aI x21).bind (fun UO =>
(idx g.aA UO).bind (fun x23 =>
(yH x23 s6.1).bind (fun gu =>
(idx s6.2 x21).bind (fun x25 =>
 some (.inl (gu, (s6.2.set x21.toNat s6.1)))
)
)
)
)
)
 else
 some (.inr (((r1.Free.set u.toNat (aJ (x2 - 1))).set a.toNat (aJ (x4 + 1))), s6.2, r1.aI))
)
def EC (g : aQ) (p : ay) (fromV : (List Int)) (a : Int) (u : Int) : Option ay :=
(uJ p).bind (fun r1 =>
(idx r1.Free u).bind (fun x2 =>
(idx r1.Free u).bind (fun x3 =>
(idx (r1.Free.set u.toNat (aJ (x2 - 1))) a).bind (fun x4 =>
(idx (r1.Free.set u.toNat (aJ (x2 - 1))) a).bind (fun x5 =>
((bZ (yI g p fromV a u r1 x2 x4) BIG (u, r1.aN)).bind (fun b19 =>
 some (ay.mk b19.1 b19.2.1 b19.2.2)
))
)
)
)
)
)
def Ai (g : aQ) (s2 : (Int × (List Int))) : Option ((Int × (List Int)) ⊕ (List Int)) :=
(bif (decide (s2.1 < g.aF)) then
(idx s2.2 s2.1).bind (fun x9 =>
 some (.inl ((aJ (s2.1 + 1)), (s2.2.set s2.1.toNat (-1))))
)
 else
 some (.inr s2.2)
)
def uK (g : aQ) (p : ay) (a : Int) (b : Int) (s12 : (Int × (List Int) × (List Int) × (List Bool))) (x95 : Int) (cO : (Int × (List Int) × (List Int) × (List Bool))) : Option ((Int × (List Int) × (List Int) × (List Bool)) ⊕ ((Int × (List Int) × (List Int) × (List Bool)) ⊕ (ay × Bool))) :=
(bif (decide (cO.1 < (p.aI.length : Int))) then
(idx p.aN cO.1).bind (fun UJ =>
(bif (UJ != x95) then
 some (.inl ((aJ (cO.1 + 1)), cO.2.1, cO.2.2.1, cO.2.2.2))
 else
(idx p.aI cO.1).bind (fun UK =>
(idx g.aA UK).bind (fun Eb =>
(yH Eb x95).bind (fun gW =>
(idx cO.2.2.2 gW).bind (fun UL =>
(bif UL then
 some (.inl ((aJ (cO.1 + 1)), cO.2.1, cO.2.2.1, cO.2.2.2))
 else
(idx cO.2.2.2 gW).bind (fun aB7 =>
(idx cO.2.1 gW).bind (fun aB8 =>
(((
(bif (gW != b) then
(idx p.Free gW).bind (fun NC =>
 some (decide (0 < NC))
)
 else
 some false
)
) : Option Bool).bind (fun tY =>
(bif tY then
(EC g p (cO.2.1.set gW.toNat cO.1) a gW).bind (fun lG =>
 some (.inr (.inr (lG, true)))
)
 else
(lim (cO.2.2.1.length + ([gW] : List Int).length)).bind (fun aBI =>
 some (.inl ((aJ (cO.1 + 1)), (cO.2.1.set gW.toNat cO.1), (cO.2.2.1 ++ ([gW] : List Int)), (cO.2.2.2.set gW.toNat true)))
)
)
))
)
)
)
)
)
)
)
)
)
 else
 some (.inr (.inl (s12.1, cO.2.1, cO.2.2.1, cO.2.2.2)))
)
def yG (g : aQ) (p : ay) (a : Int) (b : Int) (s12 : (Int × (List Int) × (List Int) × (List Bool))) : Option ((Int × (List Int) × (List Int) × (List Bool)) ⊕ (Unit ⊕ (ay × Bool))) :=
(bif (decide (s12.1 < (s12.2.2.1.length : Int))) then
(idx s12.2.2.1 s12.1).bind (fun x95 =>
((bZ (uK g p a b s12 x95) BIG (0, s12.2.1, s12.2.2.1, s12.2.2.2)).bind (Sum.elim (fun oK => (
 some (.inl ((aJ (oK.1 + 1)), oK.2.1, oK.2.2.1, oK.2.2.2))
)) (fun r => some (.inr (.inr r)))))
)
 else
 some (.inr (.inl ()))
)
def vZ (g : aQ) (p : ay) (a : Int) (b : Int) : Option (ay × Bool) :=
(zM g.aF).bind (fun u1 =>
((bZ (Ai g) BIG (0, (List.replicate g.aF.toNat (0 : Int)))).bind (fun b7 =>
(zM g.aF).bind (fun u10 =>
(idx (List.replicate g.aF.toNat false) a).bind (fun x11 =>
((bZ (yG g p a b) BIG (0, b7, ([a] : List Int), ((List.replicate g.aF.toNat false).set a.toNat true))).bind (Sum.elim (fun Nj => (
 some (p, false)
)) (fun r => some r)))
)
)
))
)
def vg (g : aQ) (a : Int) (b : Int) (want : Int) (s2 : ((List Int) × (List Int) × (List Int))) : Option (((List Int) × (List Int) × (List Int)) ⊕ (((List Int) × (List Int) × (List Int)) ⊕ (ay × Bool))) :=
(idx s2.1 a).bind (fun x28 =>
(idx s2.1 b).bind (fun x29 =>
(bif (decide ((aJ (x28 + x29)) < want)) then
(vZ g (ay.mk s2.1 s2.2.1 s2.2.2) a b).bind (fun bI =>
(bif bI.2 then
(bif (!true) then
 none
 else
(bif (!true) then
 none
 else
 some (.inl (bI.1.Free, bI.1.aN, bI.1.aI))
)
)
 else
(bif (!false) then
(vZ g (ay.mk s2.1 s2.2.1 s2.2.2) b a).bind (fun iI =>
(bif iI.2 then
(bif (!true) then
 none
 else
 some (.inl (iI.1.Free, iI.1.aN, iI.1.aI))
)
 else
(bif (!false) then
 some (.inr (.inr ((ay.mk s2.1 s2.2.1 s2.2.2), false)))
 else
 none
)
)
)
 else
 none
)
)
)
 else
 some (.inr (.inl (s2.1, s2.2.1, s2.2.2)))
)
)
)
def ve (g : aQ) (p : ay) (a : Int) (b : Int) (want : Int) : Option (ay × Bool) :=
(uJ p).bind (fun r1 =>
((bZ (vg g a b want) BIG (r1.Free, r1.aN, r1.aI)).bind (Sum.elim (fun b27 => (
 some ((ay.mk b27.1 b27.2.1 b27.2.2), true)
)) (fun r => some r)))
)
def yA (g : aQ) (k : Int) (l : Int) (p : ay) (bar : Int) : Option (ay × Bool) :=
(((
(vU g k p).bind (fun r10 =>
(bif (!r10) then
 some true
 else
(xk k l).bind (fun r12 =>
(bif (!r12) then
 some true
 else
(bif (decide (bar < 0)) then
 some true
 else
(bif (decide ((g.aA.length : Int) ≤ bar)) then
 some true
 else
(bif (decide (0 < (p.aI.length : Int))) then
(idx p.aI (aJ ((p.aI.length : Int) - 1))).bind (fun x17 =>
 some (decide (bar ≤ x17))
)
 else
 some false
)
)
)
)
)
)
)
) : Option Bool).bind (fun j9 =>
(bif j9 then
(uJ p).bind (fun fE =>
 some (fE, false)
)
 else
(idx g.aA bar).bind (fun x20 =>
(ve g p x20.A x20.B (aJ (l + 1))).bind (fun bn =>
(bif (!bn.2) then
(uJ p).bind (fun lT =>
 some (lT, false)
)
 else
(idx bn.1.Free x20.A).bind (fun x24 =>
(((
(bif (x24 == 0) then
 some x20.B
 else
 some x20.A
)
) : Option Int).bind (fun j26 =>
(idx bn.1.Free j26).bind (fun x28 =>
(idx bn.1.Free j26).bind (fun x29 =>
(lim (bn.1.aN.length + ([j26] : List Int).length)).bind (fun u30 =>
(lim (bn.1.aI.length + ([bar] : List Int).length)).bind (fun u31 =>
 some ((ay.mk (bn.1.Free.set j26.toNat (aJ (x28 - 1))) (bn.1.aN ++ ([j26] : List Int)) (bn.1.aI ++ ([bar] : List Int))), true)
)
)
)
)
))
)
)
)
)
)
))
def Aa (g : aQ) (k : Int) (l : Int) (s8 : (Int × (List Int) × (List Int) × (List Int))) : Option ((Int × (List Int) × (List Int) × (List Int)) ⊕ ((List Int) × (List Int) × (List Int))) :=
(bif (decide (s8.1 < (g.aA.length : Int))) then
(yA g k l (ay.mk s8.2.1 s8.2.2.1 s8.2.2.2) s8.1).bind (fun gq =>
 some (.inl ((aJ (s8.1 + 1)), gq.1.Free, gq.1.aN, gq.1.aI))
)
 else
 some (.inr (s8.2.1, s8.2.2.1, s8.2.2.2))
)
def Dy (g : aQ) (k : Int) (l : Int) : Option (ay × Bool) :=
(AU g k).bind (fun r1 =>
(((
(bif (!r1.2) then
 some true
 else
(xk k l).bind (fun r6 =>
 some (!r6)
)
)
) : Option Bool).bind (fun j4 =>
(bif j4 then
 some ((ay.mk ([] : List Int) ([] : List Int) ([] : List Int)), false)
 else
((bZ (Aa g k l) BIG (0, r1.1.Free, r1.1.aN, r1.1.aI)).bind (fun b13 =>
 some ((ay.mk b13.1 b13.2.1 b13.2.2), true)
))
)
))
)
def yB (g : aQ) (k : Int) (l : Int) : Option Int :=
(Dy g k l).bind (fun r1 =>
(bif (!r1.2) then
 some (-1)
 else
 some (r1.1.aI.length : Int)
)
)
def vS (g : aQ) (k : Int) (l : Int) (r1 : Int) (s2 : (Int × (List Int))) : Option ((Int × (List Int)) ⊕ (List Int)) :=
(((
(bif (decide (s2.1 < (g.aA.length : Int))) then
 some (decide (0 ≤ r1))
 else
 some false
)
) : Option Bool).bind (fun j27 =>
(bif j27 then
(uG g s2.1).bind (fun lZ =>
(yB lZ.1 k l).bind (fun bI =>
(((
(bif (decide (bI < r1)) then
(lim (s2.2.length + ([s2.1] : List Int).length)).bind (fun u36 =>
 some (s2.2 ++ ([s2.1] : List Int))
)
 else
 some s2.2
)
) : Option (List Int)).bind (fun j34 =>
 some (.inl ((aJ (s2.1 + 1)), j34))
))
)
)
 else
 some (.inr s2.2)
)
))
def zy (g : aQ) (k : Int) (l : Int) : Option (List Int) :=
(yB g k l).bind (fun r1 =>
((bZ (vS g k l r1) BIG (0, ([] : List Int))).bind (fun b25 =>
 some b25
))
)
def Af (l : (List Int)) (x : Int) (s1 : Int) : Option (Int ⊕ (Unit ⊕ Bool)) :=
(bif (decide (s1 < (l.length : Int))) then
(idx l s1).bind (fun x10 =>
(bif (x10 == x) then
 some (.inr (.inr true))
 else
 some (.inl (aJ (s1 + 1)))
)
)
 else
 some (.inr (.inl ()))
)
def yF (l : (List Int)) (x : Int) : Option Bool :=
((bZ (Af l x) BIG 0).bind (Sum.elim (fun b8 => (
 some false
)) (fun r => some r)))
def vW (g : aQ) (r1 : (List Int)) (s2 : (Int × (List Int))) : Option ((Int × (List Int)) ⊕ (List Int)) :=
(((
(bif (decide (s2.1 < (g.aA.length : Int))) then
(o6 g).bind (fun r32 =>
 some r32
)
 else
 some false
)
) : Option Bool).bind (fun j30 =>
(bif j30 then
(yF r1 s2.1).bind (fun qp =>
(((
(bif (!qp) then
(lim (s2.2.length + ([s2.1] : List Int).length)).bind (fun MH =>
 some (s2.2 ++ ([s2.1] : List Int))
)
 else
 some s2.2
)
) : Option (List Int)).bind (fun j37 =>
 some (.inl ((aJ (s2.1 + 1)), j37))
))
)
 else
 some (.inr s2.2)
)
))
def AZ (g : aQ) : Option (List Int) :=
(zy g 2 3).bind (fun r1 =>
((bZ (vW g r1) BIG (0, ([] : List Int))).bind (fun b27 =>
 some b27
))
)
def zu (a : (List Int)) (b : (List Int)) (s2 : Int) : Option (Int ⊕ (Unit ⊕ Bool)) :=
(bif (decide (s2 < (a.length : Int))) then
(idx a s2).bind (fun wJ =>
(idx b s2).bind (fun x14 =>
(bif (wJ != x14) then
 some (.inr (.inr false))
 else
 some (.inl (aJ (s2 + 1)))
)
)
)
 else
 some (.inr (.inl ()))
)
def zq (a : (List Int)) (b : (List Int)) : Option Bool :=
(bif ((a.length : Int) != (b.length : Int)) then
 some false
 else
((bZ (zu a b) BIG 0).bind (Sum.elim (fun b11 => (
 some true
)) (fun r => some r)))
)
def AL (g : aQ) : Option (List Int) :=
(zy g 2 3).bind (fun r1 =>
 some r1
)
def DT (g : aQ) : Option Int :=
(qM g).bind (fun r1 =>
(bif (!r1) then
 some (-1)
 else
(xQ g 2 3).bind (fun r3 =>
 some (aJ ((if 0 < (aJ ((aJ (2 * g.aF)) - 3)) then (aJ ((aJ (2 * g.aF)) - 3)) else 0) - r3))
)
)
)
def vI (g : aQ) : Option Bool :=
(DT g).bind (fun r1 =>
 some (r1 == 0)
)
def zU (g : aQ) : Option Bool :=
(((
(vI g).bind (fun r5 =>
(bif r5 then
(xM g).bind (fun r7 =>
 some ((r7.length : Int) == 0)
)
 else
 some false
)
)
) : Option Bool).bind (fun j4 =>
 some j4
))
def AO (g : aQ) : Option Int :=
(o6 g).bind (fun r1 =>
(bif (!r1) then
 some (-1)
 else
(yB g 2 3).bind (fun r3 =>
 some (aJ ((if 0 < (aJ ((aJ (2 * g.aF)) - 3)) then (aJ ((aJ (2 * g.aF)) - 3)) else 0) - r3))
)
)
)
def xq (g : aQ) : Option Bool :=
(AO g).bind (fun r1 =>
 some (r1 == 0)
)
def Du (g : aQ) : Option Bool :=
(((
(xq g).bind (fun r5 =>
(bif r5 then
(AL g).bind (fun r7 =>
 some ((r7.length : Int) == 0)
)
 else
 some false
)
)
) : Option Bool).bind (fun j4 =>
 some j4
))
def zV (g : aQ) (keep : (List Int)) (s1 : (Int × (List aK))) : Option ((Int × (List aK)) ⊕ (List aK)) :=
(bif (decide (s1.1 < (g.aA.length : Int))) then
(idx g.aA s1.1).bind (fun x20 =>
(xZ keep s1.1).bind (fun bn =>
(((
(bif bn then
(lim (s1.2.length + [x20].length)).bind (fun u26 =>
 some (s1.2 ++ [x20])
)
 else
 some s1.2
)
) : Option (List aK)).bind (fun j24 =>
 some (.inl ((aJ (s1.1 + 1)), j24))
))
)
)
 else
 some (.inr s1.2)
)
def DW (g : aQ) (keep : (List Int)) : Option aQ :=
((bZ (zV g keep) BIG (0, ([] : List aK))).bind (fun b18 =>
 some (aQ.mk g.aF b18)
))
def xP (g : aQ) (broken : (List Int)) (s1 : (Int × (List Int))) : Option ((Int × (List Int)) ⊕ (List Int)) :=
(bif (decide (s1.1 < (g.aA.length : Int))) then
(xZ broken s1.1).bind (fun fJ =>
(((
(bif (!fJ) then
(lim (s1.2.length + ([s1.1] : List Int).length)).bind (fun u23 =>
 some (s1.2 ++ ([s1.1] : List Int))
)
 else
 some s1.2
)
) : Option (List Int)).bind (fun j21 =>
 some (.inl ((aJ (s1.1 + 1)), j21))
))
)
 else
 some (.inr s1.2)
)
def xO (g : aQ) (broken : (List Int)) : Option Bool :=
((bZ (xP g broken) BIG (0, ([] : List Int))).bind (fun b16 =>
(((
(qM g).bind (fun uP =>
(bif uP then
(DW g b16).bind (fun bI =>
(vI bI).bind (fun r32 =>
 some r32
)
)
 else
 some false
)
)
) : Option Bool).bind (fun j28 =>
 some j28
))
))
def Dj (code : (List Int)) : Option aQ :=
(vY code).bind (fun r1 =>
(Ak r1).bind (fun r2 =>
 some r2.1
)
)
def vF (g : aQ) (a : Int) (b : Int) (s1 : (Int × Int)) : Option ((Int × Int) ⊕ Int) :=
(bif (decide (s1.2 < (g.aA.length : Int))) then
(idx g.aA s1.2).bind (fun x32 =>
(((
(bif (x32.A == a) then
(bif (x32.B == b) then
 some true
 else
(bif (x32.A == b) then
 some (x32.B == a)
 else
 some false
)
)
 else
(bif (x32.A == b) then
 some (x32.B == a)
 else
 some false
)
)
) : Option Bool).bind (fun j37 =>
(((
(bif j37 then
 some (aJ (s1.1 + 1))
 else
 some s1.1
)
) : Option Int).bind (fun j43 =>
 some (.inl (j43, (aJ (s1.2 + 1))))
))
))
)
 else
 some (.inr s1.1)
)
def vC (g : aQ) (a : Int) (b : Int) : Option Int :=
((bZ (vF g a b) BIG (0, 0)).bind (fun y9 =>
 some y9
))
def vK (g : aQ) (s3 : (Int × (List aK))) (jo : (Int × (List aK))) : Option ((Int × (List aK)) ⊕ (Int × (List aK))) :=
(bif (decide (jo.1 < g.aF)) then
(vC g s3.1 jo.1).bind (fun je =>
(((
(bif (je == 0) then
(lim (jo.2.length + [(aK.mk s3.1 jo.1)].length)).bind (fun u62 =>
 some (jo.2 ++ [(aK.mk s3.1 jo.1)])
)
 else
 some jo.2
)
) : Option (List aK)).bind (fun j60 =>
 some (.inl ((aJ (jo.1 + 1)), j60))
))
)
 else
 some (.inr (s3.1, jo.2))
)
def vJ (g : aQ) (s3 : (Int × (List aK))) : Option ((Int × (List aK)) ⊕ (List aK)) :=
(bif (decide (s3.1 < g.aF)) then
((bZ (vK g s3) BIG ((aJ (s3.1 + 1)), s3.2)).bind (fun uo =>
 some (.inl ((aJ (uo.1 + 1)), uo.2))
))
 else
 some (.inr s3.2)
)
def qo (g : aQ) : Option (List aK) :=
(qM g).bind (fun r1 =>
(bif (!r1) then
 some ([] : List aK)
 else
((bZ (vJ g) BIG (0, ([] : List aK))).bind (fun qW =>
 some qW
))
)
)
def zT (g : aQ) (v : Int) : Option Bool :=
(uF v 0 (aJ (g.aF - 1))).bind (fun r1 =>
 some r1
)
def GH (a : Int) (b : Int) : Option aK :=
 some (aK.mk (if b < a then b else a) (if a < b then b else a))
def zf (points : Int) (bars : (List aK)) : Option Int :=
(zh points bars 2 3).bind (fun r1 =>
 some (r1.aI.length : Int)
)
def Dc (points : Int) (bars : (List aK)) (x : aK) : Option Bool :=
(lim (([] : List aK).length + bars.length)).bind (fun u1 =>
(lim ((([] : List aK) ++ bars).length + [x].length)).bind (fun u2 =>
(zf points ((([] : List aK) ++ bars) ++ [x])).bind (fun r3 =>
(zf points bars).bind (fun r4 =>
 some (decide (r4 < r3))
)
)
)
)
def DU (g : aQ) (a : Int) (b : Int) : Option Bool :=
(((
(qM g).bind (fun r11 =>
(bif r11 then
(zT g a).bind (fun r13 =>
(bif r13 then
(zT g b).bind (fun gq =>
(bif gq then
(bif (a == b) then
 some true
 else
(GH a b).bind (fun fJ =>
(Dc g.aF g.aA fJ).bind (fun fE =>
 some (!fE)
)
)
)
 else
 some false
)
)
 else
 some false
)
)
 else
 some false
)
)
) : Option Bool).bind (fun j10 =>
 some j10
))
def pO (x y : aK) : Int := bif decide (x.A < y.A) then -1 else bif decide (y.A < x.A) then 1 else bif decide (x.B < y.B) then -1 else bif decide (y.B < x.B) then 1 else 0
def sortB (l : List aK) : List aK := l.mergeSort fun x y => !decide (pO y x < 0)
def Di (x : List aK) : Option (List aK) := bif decide (x.length ≤ 4096) then some (sortB x) else none
def Df (g : aQ) (l : (List aK)) : Option aQ :=
(xR g).bind (fun r1 =>
(lim (r1.aA.length + l.length)).bind (fun u2 =>
(Di (r1.aA ++ l)).bind (fun r3 =>
(same ((r1.aA ++ l).length) r3.length).bind (fun u4 =>
 some (aQ.mk r1.aF r3)
)
)
)
)
def zS (r2 : (List aK)) (s3 : (Int × (List aK) × Int × (List aK))) : Option ((Int × (List aK) × Int × (List aK)) ⊕ ((List aK) × (List aK) × Int)) :=
(bif (decide (s3.1 < (r2.length : Int))) then
(idx r2 s3.1).bind (fun x34 =>
(((
(bif (decide ((s3.2.2.2.length : Int) < 24)) then
(DU (aQ.mk s3.2.2.1 s3.2.2.2) x34.A x34.B).bind (fun Gu =>
 some (!Gu)
)
 else
 some false
)
) : Option Bool).bind (fun j37 =>
(((
(bif j37 then
(Df (aQ.mk s3.2.2.1 s3.2.2.2) [x34]).bind (fun uQ =>
(lim (s3.2.1.length + [x34].length)).bind (fun u46 =>
 some ((s3.2.1 ++ [x34]), uQ.aF, uQ.aA)
)
)
 else
 some (s3.2.1, s3.2.2.1, s3.2.2.2)
)
) : Option ((List aK) × Int × (List aK))).bind (fun j43 =>
 some (.inl ((aJ (s3.1 + 1)), j43.1, j43.2.1, j43.2.2))
))
))
)
 else
 some (.inr (s3.2.1, s3.2.2.2, s3.2.2.1))
)
def DR (g : aQ) : Option ((List aK) × Bool) :=
(xR g).bind (fun r1 =>
(qo g).bind (fun r2 =>
((bZ (zS r2) BIG (0, ([] : List aK), r1.aF, r1.aA)).bind (fun b32 =>
(vI (aQ.mk b32.2.2 b32.2.1)).bind (fun LZ =>
(bif (!LZ) then
 some (([] : List aK), false)
 else
 some (b32.1, true)
)
)
))
)
)
def Dw (g : aQ) (s1 : (Int × (List aK))) (s53 : (Int × (List aK))) : Option ((Int × (List aK)) ⊕ (Int × (List aK))) :=
(bif (decide (s53.1 < g.aF)) then
(xg g s1.1 s53.1).bind (fun Ld =>
(((
(bif (Ld == 0) then
(lim (s53.2.length + [(aK.mk s1.1 s53.1)].length)).bind (fun u75 =>
 some (s53.2 ++ [(aK.mk s1.1 s53.1)])
)
 else
 some s53.2
)
) : Option (List aK)).bind (fun j73 =>
 some (.inl ((aJ (s53.1 + 1)), j73))
))
)
 else
 some (.inr (s1.1, s53.2))
)
def xw (g : aQ) (s1 : (Int × (List aK))) : Option ((Int × (List aK)) ⊕ (List aK)) :=
(((
(bif (decide (s1.1 < g.aF)) then
(o6 g).bind (fun Gv =>
 some Gv
)
 else
 some false
)
) : Option Bool).bind (fun j49 =>
(bif j49 then
((bZ (Dw g s1) BIG ((aJ (s1.1 + 1)), s1.2)).bind (fun sQ =>
 some (.inl ((aJ (sQ.1 + 1)), sQ.2))
))
 else
 some (.inr s1.2)
)
))
def vV (g : aQ) : Option (List aK) :=
((bZ (xw g) BIG (0, ([] : List aK))).bind (fun iZ =>
 some iZ
))
def yK (g : aQ) (s2 : (Int × Int × (List Int) × (List Int) × (List Int))) : Option ((Int × Int × (List Int) × (List Int) × (List Int)) ⊕ Int) :=
(bif (decide (s2.1 < (g.aA.length : Int))) then
(idx g.aA s2.1).bind (fun x29 =>
(idx g.aA s2.1).bind (fun x30 =>
(ve g (ay.mk s2.2.2.1 s2.2.2.2.1 s2.2.2.2.2) x29.A x30.B 4).bind (fun bI =>
(bif (!bI.2) then
 some (.inl ((aJ (s2.1 + 1)), s2.2.1, s2.2.2.1, s2.2.2.2.1, s2.2.2.2.2))
 else
(idx g.aA s2.1).bind (fun wK =>
(idx g.aA s2.1).bind (fun x34 =>
(idx bI.1.Free x34.A).bind (fun uY =>
(idx bI.1.Free wK.A).bind (fun yh =>
(idx g.aA s2.1).bind (fun nX =>
(lim (bI.1.aN.length + ([nX.A] : List Int).length)).bind (fun u38 =>
(lim (bI.1.aI.length + ([s2.1] : List Int).length)).bind (fun MH =>
 some (.inl ((aJ (s2.1 + 1)), (aJ (s2.2.1 + 1)), (bI.1.Free.set wK.A.toNat (aJ (uY - 1))), (bI.1.aN ++ ([nX.A] : List Int)), (bI.1.aI ++ ([s2.1] : List Int))))
)
)
)
)
)
)
)
)
)
)
)
 else
 some (.inr s2.2.1)
)
def Ap (g : aQ) : Option Int :=
(AU (aQ.mk g.aF ([] : List aK)) 2).bind (fun r1 =>
((bZ (yK g) BIG (0, 0, r1.1.Free, r1.1.aN, r1.1.aI)).bind (fun b27 =>
 some b27
))
)
def Dt (g : aQ) (a : Int) (b : Int) : Option Bool :=
(((
(o6 g).bind (fun r7 =>
(bif (!r7) then
 some true
 else
(bif (decide (a < 0)) then
 some true
 else
(bif (decide (b < 0)) then
 some true
 else
(bif (decide (g.aF ≤ a)) then
 some true
 else
 some (decide (g.aF ≤ b))
)
)
)
)
)
) : Option Bool).bind (fun j6 =>
(bif j6 then
 some false
 else
(qB g (aK.mk (if b < a then b else a) (if a < b then b else a))).bind (fun r13 =>
(((
(bif (a == b) then
 some true
 else
(Ap r13).bind (fun fE =>
(Ap g).bind (fun EP =>
 some (fE == EP)
)
)
)
) : Option Bool).bind (fun j17 =>
 some j17
))
)
)
))
def AB (r2 : (List aK)) (s3 : (Int × (List aK) × Int × (List aK))) : Option ((Int × (List aK) × Int × (List aK)) ⊕ ((List aK) × (List aK) × Int)) :=
(bif (decide (s3.1 < (r2.length : Int))) then
(((
(idx r2 s3.1).bind (fun IG =>
(idx r2 s3.1).bind (fun x54 =>
(Dt (aQ.mk s3.2.2.1 s3.2.2.2) IG.A x54.B).bind (fun oI =>
(bif (!oI) then
 some (decide ((s3.2.2.2.length : Int) < 24))
 else
 some false
)
)
)
)
) : Option Bool).bind (fun j52 =>
(((
(bif j52 then
(idx r2 s3.1).bind (fun Ee =>
(qB (aQ.mk s3.2.2.1 s3.2.2.2) Ee).bind (fun uS =>
(idx r2 s3.1).bind (fun x66 =>
(lim (s3.2.1.length + [x66].length)).bind (fun u67 =>
 some ((s3.2.1 ++ [x66]), uS.aF, uS.aA)
)
)
)
)
 else
 some (s3.2.1, s3.2.2.1, s3.2.2.2)
)
) : Option ((List aK) × Int × (List aK))).bind (fun j62 =>
 some (.inl ((aJ (s3.1 + 1)), j62.1, j62.2.1, j62.2.2))
))
))
 else
 some (.inr (s3.2.1, s3.2.2.2, s3.2.2.1))
)
def Dp (g : aQ) : Option ((List aK) × Bool) :=
(yE g).bind (fun r1 =>
(vV g).bind (fun r2 =>
((bZ (AB r2) BIG (0, ([] : List aK), r1.aF, r1.aA)).bind (fun iZ =>
(xq (aQ.mk iZ.2.2 iZ.2.1)).bind (fun Lc =>
(bif (!Lc) then
 some (([] : List aK), false)
 else
 some (iZ.1, true)
)
)
))
)
)
def zo (a : (List aK)) (b : (List aK)) (s2 : Int) : Option (Int ⊕ (Unit ⊕ Bool)) :=
(bif (decide (s2 < (a.length : Int))) then
(idx a s2).bind (fun wJ =>
(idx b s2).bind (fun x14 =>
(bif (!(qH [wJ.A, wJ.B] [x14.A, x14.B])) then
 some (.inr (.inr false))
 else
 some (.inl (aJ (s2 + 1)))
)
)
)
 else
 some (.inr (.inl ()))
)
def zn (a : (List aK)) (b : (List aK)) : Option Bool :=
(bif ((a.length : Int) != (b.length : Int)) then
 some false
 else
((bZ (zo a b) BIG 0).bind (Sum.elim (fun b11 => (
 some true
)) (fun r => some r)))
)
def AA (r2 : (aQ × dB)) (s4 : (Int × (List Int) × Int × Int × (List Int))) : Option ((Int × (List Int) × Int × Int × (List Int)) ⊕ ((List aK) × Int × (List Int))) :=
(bif (decide (0 < s4.1)) then
(jC (dB.mk s4.2.1 s4.2.2.1 s4.2.2.2.1) 9).bind (fun r13 =>
(lim (s4.2.2.2.2.length + ([(aJ (r13.1 - 1))] : List Int).length)).bind (fun u14 =>
 some (.inl ((aJ (s4.1 - 1)), r13.2.b, r13.2.i, r13.2.h, (s4.2.2.2.2 ++ ([(aJ (r13.1 - 1))] : List Int))))
)
)
 else
 some (.inr (r2.1.aA, r2.1.aF, s4.2.2.2.2))
)
def Dk (code : (List Int)) : Option (aQ × (List Int)) :=
(vY code).bind (fun r1 =>
(Ac r1).bind (fun r2 =>
(jC r2.2 3).bind (fun r3 =>
((bZ (AA r2) BIG (r3.1, r3.2.b, r3.2.i, r3.2.h, ([] : List Int))).bind (fun b11 =>
 some ((aQ.mk b11.2.1 b11.1), b11.2.2)
))
)
)
)
def Dl (code : (List Int)) : Option aQ :=
(vY code).bind (fun r1 =>
(Ae r1).bind (fun r2 =>
 some r2.1
)
)
def AY (g : aQ) (keep : (List Int)) (s1 : (Int × (List aK))) : Option ((Int × (List aK)) ⊕ (List aK)) :=
(bif (decide (s1.1 < (g.aA.length : Int))) then
(yF keep s1.1).bind (fun r22 =>
(((
(bif r22 then
(idx g.aA s1.1).bind (fun x28 =>
(lim (s1.2.length + [x28].length)).bind (fun u29 =>
 some (s1.2 ++ [x28])
)
)
 else
 some s1.2
)
) : Option (List aK)).bind (fun j26 =>
 some (.inl ((aJ (s1.1 + 1)), j26))
))
)
 else
 some (.inr s1.2)
)
def Dx (g : aQ) (keep : (List Int)) : Option aQ :=
((bZ (AY g keep) BIG (0, ([] : List aK))).bind (fun b20 =>
 some (aQ.mk g.aF b20)
))
def xu (g : aQ) (broken : (List Int)) (s1 : (Int × (List Int))) : Option ((Int × (List Int)) ⊕ (List Int)) :=
(bif (decide (s1.1 < (g.aA.length : Int))) then
(yF broken s1.1).bind (fun fJ =>
(((
(bif (!fJ) then
(lim (s1.2.length + ([s1.1] : List Int).length)).bind (fun u23 =>
 some (s1.2 ++ ([s1.1] : List Int))
)
 else
 some s1.2
)
) : Option (List Int)).bind (fun j21 =>
 some (.inl ((aJ (s1.1 + 1)), j21))
))
)
 else
 some (.inr s1.2)
)
def Dv (g : aQ) (broken : (List Int)) : Option Bool :=
((bZ (xu g broken) BIG (0, ([] : List Int))).bind (fun b16 =>
(((
(o6 g).bind (fun uP =>
(bif uP then
(Dx g b16).bind (fun bI =>
(xq bI).bind (fun r32 =>
 some r32
)
)
 else
 some false
)
)
) : Option Bool).bind (fun j28 =>
 some j28
))
))
def xY (r3 : aQ) (nV : Int) : Option (Int ⊕ (Unit ⊕ Bool)) :=
(((
(bif (decide (nV < (r3.aA.length : Int))) then
(zU r3).bind (fun Gw =>
 some Gw
)
 else
 some false
)
) : Option Bool).bind (fun j50 =>
(bif j50 then
(xO r3 ([nV] : List Int)).bind (fun La =>
(bif (!La) then
 some (.inr (.inr false))
 else
 some (.inl (aJ (nV + 1)))
)
)
 else
 some (.inr (.inl ()))
)
))
def zl (iT : ((List aK) × Bool)) (jS : (Int × Int × (List aK))) : Option ((Int × Int × (List aK)) ⊕ (((List aK) × Int) ⊕ Bool)) :=
(bif (decide (jS.1 < (iT.1.length : Int))) then
(idx iT.1 jS.1).bind (fun x101 =>
(idx iT.1 jS.1).bind (fun x102 =>
(vP (aQ.mk jS.2.1 jS.2.2) x101.A x102.B).bind (fun kD =>
(bif (!kD.2) then
 some (.inr (.inr false))
 else
 some (.inl ((aJ (jS.1 + 1)), kD.1.aF, kD.1.aA))
)
)
)
)
 else
 some (.inr (.inl (jS.2.2, jS.2.1)))
)
def GK (code : (List Int)) : Option Bool :=
(GL code).bind (fun r1 =>
(bif r1 then
 some true
 else
(Dn code).bind (fun r3 =>
(zW r3).bind (fun r4 =>
(xM r3).bind (fun r5 =>
(((
(AZ r3).bind (fun fJ =>
(zq r4 fJ).bind (fun fE =>
(bif (!fE) then
 some true
 else
(AL r3).bind (fun bn =>
(zq r5 bn).bind (fun r22 =>
(bif (!r22) then
 some true
 else
(zU r3).bind (fun gu =>
(Du r3).bind (fun r25 =>
(bif (gu != r25) then
 some true
 else
(o6 r3).bind (fun r27 =>
(bif r27 then
 some ((aJ ((r4.length : Int) + (r5.length : Int))) != (r3.aA.length : Int))
 else
 some false
)
)
)
)
)
)
)
)
)
)
)
) : Option Bool).bind (fun j17 =>
(bif j17 then
 some false
 else
((bZ (xY r3) BIG 0).bind (Sum.elim (fun Nc => (
(Dj code).bind (fun iR =>
(DR iR).bind (fun je =>
(Dp iR).bind (fun iT =>
(((
(bif (je.2 != iT.2) then
 some true
 else
(zn je.1 iT.1).bind (fun EQ =>
(bif (!EQ) then
 some true
 else
(bif je.2 then
(AO iR).bind (fun ER =>
 some ((iT.1.length : Int) != ER)
)
 else
 some false
)
)
)
)
) : Option Bool).bind (fun j64 =>
(bif j64 then
 some false
 else
(((
(bif je.2 then
((bZ (zl iT) BIG (0, iR.aF, iR.aA)).bind (Sum.elim (fun og => (
(vI (aQ.mk og.2 og.1)).bind (fun kN =>
(bif (!kN) then
 some (.inr false)
 else
 some (.inl ())
)
)
)) (fun r => some (.inr r))))
 else
 some (.inl ())
)
) : Option (Unit ⊕ Bool)).bind (Sum.elim (fun j86 => (
(Dk code).bind (fun iH =>
(Dl code).bind (fun nM =>
(((
(xO iH.1 iH.2).bind (fun Gp =>
(Dv iH.1 iH.2).bind (fun Gq =>
(bif (Gp == Gq) then
(qo nM).bind (fun A8 =>
(vV nM).bind (fun BA =>
(zn A8 BA).bind (fun EO =>
 some EO
)
)
)
 else
 some false
)
)
)
) : Option Bool).bind (fun j115 =>
 some j115
))
)
)
)) (fun r => some r)))
)
))
)
)
)
)) (fun r => some r)))
)
))
)
)
)
)
)
end Go.Proofs.YtdmlaldifbmkpaaGreat
end
section
set_option linter.unusedVariables false
set_option linter.unusedSimpArgs false
set_option linter.unnecessarySimpa false
open Go Go.Fw
namespace Go.Proofs.YtdmlaldifbmkpaaGreat
abbrev SM (n : Nat) : Prop := n ≤ 2147483648
end Go.Proofs.YtdmlaldifbmkpaaGreat
end
section
set_option linter.unusedVariables false
set_option linter.unusedSimpArgs false
set_option linter.unnecessarySimpa false
open Go Go.Fw
namespace Go.Proofs.YtdmlaldifbmkpaaGreat
theorem F5 (x lo hi : Int) : vX x lo hi = some (decide (lo ≤ x) && decide (x ≤ hi)) := by
 unfold vX
 cases decide (lo ≤ x) <;> simp
theorem BJ (x lo hi : Int) : uF x lo hi = some (decide (lo ≤ x) && decide (x ≤ hi)) := by
 unfold uF
 cases decide (lo ≤ x) <;> simp
theorem Og (a b : Int) : zZ a b = some (if a < b then -1 else if b < a then 1 else 0) := by
 unfold zZ
 by_cases h1 : a < b
 ·simp [h1]
 ·by_cases h2 : b < a <;> simp [h1,h2]
def iK (x y : aK) : Bool := decide (y.A < x.A) || (x.A == y.A && decide (y.B < x.B))
theorem Oc (x y : aK) : ∃ c,zY x y = some c ∧ decide (0 < c) = iK x y := by
 unfold zY iK
 rw [Og,Og]
 by_cases h1 : x.A < y.A
 ·have h3 : (x.A == y.A) = false := by simp; omega
  exact ⟨-1,by simp [h1],by simp [h3]; omega⟩
 ·by_cases h2 : y.A < x.A
  ·exact ⟨1,by simp [h1,h2],by simp [h2]⟩
  ·have : x.A = y.A := by omega
   by_cases h3 : x.B < y.B
   ·exact ⟨-1,by simp [this,h3],by simp [this]; omega⟩
   ·by_cases h4 : y.B < x.B
    ·exact ⟨1,by simp [this,h3,h4],by simp [this,h4]⟩
    ·exact ⟨0,by simp [this,h3,h4],by simp [this]; omega⟩
theorem QV (x y : aK) : yD x y = some (!iK x y) := by
 unfold yD iK
 by_cases h1 : x.A < y.A
 ·have h3 : (x.A == y.A) = false := by simp; omega
  simp [h1,h3]; omega
 ·by_cases h2 : y.A < x.A
  ·have h3 : (x.A == y.A) = false := by simp; omega
   simp [h1,h2,h3]
  ·have : x.A = y.A := by omega
   by_cases h4 : y.B < x.B
   ·have h5 : ¬ x.B ≤ y.B := by omega
    simp [this,h4,h5]
   ·have h5 : x.B ≤ y.B := by omega
    simp [this,h4,h5]
def uq (g : aQ) (k : Nat) : Bool := match g.aA[k]? with
 | none => false
 | some x => decide (x.A < 0) || decide (x.B ≤ x.A) || decide (g.aF ≤ x.B) || (decide (0 < k) && match g.aA[k - 1]? with
  | none => false
  | some y => iK y x)
def vG (g : aQ) : Bool := decide (1 ≤ g.aF) && decide (g.aF ≤ 8) && !decide (24 < (g.aA.length : Int)) && !(List.range' 0 g.aA.length).any (uq g)
theorem qL (g : aQ) (h : SM g.aA.length) : qM g = some (vG g) := by
 have e : bZ (vH g) BIG 0 = some (bif (List.range' 0 g.aA.length).any (uq g) then .inr false else .inl ()) := by
  refine Et (uq g) false g.aA.length (by omega) (fun k hk => ?_) (by simp [vH])
  unfold vH uq
  rw [decide_eq_true (by omega),cond_true,qj hk,Option.bind_some,List.getElem?_eq_getElem hk]
  simp only
  cases decide (g.aA[k].A < 0)
  ·cases decide (g.aA[k].B ≤ g.aA[k].A)
   ·cases decide (g.aF ≤ g.aA[k].B)
    ·by_cases h0 : 0 < k
     ·have e1 : aJ ((k : Int) - 1) = ((k - 1 : Nat) : Int) := by rw [fM (by omega) (by omega)]; omega
      obtain ⟨c,hc,hd⟩ := Oc (g.aA[k - 1]'(by omega)) g.aA[k]
      rw [decide_eq_true (show (0 : Int) < (k : Int) by omega),decide_eq_true h0,e1,qj (show k - 1 < g.aA.length by omega),List.getElem?_eq_getElem (show k - 1 < g.aA.length by omega)]
      simp only [cond_false,cond_true,Option.bind_some,hc,hd,Bool.false_or,Bool.true_and]
     ·rw [decide_eq_false (show ¬ (0 : Int) < (k : Int) by omega),decide_eq_false h0]
      rfl
    ·rfl
   ·rfl
  ·rfl
 unfold qM vG
 rw [BJ,e]
 simp only [Option.bind_some]
 cases decide (1 ≤ g.aF) && decide (g.aF ≤ 8)
 ·rfl
 ·cases decide (24 < (g.aA.length : Int))
  ·cases (List.range' 0 g.aA.length).any (uq g) <;> rfl
  ·rfl
theorem ZX (g : aQ) : Dq g = vH g := by
 funext s
 unfold Dq vH
 have e : ∀ x y,((yD x y).bind fun r => some (!r)) = (zY x y).bind fun r => some (decide (0 < r)) := fun x y => by
  obtain ⟨c,hc,hd⟩ := Oc x y
  rw [QV,hc]
  simp [hd]
 simp only [e]
theorem qA (g : aQ) (h : SM g.aA.length) : o6 g = some (vG g) := by
 rw [← qL g h]
 unfold o6 qM
 rw [F5,BJ,ZX]
structure VG (g : aQ) : Prop where
 p1 : 1 ≤ g.aF
 p8 : g.aF ≤ 8
 len : g.aA.length ≤ 24
 a0 : ∀ {k : Nat} {x : aK},g.aA[k]? = some x → 0 ≤ x.A
 ab : ∀ {k : Nat} {x : aK},g.aA[k]? = some x → x.A < x.B
 bp : ∀ {k : Nat} {x : aK},g.aA[k]? = some x → x.B < g.aF
 Sm : ∀ {k : Nat} {x y : aK},g.aA[k]? = some x → g.aA[k + 1]? = some y → iK x y = false
theorem jh {g : aQ} (h : vG g = true) : VG g := by
 unfold vG at h
 simp only [Bool.and_eq_true,Bool.not_eq_true',decide_eq_true_eq,decide_eq_false_iff_not] at h
 obtain ⟨⟨⟨h1,h2⟩,h3⟩,h4⟩ := h
 rw [Eu] at h4
 have hb : ∀ {k : Nat} {x : aK},g.aA[k]? = some x → 0 ≤ x.A ∧ x.A < x.B ∧ x.B < g.aF ∧ ∀ {y : aK},0 < k → g.aA[k - 1]? = some y → iK y x = false := fun {k x} hx => by
  have hk : k < g.aA.length := (List.getElem?_eq_some_iff.1 hx).1
  have := h4 k (by omega) (by omega)
  unfold uq at this
  rw [hx] at this
  simp only [Bool.or_eq_false_iff,decide_eq_false_iff_not,Bool.and_eq_false_iff] at this
  obtain ⟨⟨⟨a,b⟩,c⟩,d⟩ := this
  refine ⟨by omega,by omega,by omega,fun {y} hk hy => ?_⟩
  rw [hy] at d
  rcases d with d | d
  ·exact absurd hk d
  ·exact d
 exact ⟨h1,h2,by omega,fun hx => (hb hx).1,fun hx => (hb hx).2.1,fun hx => (hb hx).2.2.1,fun {k x y} hx hy => (hb hy).2.2.2 (by omega) (by simpa using hx)⟩
theorem VG.sm {g : aQ} (h : VG g) : SM g.aA.length := by have := h.len; omega
def gU (l : List Int) (x : Int) : Bool := l.any (· == x)
def BQ {α : Type} (l : List α) (p : α → Bool) (k : Nat) : Bool := match l[k]? with
 | some x => p x
 | none => false
theorem Uj {α : Type} {l : List α} {k : Nat} (h : k < l.length) (p : α → Bool) : BQ l p k = p l[k] := by simp [BQ,h]
theorem range_any {α : Type} (l : List α) (p : α → Bool) : (List.range' 0 l.length).any (BQ l p) = l.any p := by
 induction l with
 | nil => rfl
 | cons x r ih =>
  rw [List.length_cons,List.range'_succ,List.any_cons,List.any_cons]
  congr 1
  rw [← ih,List.range'_eq_map_range,List.range'_eq_map_range,List.any_map,List.any_map]
  congr 1
  funext k
  simp [Function.comp,Nat.add_comm,BQ]
theorem KT (l : List Int) (h : SM l.length) (x : Int) : yF l x = some (gU l x) := by
 have e := Et (b := Af l x) (BQ l (· == x)) true l.length (by omega) (fun k hk => by
  unfold Af
  rw [decide_eq_true (by omega),cond_true,qj hk,Option.bind_some,Uj hk]) (by simp [Af])
 unfold yF gU
 rw [e,range_any]
 cases l.any (· == x) <;> rfl
theorem ZW (l : List Int) (h : SM l.length) (v : Int) : ∃ i,Dh l v = some i ∧ decide (0 ≤ i) = gU l v ∧ (i = -1 ∨ ∃ k : Nat,i = k ∧ l[k]? = some v ∧ ∀ j,j < k → l[j]? ≠ some v) := by
 obtain ⟨r,hr,hq⟩ := qm (b := zx l v) (s := 0) (fun k s => s = (k : Int) ∧ ∀ j,j < k → l[j]? ≠ some v)
  (fun r => match r with | .inl _ => ∀ j,j < l.length → l[j]? ≠ some v | .inr i => ∃ k : Nat,i = k ∧ l[k]? = some v ∧ ∀ j,j < k → l[j]? ≠ some v) l.length (by omega) ⟨rfl,fun j hj => by omega⟩ (fun k s hk hs => by
  obtain ⟨rfl,hs⟩ := hs
  unfold zx
  rw [decide_eq_true (by omega),cond_true,qj hk,Option.bind_some]
  cases hv : v == l[k] with
  | true => exact .inr ⟨_,rfl,k,rfl,by rw [List.getElem?_eq_getElem hk,eq_of_beq hv],hs⟩
  | false =>
   refine .inl ⟨_,rfl,fQ (by omega),fun j hj => ?_⟩
   by_cases hjk : j = k
   ·subst hjk
    rw [List.getElem?_eq_getElem hk]
    intro h2
    injection h2 with h2
    rw [h2] at hv
    simp at hv
   ·exact hs j (by omega)) (fun s hs => by
  obtain ⟨rfl,hs⟩ := hs
  exact ⟨.inl (),by simp [zx],hs⟩)
 unfold Dh
 rw [hr]
 rcases r with ⟨⟨⟩⟩ | i
 ·refine ⟨-1,rfl,?_,.inl rfl⟩
  unfold gU
  have : l.any (· == v) = false := by
   rw [← Bool.not_eq_true,List.any_eq_true]
   rintro ⟨x,hx,h2⟩
   obtain ⟨j,hj,rfl⟩ := List.mem_iff_getElem.1 hx
   exact hq j hj (by rw [List.getElem?_eq_getElem hj,eq_of_beq h2])
  rw [this]
  rfl
 ·obtain ⟨k,rfl,h1,h2⟩ := hq
  refine ⟨k,rfl,?_,.inr ⟨k,rfl,h1,h2⟩⟩
  rw [decide_eq_true (by omega)]
  unfold gU
  symm
  rw [List.any_eq_true]
  exact ⟨v,List.mem_of_getElem? h1,by simp⟩
theorem contains_eq (l : List Int) (h : SM l.length) (x : Int) : xZ l x = some (gU l x) := by
 obtain ⟨i,h1,h2,_⟩ := ZW l h x
 unfold xZ
 rw [h1,Option.bind_some,h2]
end Go.Proofs.YtdmlaldifbmkpaaGreat
end
section
set_option linter.unusedVariables false
set_option linter.unusedSimpArgs false
set_option linter.unnecessarySimpa false
open Go Go.Fw
namespace Go.Proofs.YtdmlaldifbmkpaaGreat
theorem ZN {α : Type} {l : List α} {i : Int} (d : α) (h0 : 0 ≤ i) (h1 : i < (l.length : Int)) : idx l i = some ((l[i.toNat]?).getD d) := by
 unfold idx
 rw [if_pos h0,List.getElem?_eq_getElem (by omega)]
 rfl
def Gl (f : Ep) (v : Int) : IV := (f.Places[v.toNat]?).getD ⟨0,0⟩
structure VF (f : Ep) : Prop where
 g : VG f.Graph
 p6 : f.Graph.aF ≤ 6
 len : f.Graph.aA.length ≤ 15
 qN : (f.Places.length : Int) = f.Graph.aF
 grid : ∀ {k : Nat} {p : IV},f.Places[k]? = some p → 0 ≤ p.X ∧ p.X ≤ 4 ∧ 0 ≤ p.Y ∧ p.Y ≤ 4
 dif : ∀ {k : Nat} {x : aK},f.Graph.aA[k]? = some x → qH [(Gl f x.A).X,(Gl f x.A).Y] [(Gl f x.B).X,(Gl f x.B).Y] = false
 nod : ∀ {k : Nat} {x y : aK},f.Graph.aA[k]? = some x → f.Graph.aA[k + 1]? = some y → qH [x.A,x.B] [y.A,y.B] = false
end Go.Proofs.YtdmlaldifbmkpaaGreat
end
section
set_option linter.unusedVariables false
set_option linter.unusedSimpArgs false
set_option linter.unnecessarySimpa false
open Go Go.Fw
namespace Go.Proofs.YtdmlaldifbmkpaaGreat
def Z8 (set : List Int) (k : Nat) (a : List Int × Nat) : List Int × Nat := bif gU set k then (a.1 ++ [-1],a.2) else (a.1 ++ [(a.2 : Int)],a.2 + 1)
def names (set : List Int) (n : Nat) : List Int × Nat := iter (Z8 set) n ([],0)
def nm (l : List Int) (v : Int) : Int := (l[v.toNat]?).getD 0
theorem has_eq {g : aQ} (h : VG g) (v : Int) : zT g v = some (decide (0 ≤ v) && decide (v < g.aF)) := by
 have h1 := h.p1
 have h8 := h.p8
 unfold zT
 rw [BJ,fM (by omega) (by omega),Option.bind_some]
 congr 2
 rw [decide_eq_decide]
 omega
theorem Io (g : aQ) (h : SM g.aA.length) : xR g = some g := by
 unfold xR
 rw [gB (by simp; omega)]
 rfl
theorem KR (g : aQ) (h : SM g.aA.length) : yE g = some g := by
 unfold yE
 rw [gB (by simp; omega)]
 rfl
end Go.Proofs.YtdmlaldifbmkpaaGreat
end
section
set_option linter.unusedVariables false
set_option linter.unusedSimpArgs false
set_option linter.unnecessarySimpa false
open Go Go.Fw
namespace Go.Proofs.YtdmlaldifbmkpaaGreat
theorem Ip (l : List Int) (h : SM l.length) : xU l = some l := by
 unfold xU
 rw [gB (by simp; omega)]
 rfl
structure VV (f : Ep) (v : List Int) : Prop where
 fr : VF f
 len : (v.length : Int) = 2 * f.Graph.aF
 sm : ∀ {k : Nat} {x : Int},v[k]? = some x → -10000000000 ≤ x ∧ x ≤ 10000000000
def gv (v : List Int) (i : Int) : Int := (v[i.toNat]?).getD 0
theorem VV.lt {f : Ep} {v : List Int} (h : VV f v) {i : Int} (h0 : 0 ≤ i) (h1 : i < 2 * f.Graph.aF) : -10000000000 ≤ gv v i ∧ gv v i ≤ 10000000000 := by
 have hl := h.len
 have hn : i.toNat < v.length := by omega
 refine h.sm (k := i.toNat) ?_
 unfold gv
 rw [List.getElem?_eq_getElem hn]
 rfl
def lQ (x : aK) (v : Int) : Int := bif x.A == v then x.B else x.A
end Go.Proofs.YtdmlaldifbmkpaaGreat
end
section
set_option linter.unusedVariables false
set_option linter.unusedSimpArgs false
set_option linter.unnecessarySimpa false
open Go Go.Fw
namespace Go.Proofs.YtdmlaldifbmkpaaGreat
theorem F8 {σ σ' τ τ' : Type} {b : σ → Option (σ ⊕ τ)} {b' : σ' → Option (σ' ⊕ τ')} {s : σ} {s' : σ'} (I : Nat → σ → σ' → Prop) (Q : τ → τ' → Prop) (n : Nat) (hn : n ≤ 1099511627776) (h0 : I 0 s s')
  (h : ∀ k s s',k < n → I k s s' → (∃ t t',b s = some (.inl t) ∧ b' s' = some (.inl t') ∧ I (k + 1) t t') ∨ ∃ r r',b s = some (.inr r) ∧ b' s' = some (.inr r') ∧ Q r r')
  (hr : ∀ s s',I n s s' → ∃ r r',b s = some (.inr r) ∧ b' s' = some (.inr r') ∧ Q r r') : ∃ r r',bZ b BIG s = some r ∧ bZ b' BIG s' = some r' ∧ Q r r' := by
 have go : ∀ (j k f : Nat) (s : σ) (s' : σ'),k + j = n → j < f → I k s s' → ∃ r r',bZ b f s = some r ∧ bZ b' f s' = some r' ∧ Q r r' := by
  intro j
  induction j with
  | zero =>
   intro k f s s' hk hf hi
   obtain ⟨f,rfl⟩ : ∃ g,f = g + 1 := ⟨f - 1,by omega⟩
   have : k = n := by omega
   subst this
   obtain ⟨r,r',h1,h2,h3⟩ := hr s s' hi
   exact ⟨r,r',by unfold bZ; rw [h1],by unfold bZ; rw [h2],h3⟩
  | succ j ih =>
   intro k f s s' hk hf hi
   obtain ⟨f,rfl⟩ : ∃ g,f = g + 1 := ⟨f - 1,by omega⟩
   rcases h k s s' (by omega) hi with ⟨t,t',h1,h2,h3⟩ | ⟨r,r',h1,h2,h3⟩
   ·obtain ⟨r,r',h4,h5,h6⟩ := ih (k + 1) f t t' (by omega) (by omega) h3
    exact ⟨r,r',by unfold bZ; rw [h1]; exact h4,by unfold bZ; rw [h2]; exact h5,h6⟩
   ·exact ⟨r,r',by unfold bZ; rw [h1],by unfold bZ; rw [h2],h3⟩
 exact go n 0 BIG s s' (by omega) (Eh hn) h0
structure GB (P : Int) (bars : List aK) : Prop where
 p1 : 1 ≤ P
 p8 : P ≤ 8
 len : bars.length ≤ 1000
 a0 : ∀ {k : Nat} {x : aK},bars[k]? = some x → 0 ≤ x.A
 ab : ∀ {k : Nat} {x : aK},bars[k]? = some x → x.A ≠ x.B
 b0 : ∀ {k : Nat} {x : aK},bars[k]? = some x → 0 ≤ x.B
 ap : ∀ {k : Nat} {x : aK},bars[k]? = some x → x.A < P
 bp : ∀ {k : Nat} {x : aK},bars[k]? = some x → x.B < P
theorem VG.gb {g : aQ} (h : VG g) : GB g.aF g.aA :=
 ⟨h.p1,h.p8,by have := h.len; omega,h.a0,fun hx => by have := h.ab hx; omega,fun hx => by have := h.a0 hx; have := h.ab hx; omega,fun hx => by have := h.ab hx; have := h.bp hx; omega,h.bp⟩
def gZ (bars : List aK) (p : ay) (i : Nat) : aK := ((p.aI[i]?).bind fun e => bars[e.toNat]?).getD ⟨0,0⟩
structure PB (P : Int) (bars : List aK) (k : Int) (m : Nat) (p : ay) : Prop where
 k1 : 1 ≤ k
 k3 : k ≤ 3
 fl : (p.Free.length : Int) = P
 tl : p.aN.length = p.aI.length
 pl : p.aI.length ≤ m
 pr : ∀ {i : Nat} {e : Int},p.aI[i]? = some e → 0 ≤ e ∧ e < (bars.length : Int) ∧ e < (m : Int)
 inc : ∀ {i : Nat} {e e' : Int},p.aI[i]? = some e → p.aI[i + 1]? = some e' → e < e'
 ends : ∀ {i : Nat} {t : Int},p.aN[i]? = some t → t = (gZ bars p i).A ∨ t = (gZ bars p i).B
 fr : ∀ {v : Nat} {f : Int},p.Free[v]? = some f → 0 ≤ f ∧ f + (p.aN.count (v : Int) : Int) = k
section
variable {P : Int} {bars : List aK} {k : Int} {m : Nat} {p : ay}
theorem PB.bar (hg : GB P bars) (h : PB P bars k m p) {i : Nat} (hi : i < p.aI.length) : ∃ e,p.aI[i]? = some e ∧ idx bars e = some (gZ bars p i) ∧ bars[e.toNat]? = some (gZ bars p i) := by
 have h1 := List.getElem?_eq_getElem hi
 obtain ⟨e0,e1,_⟩ := h.pr h1
 refine ⟨_,h1,?_⟩
 have h2 : bars[p.aI[i].toNat]? = some (gZ bars p i) := by
  unfold gZ
  rw [h1]
  simp only [Option.bind_some]
  rw [List.getElem?_eq_getElem (by omega)]
  rfl
 refine ⟨?_,h2⟩
 unfold idx
 rw [if_pos e0,h2]
theorem PB.uM (hg : GB P bars) (h : PB P bars k m p) {i : Nat} (hi : i < p.aI.length) : 0 ≤ (gZ bars p i).A ∧ 0 ≤ (gZ bars p i).B ∧ (gZ bars p i).A ≠ (gZ bars p i).B ∧ (gZ bars p i).A < P ∧ (gZ bars p i).B < P := by
 obtain ⟨e,_,_,h2⟩ := h.bar hg hi
 exact ⟨hg.a0 h2,hg.b0 h2,hg.ab h2,hg.ap h2,hg.bp h2⟩
theorem RU (x : aK) (v : Int) (hp : P ≤ 8) (h : 0 ≤ x.A ∧ 0 ≤ x.B ∧ x.A ≠ x.B ∧ x.A < P ∧ x.B < P) (hv : v = x.A ∨ v = x.B) : yH x v = some (lQ x v) := by
 unfold yH lQ
 rw [fM (n := x.A + x.B) (by omega) (by omega)]
 rcases hv with rfl | rfl
 ·rw [fM (by omega) (by omega),beq_self_eq_true,cond_true]
  congr 1
  omega
 ·have : (x.A == x.B) = false := by simp; exact h.2.2.1
  rw [fM (by omega) (by omega),this,cond_false]
  congr 1
  omega
theorem aAG (x : aK) (v : Int) : DL x v = some (lQ x v) := by
 unfold DL lQ
 cases x.A == v <;> rfl
theorem Au {x : aK} {v : Int} (h : 0 ≤ x.A ∧ 0 ≤ x.B ∧ x.A ≠ x.B ∧ x.A < P ∧ x.B < P) (hv : v = x.A ∨ v = x.B) : 0 ≤ lQ x v ∧ lQ x v < P ∧ lQ x v ≠ v ∧ (lQ x v = x.A ∨ lQ x v = x.B) ∧ lQ x (lQ x v) = v := by
 unfold lQ
 rcases hv with rfl | rfl
 ·have e : (x.A == x.B) = false := by simp; exact h.2.2.1
  simp only [beq_self_eq_true,cond_true,e,cond_false]
  exact ⟨by omega,by omega,by omega,.inr trivial,trivial⟩
 ·have e : (x.A == x.B) = false := by simp; exact h.2.2.1
  simp only [e,cond_false,beq_self_eq_true,cond_true]
  exact ⟨by omega,by omega,by omega,.inl trivial,trivial⟩
theorem GV (m : List (Int × Int)) (k v j : Int) : jA (iQ m k v) j = if j = k then v else jA m j := by
 induction m with
 | nil =>
  simp only [iQ,jA]
  by_cases h : j = k
  ·simp [h]
  ·have : (j == k) = false := by simp [h]
   simp [h,this]
 | cons e r ih =>
  unfold iQ
  cases hk : k == e.1 with
  | true =>
   rw [beq_iff_eq] at hk
   simp only [cond_true,jA]
   by_cases h : j = k
   ·simp [h]
   ·have h1 : (j == k) = false := by simp [h]
    have h2 : (j == e.1) = false := by simp [← hk,h]
    simp [h,h1,h2]
  | false =>
   simp only [cond_false,jA,ih]
   by_cases h : j = e.1
   ·have h1 : ¬ j = k := fun h2 => by
     rw [← h2,h] at hk
     simp at hk
    simp [h,h1]
    intro h3
    exact absurd (h.trans h3) h1
   ·have h1 : (j == e.1) = false := by simp [h]
    simp [h1]
theorem Qr (m : List (Int × Int)) (k v j : Int) : jV (iQ m k v) j = (decide (j = k) || jV m j) := by
 induction m with
 | nil =>
  simp only [iQ,jV]
  by_cases h : j = k
  ·simp [h]
  ·have : (j == k) = false := by simp [h]
   simp [h,this]
 | cons e r ih =>
  unfold iQ
  cases hk : k == e.1 with
  | true =>
   rw [beq_iff_eq] at hk
   simp only [cond_true,jV]
   by_cases h : j = k
   ·simp [h]
   ·have h1 : (j == k) = false := by simp [h]
    have h2 : (j == e.1) = false := by simp [← hk,h]
    simp [h,h1,h2]
  | false =>
   simp only [cond_false,jV,ih]
   cases hj : j == e.1 <;> simp
structure BF (P : Int) (bars : List aK) (p : ay) (a : Int) (q : List Int) (M : List (Int × Int)) (F : List Int) (S : List Bool) : Prop where
 first : q[0]? = some a
 nd : ∀ {i j : Nat} {v : Int},q[i]? = some v → q[j]? = some v → i = j
 rng : ∀ {i : Nat} {v : Int},q[i]? = some v → 0 ≤ v ∧ v < P
 sl : (S.length : Int) = P
 fl : (F.length : Int) = P
 cnt : q.length = S.count true
 seen : ∀ {v : Nat} {s : Bool},S[v]? = some s → (s = true ↔ (v : Int) ∈ q)
 has : ∀ v : Int,jV M v = true ↔ v ∈ q
 from_ : ∀ {v : Nat} {f : Int},F[v]? = some f → (v : Int) ∈ q → f = jA M v
 way : ∀ {j : Nat} {v : Int},0 < j → q[j]? = some v → ∃ (i j' : Nat) (t : Int),jA M v = i ∧ i < p.aI.length ∧ j' < j ∧ q[j']? = some t ∧ p.aN[i]? = some t ∧ lQ (gZ bars p i) t = v
theorem BF.len {a : Int} {q : List Int} {M : List (Int × Int)} {F : List Int} {S : List Bool} (h : BF P bars p a q M F S) : (q.length : Int) ≤ P := by
 have := List.count_le_length (a := true) (l := S)
 have := h.cnt
 have := h.sl
 omega
theorem BF.more (hg : GB P bars) (hp : PB P bars k m p) {a : Int} {q : List Int} {M : List (Int × Int)} {F : List Int} {S : List Bool} (h : BF P bars p a q M F S) {i j : Nat} {t u : Int} (hi : i < p.aI.length) (hj : q[j]? = some t) (ht : p.aN[i]? = some t) (hu : lQ (gZ bars p i) t = u) (hn : u ∉ q) :
  BF P bars p a (q ++ [u]) (iQ M u i) (F.set u.toNat i) (S.set u.toNat true) := by
 have xA := hp.ends ht
 obtain ⟨u0,u1,_,_,_⟩ := Au (hp.uM hg hi) xA
 rw [hu] at u0 u1
 have hjl := (List.getElem?_eq_some_iff.1 hj).1
 have hget : ∀ {r : Nat} {v : Int},(q ++ [u])[r]? = some v → (r < q.length ∧ q[r]? = some v) ∨ (r = q.length ∧ v = u) := fun {r v} hr => by
  rw [List.getElem?_append] at hr
  split at hr
  ·exact .inl ⟨by assumption,hr⟩
  ·right
   have hrl : r - q.length = 0 := by
    rcases Nat.eq_zero_or_pos (r - q.length) with h0 | h0
    ·exact h0
    ·rw [List.getElem?_eq_none (by simp; omega)] at hr
     cases hr
   rw [hrl] at hr
   simp at hr
   exact ⟨by omega,hr.symm⟩
 have hmem : ∀ {r : Nat} {v : Int},q[r]? = some v → v ∈ q := fun hr => List.mem_of_getElem? hr
 have hsl := h.sl
 have hsu : S[u.toNat]? = some (S[u.toNat]'(by omega)) := List.getElem?_eq_getElem (by omega)
 have hsf : S[u.toNat]'(by omega) = false := by
  cases hb : S[u.toNat]'(by omega) with
  | false => rfl
  | true =>
   rw [hb] at hsu
   have := (h.seen hsu).1 rfl
   rw [Int.toNat_of_nonneg u0] at this
   exact absurd this hn
 refine ⟨?_,?_,?_,by simpa using h.sl,by simpa using h.fl,?_,?_,?_,?_,?_⟩
 ·rw [List.getElem?_append_left (by omega)]
  exact h.first
 ·intro r s v hr hs
  rcases hget hr with ⟨h1,h2⟩ | ⟨h1,h2⟩ <;> rcases hget hs with ⟨h3,h4⟩ | ⟨h3,h4⟩
  ·exact h.nd h2 h4
  ·subst h4; exact absurd (hmem h2) hn
  ·subst h2; exact absurd (hmem h4) hn
  ·omega
 ·intro r v hr
  rcases hget hr with ⟨_,h2⟩ | ⟨_,rfl⟩
  ·exact h.rng h2
  ·exact ⟨u0,u1⟩
 ·have := h.cnt
  rw [List.count_set (by omega),hsf,List.length_append]
  simp
  omega
 ·intro v s hv
  rw [List.getElem?_set] at hv
  rw [List.mem_append,List.mem_singleton]
  by_cases huv : u.toNat = v
  ·rw [if_pos huv] at hv
   split at hv
   ·injection hv with hv
    subst hv
    simp only [true_iff]
    right
    omega
   ·cases hv
  ·rw [if_neg huv] at hv
   rw [h.seen hv]
   constructor
   ·exact .inl
   ·rintro (h1 | h1)
    ·exact h1
    ·omega
 ·intro v
  rw [Qr,Bool.or_eq_true,decide_eq_true_eq,h.has,List.mem_append,List.mem_singleton]
  exact Or.comm
 ·intro v f hv hq
  rw [List.getElem?_set] at hv
  rw [GV]
  by_cases huv : u.toNat = v
  ·rw [if_pos huv] at hv
   rw [if_pos (by omega)]
   split at hv
   ·injection hv with hv
    exact hv.symm
   ·cases hv
  ·rw [if_neg huv] at hv
   rw [if_neg (by omega)]
   refine h.from_ hv ?_
   rw [List.mem_append,List.mem_singleton] at hq
   rcases hq with h1 | h1
   ·exact h1
   ·omega
 ·intro r v h0 hr
  rcases hget hr with ⟨h1,h2⟩ | ⟨h1,rfl⟩
  ·obtain ⟨i',j',t',w1,w2,w3,w4,w5,w6⟩ := h.way h0 h2
   have hvu : v ≠ u := fun e => hn (e ▸ hmem h2)
   exact ⟨i',j',t',by rw [GV,if_neg hvu]; exact w1,w2,w3,by rw [List.getElem?_append_left (List.getElem?_eq_some_iff.1 w4).1]; exact w4,w5,w6⟩
  ·exact ⟨i,j,t,by rw [GV,if_pos rfl],hi,by omega,by rw [List.getElem?_append_left hjl]; exact hj,ht,hu⟩
theorem BF.start (hg : GB P bars) {a : Int} (a0 : 0 ≤ a) (a1 : a < P) {F : List Int} (hf : (F.length : Int) = P) (hF : ∀ {v : Nat} {f : Int},F[v]? = some f → f = -1) : BF P bars p a [a] (iQ [] a (-1)) F ((List.replicate P.toNat false).set a.toNat true) := by
 have hp1 := hg.p1
 have hget : ∀ {r : Nat} {v : Int},([a] : List Int)[r]? = some v → r = 0 ∧ v = a := fun {r v} hr => by
  cases r with
  | zero => simp at hr; exact ⟨rfl,hr.symm⟩
  | succ r => simp at hr
 refine ⟨rfl,fun h1 h2 => by rw [(hget h1).1,(hget h2).1],fun hr => by obtain ⟨_,rfl⟩ := hget hr; exact ⟨a0,a1⟩,by simp; omega,hf,?_,?_,?_,?_,?_⟩
 ·rw [List.count_set (by simp; omega),List.getElem_replicate]
  simp [List.count_replicate]
 ·intro v s hv
  rw [List.mem_singleton]
  rw [List.getElem?_set] at hv
  by_cases hav : a.toNat = v
  ·rw [if_pos hav] at hv
   split at hv
   ·injection hv with hv
    subst hv
    simp only [true_iff]
    omega
   ·cases hv
  ·rw [if_neg hav,List.getElem?_replicate] at hv
   split at hv
   ·injection hv with hv
    subst hv
    simp
    omega
   ·cases hv
 ·intro v
  rw [Qr,List.mem_singleton]
  simp [jV]
 ·intro v f hv hq
  rw [List.mem_singleton] at hq
  rw [GV,if_pos hq]
  exact hF hv
 ·intro j v h0 hr
  have := (hget hr).1
  omega
theorem He {α : Type} {l : List α} {i j : Nat} {x y : α} (h : (l.set i x)[j]? = some y) : (i = j ∧ y = x) ∨ (i ≠ j ∧ l[j]? = some y) := by
 rw [List.getElem?_set] at h
 by_cases hij : i = j
 ·rw [if_pos hij] at h
  split at h
  ·injection h with h
   exact .inl ⟨hij,h.symm⟩
  ·cases h
 ·rw [if_neg hij] at h
  exact .inr ⟨hij,h⟩
structure TW (p : ay) (bars : List aK) (q : List Int) (M : List (Int × Int)) (u : Int) (j : Nat) (at_ : Int) (T : List Int) : Prop where
 sO : q[j]? = some at_
 tl : T.length = p.aN.length
 keep : ∀ {r : Nat} {v : Int},r ≤ j → 0 < r → q[r]? = some v → T[(jA M v).toNat]? = p.aN[(jA M v).toNat]?
 ends : ∀ {i : Nat} {t : Int},T[i]? = some t → t = (gZ bars p i).A ∨ t = (gZ bars p i).B
 cnt : ∀ v : Int,(T.count v : Int) = p.aN.count v + (if v = u then 1 else 0) - (if v = at_ then 1 else 0)
theorem TW.step (hg : GB P bars) (hp : PB P bars k m p) {a : Int} {q : List Int} {M : List (Int × Int)} {F : List Int} {S : List Bool} (h : BF P bars p a q M F S) {u at_ : Int} {j : Nat} {T : List Int} (hT : TW p bars q M u j at_ T) (hne : at_ ≠ a) :
  ∃ (i j' : Nat) (t : Int),jA M at_ = i ∧ i < p.aI.length ∧ j' < j ∧ T[i]? = some t ∧ lQ (gZ bars p i) at_ = t ∧ TW p bars q M u j' t (T.set i at_) := by
 have hj0 : 0 < j := by
  rcases Nat.eq_zero_or_pos j with h0 | h0
  ·subst h0
   have := h.first.symm.trans hT.sO
   injection this with this
   exact absurd this.symm hne
  ·exact h0
 obtain ⟨i,j',t,w1,w2,w3,w4,w5,w6⟩ := h.way hj0 hT.sO
 have hk := hT.keep (Nat.le_refl _) hj0 hT.sO
 rw [w1,Int.toNat_natCast,w5] at hk
 obtain ⟨_,_,o3,o4,o5⟩ := Au (hp.uM hg w2) (hp.ends w5)
 rw [w6] at o3 o4 o5
 have hil := (List.getElem?_eq_some_iff.1 hk).1
 have hig : T[i] = t := by
  rw [List.getElem?_eq_getElem hil] at hk
  injection hk
 refine ⟨i,j',t,w1,w2,w3,hk,o5,w4,by simpa using hT.tl,?_,?_,?_⟩
 ·intro r v hr h0 hq
  have YO : (jA M v).toNat ≠ i := fun e => by
   obtain ⟨i2,_,t2,x1,x2,_,_,x5,x6⟩ := h.way h0 hq
   rw [x1,Int.toNat_natCast] at e
   subst e
   rw [w5] at x5
   injection x5 with x5
   subst x5
   have : v = at_ := x6.symm.trans w6
   subst this
   have := h.nd hq hT.sO
   omega
  rw [List.getElem?_set,if_neg (Ne.symm YO)]
  exact hT.keep (by omega) h0 hq
 ·intro i2 t2 h2
  rcases He h2 with ⟨rfl,rfl⟩ | ⟨_,h3⟩
  ·exact o4
  ·exact hT.ends h3
 ·intro v
  rw [List.count_set hil,hig]
  have hc := hT.cnt v
  have hpos : t = v → 0 < T.count v := fun e => by
   subst e
   exact List.count_pos_iff.2 (List.mem_of_getElem? hk)
  by_cases h1 : v = t
  ·subst h1
   have := hpos rfl
   have h3 : ¬ v = at_ := fun e => o3 e.symm
   have h4 : (at_ == v) = false := by simp; exact fun e => h3 e.symm
   simp only [beq_self_eq_true,if_true,h4,Bool.false_eq_true,if_false,if_neg h3] at hc ⊢
   omega
  ·have h2 : (t == v) = false := by simp; exact fun e => h1 e.symm
   by_cases h3 : v = at_
   ·subst h3
    simp only [h2,Bool.false_eq_true,if_false,beq_self_eq_true,if_true,if_neg h1] at hc ⊢
    omega
   ·have h4 : (at_ == v) = false := by simp; exact fun e => h3 e.symm
    simp only [h2,h4,Bool.false_eq_true,if_false,if_neg h1,if_neg h3] at hc ⊢
    omega
theorem aBG (hg : GB P bars) (hp : PB P bars k m p) {g : aQ} (qh : g.aF = P) (hgb : g.aA = bars) {a : Int} {q : List Int} {M : List (Int × Int)} {F : List Int} {S : List Bool} (h : BF P bars p a q M F S) {u : Int} {j : Nat} (hu : q[j]? = some u) (r1 : ay) (x2 x4 : Int) (s1 : Int × List (Int × Int) × List Int) (hM : iQ s1.2.1 u s1.1 = M) :
  ∃ T,bZ (yI g p F a u r1 x2 x4) BIG (u,p.aN) = some (((r1.Free.set u.toNat (aJ (x2 - 1))).set a.toNat (aJ (x4 + 1))),T,r1.aI) ∧
   bZ (vO p a s1 u x2 x4) BIG (u,p.aN) = some (((p.Free.set u.toNat (aJ (x2 - 1))).set a.toNat (aJ (x4 + 1))),T) ∧ TW p bars q M u 0 a T := by
 have tC := h.len
 have h8 := hg.p8
 have hjl := (List.getElem?_eq_some_iff.1 hu).1
 obtain ⟨r,r',e1,e2,T,rfl,rfl,hT⟩ := F8 (b := yI g p F a u r1 x2 x4) (b' := vO p a s1 u x2 x4) (s := (u,p.aN)) (s' := (u,p.aN))
  (fun n s s' => ∃ (j' : Nat) (at_ : Int) (T : List Int),s = (at_,T) ∧ s' = (at_,T) ∧ j' + n ≤ j ∧ TW p bars q M u j' at_ T)
  (fun r r' => ∃ T,r = (((r1.Free.set u.toNat (aJ (x2 - 1))).set a.toNat (aJ (x4 + 1))),T,r1.aI) ∧ r' = (((p.Free.set u.toNat (aJ (x2 - 1))).set a.toNat (aJ (x4 + 1))),T) ∧ TW p bars q M u 0 a T) (j + 1) (by omega)
  ⟨j,u,p.aN,rfl,rfl,by omega,hu,rfl,fun _ _ _ => rfl,hp.ends,fun v => by omega⟩ (fun n s s' hn hs => by
   obtain ⟨j',at_,T,rfl,rfl,hj',hT⟩ := hs
   by_cases hat : at_ = a
   ·subst hat
    have hj0 : j' = 0 := h.nd hT.sO h.first
    subst hj0
    refine .inr ⟨_,_,?_,?_,T,rfl,rfl,hT⟩
    ·unfold yI
     simp
    ·unfold vO
     simp
   ·obtain ⟨i,j2,t,w1,w2,w3,w4,w5,w6⟩ := hT.step hg hp h hat
    have hb : (at_ != a) = true := by simp; exact hat
    obtain ⟨e,hpe,hbe,Wn⟩ := hp.bar hg w2
    have hpi : idx p.aI (i : Int) = some e := mD hpe
    have Jl := h.rng hT.sO
    have hFl := h.fl
    have WS : idx F at_ = some (i : Int) := by
     have hl : F[at_.toNat]? = some (F[at_.toNat]'(by omega)) := List.getElem?_eq_getElem (by omega)
     have := h.from_ hl (by rw [Int.toNat_of_nonneg Jl.1]; exact List.mem_of_getElem? hT.sO)
     rw [Int.toNat_of_nonneg Jl.1,w1] at this
     unfold idx
     rw [if_pos Jl.1,hl,this]
    have qZ : idx T (i : Int) = some t := mD w4
    refine .inl ⟨(t,T.set i at_),(t,T.set i at_),?_,?_,j2,t,T.set i at_,rfl,rfl,by omega,w6⟩
    ·have ho : yH (gZ bars p i) at_ = some t := by
      rw [RU (P := P) _ _ h8 (hp.uM hg w2) ?_,w5]
      obtain ⟨_,_,_,o4,_⟩ := Au (hp.uM hg w2) (hT.ends w4)
      have hte := hT.ends w4
      unfold lQ at w5
      by_cases hA : (gZ bars p i).A = at_
      ·exact .inl hA.symm
      ·have : ((gZ bars p i).A == at_) = false := by simp [hA]
       rw [this,cond_false] at w5
       -- the other end of at_ is A: at_ is B
       obtain ⟨i3,_,t3,z1,z2,_,_,z5,z6⟩ := h.way (j := j') (by
        rcases Nat.eq_zero_or_pos j' with h0 | h0
        ·subst h0
         have := h.first.symm.trans hT.sO
         injection this with this
         exact absurd this.symm hat
        ·exact h0) hT.sO
       rw [w1] at z1
       have : i3 = i := by omega
       subst this
       obtain ⟨_,_,_,RI,_⟩ := Au (hp.uM hg z2) (hp.ends z5)
       rw [z6] at RI
       exact RI
     unfold yI
     simp only [hb,cond_true,WS,hpi,hgb,hbe,ho,qZ,Option.bind_some,Int.toNat_natCast]
    ·unfold vO
     simp only [hb,cond_true,hM,w1,qZ,Option.bind_some,Int.toNat_natCast]) (fun s s' hs => by
   obtain ⟨j',at_,T,rfl,rfl,hj',hT⟩ := hs
   omega)
 exact ⟨T,e1,e2,hT⟩
theorem PB.moved (hg : GB P bars) (hp : PB P bars k m p) {q : List Int} {M : List (Int × Int)} {u a : Int} {T : List Int} {fu fa : Int} (hT : TW p bars q M u 0 a T) (u0 : 0 ≤ u) (a0 : 0 ≤ a) (zI : u ≠ a) (hfu : p.Free[u.toNat]? = some fu) (hfa : p.Free[a.toNat]? = some fa) (hpos : 0 < fu) :
  PB P bars k m ⟨(p.Free.set u.toNat (fu - 1)).set a.toNat (fa + 1),T,p.aI⟩ := by
 refine ⟨hp.k1,hp.k3,by simpa using hp.fl,hT.tl.trans hp.tl,hp.pl,hp.pr,hp.inc,hT.ends,?_⟩
 intro v f hv
 change 0 ≤ f ∧ f + (T.count (v : Int) : Int) = k
 have hc := hT.cnt (v : Int)
 rcases He hv with ⟨h1,rfl⟩ | ⟨h1,h2⟩
 ·have hva : (v : Int) = a := by omega
  have hf := hp.fr hfa
  rw [Int.toNat_of_nonneg a0] at hf
  rw [hva,if_neg (Ne.symm zI),if_pos rfl] at hc
  rw [hva]
  omega
 ·rcases He h2 with ⟨h3,rfl⟩ | ⟨h3,h4⟩
  ·have hvu : (v : Int) = u := by omega
   have hf := hp.fr hfu
   rw [Int.toNat_of_nonneg u0] at hf
   rw [hvu,if_pos rfl,if_neg zI] at hc
   rw [hvu]
   omega
  ·have hf := hp.fr h4
   rw [if_neg (show ¬ (v : Int) = u by omega),if_neg (show ¬ (v : Int) = a by omega)] at hc
   omega
end
end Go.Proofs.YtdmlaldifbmkpaaGreat
end
