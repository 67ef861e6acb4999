/- Parts of a proof that a law of the program holds: what the program computes, and why that is right. -/
import Derived.KernelRfl
import Derived.MapKept
import Derived.Carry
import Derived.ChangeMaps5
import Derived.Test.YtdmlaldifbmkpaaZEFewestAdded0
section
set_option linter.unusedVariables false
set_option linter.unusedSimpArgs false
set_option linter.unnecessarySimpa false
namespace Go.Fw
def idx {α : Type} (l : List α) (i : Int) : Option α := if 0 ≤ i then l[i.toNat]? else none
def lim (n : Nat) : Option Unit := if n ≤ nK then some () else none
def sQ (n : Int) : Option Unit := if 0 ≤ n ∧ n ≤ 2147483648 then some () else none
def same (a b : Nat) : Option Unit := if a = b then some () else none
def BIG : Nat := 18446744073709551616
theorem Es {α : Type} {l : List α} {i : Int} {x : α} (h : idx l i = some x) : 0 ≤ i := by
 unfold idx at h; split at h
 ·assumption
 ·cases h
theorem Ep {α : Type} {l : List α} {i : Int} {x : α} (h : idx l i = some x) : l[i.toNat]? = some x := by
 unfold idx at h; split at h
 ·assumption
 ·cases h
theorem TU {α : Type} {l : List α} {i : Int} {x : α} (h : idx l i = some x) : i < l.length := by
 have h0 := Es h
 have h1 := (List.getElem?_eq_some_iff.1 (Ep h)).1
 omega
theorem jF {n : Nat} {u : Unit} (h : lim n = some u) : n ≤ nK := by
 unfold lim at h; split at h
 ·assumption
 ·cases h
theorem FH {n : Int} {u : Unit} (h : sQ n = some u) : 0 ≤ n ∧ n ≤ nK := by
 unfold sQ at h; split at h
 ·assumption
 ·cases h
theorem same_eq {a b : Nat} {u : Unit} (h : same a b = some u) : a = b := by
 unfold same at h; split at h
 ·assumption
 ·cases h
section
variable {P : Program} {C : Ctx} {σ σ' : Slots} {m m' : Mem} {is : List It} {τ υ : Type} {M : Option τ} {K : τ → Post}
def qN (σ' σ : Slots) : Prop := match σ' with
 | [] => True
 | (t,v) :: r => lk σ t = some v ∧ qN r σ
def qM (m' m : Mem) : Prop := match m' with
 | [] => True
 | (n,o) :: r => lk m n = some o ∧ qM r m
theorem qN.spec : ∀ {σ' : Slots},qN σ' σ → ∀ t v,lk σ' t = some v → lk σ t = some v
 | [],_,_,_,h => by cases h
 | (k,x) :: r,hs,t,v,h => by
  change (bif Nat.beq k t then some x else lk r t) = some v at h
  cases hb : Nat.beq k t with
  | true =>
   rw [hb,cond_true] at h
   injection h with h
   have := Nat.eq_of_beq_eq_true hb
   subst this
   subst h
   exact hs.1
  | false =>
   rw [hb,cond_false] at h
   exact qN.spec hs.2 t v h
theorem qM.spec : ∀ {m' : Mem},qM m' m → ∀ t v,lk m' t = some v → lk m t = some v
 | [],_,_,_,h => by cases h
 | (k,x) :: r,hs,t,v,h => by
  change (bif Nat.beq k t then some x else lk r t) = some v at h
  cases hb : Nat.beq k t with
  | true =>
   rw [hb,cond_true] at h
   injection h with h
   have := Nat.eq_of_beq_eq_true hb
   subst this
   subst h
   exact hs.1
  | false =>
   rw [hb,cond_false] at h
   exact qM.spec hs.2 t v h
theorem aU.of (h1 : qN σ' σ) (h2 : qM m' m) : aU P C σ m σ' m' := fun R B g _ _ hs => ⟨R,B,g,hs.weak (qN.spec h1) (qM.spec h2)⟩
theorem aU.refl : aU P C σ m σ m := fun R B g _ _ hs => ⟨R,B,g,hs⟩
theorem aU.trans {σ2 : Slots} {m2 : Mem} (h : aU P C σ m σ' m') (k : aU P C σ' m' σ2 m2) : aU P C σ m σ2 m2 := fun R B g a w hs => by
 obtain ⟨R',B',g',hs'⟩ := h R B g a w hs
 exact k R' B' g' a w hs'
theorem aT.ent {ops : Array Oper} {rest : List Oper} (h : aU P C σ m σ' m') (k : aT P C ops rest is σ' m' M K) : aT P C ops rest is σ m M K := fun t ht R B g a w hs => by
 obtain ⟨R',B',g',hs'⟩ := h R B g a w hs
 exact k t ht R' B' g' a w hs'
def KL {σs β ρ : Type} (P : Program) (C : Ctx) (id : Nat) (S : σs → Slots × Mem) (Sb : β → Slots × Mem) (Kr : ρ → Post) : σs ⊕ (β ⊕ ρ) → Post := fun o e σ m => match o with
 | .inl s => e = .normal ∧ aU P C σ m (S s).1 (S s).2
 | .inr (.inl b) => e = .exit id ∧ aU P C σ m (Sb b).1 (Sb b).2
 | .inr (.inr r) => e = .ret ∧ Kr r .ret σ m
theorem aB.nN {σs β ρ : Type} {body : Code} {id : Nat} (bm : σs → Option (σs ⊕ (β ⊕ ρ))) (S : σs → Slots × Mem) (Sb : β → Slots × Mem) (Kr : ρ → Post) {f : β → Option τ} {gr : ρ → Option τ} {n : Nat} {s : σs}
  (hb : ∀ s,aB P C [.code body] (S s).1 (S s).2 (bm s) (KL P C id S Sb Kr)) (h0 : aU P C σ m (S s).1 (S s).2) (hid : oM id is = true)
  (hl : ∀ b,bQ bm n s = some (.inl b) → aB P C (rq id is) (Sb b).1 (Sb b).2 (f b) K) (hr : ∀ r t σ m,gr r = some t → Kr r .ret σ m → K t .ret σ m) :
  aB P C (.code (.loop body) :: is) σ m ((bQ bm n s).bind (Sum.elim f gr)) K :=
 aB.loop (Lv := fun o e σ m => match o with | .inl b => e = .exit id ∧ aU P C σ m (Sb b).1 (Sb b).2 | .inr r => e = .ret ∧ Kr r .ret σ m) bm S
  (fun s t ht R B g a w hs => wp_mono (hb s t ht R B g a w hs) fun e a w he => by
   obtain ⟨σ',m',R',B',g',hs',hp⟩ := he
   refine ⟨σ',m',R',B',g',hs',?_⟩
   rcases t with s' | b | r
   ·exact hp
   ·obtain ⟨rfl,hp⟩ := hp
    exact ⟨by simp,rfl,hp⟩
   ·obtain ⟨rfl,hp⟩ := hp
    exact ⟨by simp,rfl,hp⟩) h0 (fun u e σ' m' hu hlv t ht => by
   rcases u with b | r
   ·obtain ⟨rfl,hp⟩ := hlv
    exact dV.xG hid (dV.ent hp (hl b hu t ht))
   ·obtain ⟨rfl,hp⟩ := hlv
    exact dV.Bf (hr r t σ' m' ht hp))
def NI {σs β : Type} (P : Program) (C : Ctx) (id : Nat) (S : σs → Slots × Mem) (Sb : β → Slots × Mem) : σs ⊕ β → Post := fun o e σ m => match o with
 | .inl s => e = .normal ∧ aU P C σ m (S s).1 (S s).2
 | .inr b => e = .exit id ∧ aU P C σ m (Sb b).1 (Sb b).2
theorem aB.kD {σs β : Type} {body : Code} {id : Nat} (bm : σs → Option (σs ⊕ β)) (S : σs → Slots × Mem) (Sb : β → Slots × Mem) {f : β → Option τ} {n : Nat} {s : σs}
  (hb : ∀ s,aB P C [.code body] (S s).1 (S s).2 (bm s) (NI P C id S Sb)) (h0 : aU P C σ m (S s).1 (S s).2) (hid : oM id is = true)
  (hl : ∀ b,bQ bm n s = some b → aB P C (rq id is) (Sb b).1 (Sb b).2 (f b) K) : aB P C (.code (.loop body) :: is) σ m ((bQ bm n s).bind f) K :=
 aB.loop (Lv := fun b e σ m => e = .exit id ∧ aU P C σ m (Sb b).1 (Sb b).2) bm S
  (fun s t ht R B g a w hs => wp_mono (hb s t ht R B g a w hs) fun e a w he => by
   obtain ⟨σ',m',R',B',g',hs',hp⟩ := he
   refine ⟨σ',m',R',B',g',hs',?_⟩
   rcases t with s' | b
   ·exact hp
   ·obtain ⟨rfl,hp⟩ := hp
    exact ⟨by simp,rfl,hp⟩) h0 (fun u e σ' m' hu hlv t ht => by
   obtain ⟨rfl,hp⟩ := hlv
   exact dV.xG hid (dV.ent hp (hl u hu t ht)))
def KJ (P : Program) (C : Ctx) (S : υ → Slots × Mem) : υ → Post := fun u e σ m => e = .normal ∧ aU P C σ m (S u).1 (S u).2
theorem aB.fG {c : Code} {M1 : Option υ} {f : υ → Option τ} (S : υ → Slots × Mem) (h1 : aB P C [.code c] σ m M1 (KJ P C S)) (h2 : ∀ t,M1 = some t → aB P C is (S t).1 (S t).2 (f t) K) : aB P C (.code c :: is) σ m (M1.bind f) K :=
 aB.join S h1 h2
theorem dV.gV {id : Nat} {Q : Post} : ∀ {is : List It},oM id is = false → Q (.exit id) σ m → dV P C is (.exit id) σ m Q
 | [],_,h => dV.nil h
 | .code c :: is,hb,h => dV.Ie (dV.gV (is := is) hb h)
 | .blk i :: is,hb,h => by
  unfold oM at hb
  rw [Bool.or_eq_false_iff] at hb
  exact dV.Ig (Ne.symm (Nat.ne_of_beq_eq_false hb.1)) (dV.gV (is := is) hb.2 h)
theorem aB.gV {id : Nat} {t : τ} (hb : oM id is = false) (h : K t (.exit id) σ m) : aB P C (.code (.exit id) :: is) σ m (some t) K := aB.O8 (dV.gV hb h)
def ay {ρ : Type} (P : Program) (res : List ResultVar) (us : Mem) (X : List Nat) (rs : ρ → List SV) (iF : ρ → Mem) : ρ → Post := fun t e σ m =>
 (e = .normal ∨ e = .ret) ∧ nX P σ m res (rs t) ∧ jf m (iF t) ∧ dS (keys us) (keys (iF t)) = true ∧ dS X (keys (iF t)) = true ∧ zh (oH (rs t)) ∧ (∀ p ∈ iF t,bK p.2) ∧ okA (keys us ++ X) (oH (rs t)) = true ∧
  (iF t).all (fun p => (keys us ++ X).elem p.1 && okO (keys us ++ X) p.2) = true
def rX : List PV → Prop
 | [] => True
 | p :: r => bI p ∧ rX r
theorem rX.spec : ∀ {l : List PV},rX l → ∀ p ∈ l,bI p
 | [],_,p,hp => by cases hp
 | q :: r,h,p,hp => by
  cases hp with
  | head => exact h.1
  | tail _ hp => exact rX.spec h.2 p hp
def rW : List CV → Prop
 | [] => True
 | p :: r => qK p ∧ rW r
theorem rW.spec : ∀ {l : List CV},rW l → ∀ p ∈ l,qK p
 | [],_,p,hp => by cases hp
 | q :: r,h,p,hp => by
  cases hp with
  | head => exact h.1
  | tail _ hp => exact rW.spec h.2 p hp
def DW : SV → Prop
 | .c x => qK x
 | .agg cs => rW cs
theorem DW.spec {x : SV} (h : DW x) : wZ x := by
 cases x with
 | c x => exact h
 | agg cs => exact rW.spec h
def qL : List SV → Prop
 | [] => True
 | x :: r => DW x ∧ qL r
theorem qL.spec : ∀ {l : List SV},qL l → ∀ p ∈ l,wZ p
 | [],_,p,hp => by cases hp
 | q :: r,h,p,hp => by
  cases hp with
  | head => exact h.1.spec
  | tail _ hp => exact qL.spec h.2 p hp
theorem qL.res {l : List SV} (h : qL l) : zh (oH l) := by
 match l,h with
 | [],_ => intro x hx; cases hx
 | [x],h => exact h.1.spec
 | x :: y :: r,h => exact qL.spec h
def wY : Mem → Prop
 | [] => True
 | (_,o) :: r => bK o ∧ wY r
theorem wY.spec : ∀ {df : Mem},wY df → ∀ p ∈ df,bK p.2
 | [],_,p,hp => by cases hp
 | (n,o) :: r,h,p,hp => by
  cases hp with
  | head => exact h.1
  | tail _ hp => exact wY.spec h.2 p hp
theorem bK.bY {α : Type} {enc : α → List PV} {e : TypeId} {xs : List α} (h : ∀ a,rX (enc a)) : bK (.dF e (xs.map enc)) := fun cs hcs p hp => by
 obtain ⟨a,_,rfl⟩ := List.mem_map.1 hcs
 exact (h a).spec p hp
theorem dR {t : TypeId} (h : (P.info? t).isSome = true) : P.info? t = some ((P.info? t).get h) := (Option.some_get h).symm
theorem ay.mk {ρ : Type} {res : List ResultVar} {us : Mem} {X : List Nat} {rs : ρ → List SV} {iF : ρ → Mem} {t : ρ} {e : Exit} (he : e = .normal ∨ e = .ret) (h1 : nX P σ m res (rs t)) (h2 : jf m (iF t))
  (hside : (dS (keys us) (keys (iF t)) && dS X (keys (iF t)) && okA (keys us ++ X) (oH (rs t)) && (iF t).all (fun p => (keys us ++ X).elem p.1 && okO (keys us ++ X) p.2)) = true) (h3 : qL (rs t)) (h4 : wY (iF t)) :
  ay P res us X rs iF t e σ m := by
 simp only [Bool.and_eq_true] at hside
 obtain ⟨⟨⟨a1,a2⟩,a3⟩,a4⟩ := hside
 exact ⟨he,h1,h2,a1,a2,h3.res,h4.spec,a3,a4⟩
theorem ay.ret {ρ : Type} {res : List ResultVar} {us : Mem} {X : List Nat} {rs : ρ → List SV} {iF : ρ → Mem} {t : ρ} {e : Exit} {σ : Slots} {m : Mem} (h : ay P res us X rs iF t .ret σ m) : ay P res us X rs iF t .ret σ m := h
theorem Fn.of {f : FuncId} {fn : Func} {c : Code} {args : List SV} {us : Mem} {pn X : List Nat} {N : Nat} {ρ : Type} {M : Option ρ} {rs : ρ → List SV} {iF : ρ → Mem} (hf : P.funcs[f]? = some fn) (hb : fn.body = some c) (hN : fn.ntmps = N)
  (hargs : args.length ≤ N) (hside : (dS (keys us) (pn ++ X) && jQ X pn && dS pn (keys us)) = true)
  (h : ∀ w0 U0 R0 g0,aB P ⟨w0,U0,R0,g0,N,pn⟩ [.code c] (rY 0 args) us M (ay P fn.results.toList us X rs iF)) : ∀ t,M = some t → Fn P f args us (oH (rs t)) (iF t) (keys us) X :=
 Fn.Ug (df := []) hf hb hN hargs hside fun w0 U0 R0 g0 _ => h w0 U0 R0 g0
end
def rn (ρ : List (Nat × Nat)) (n : Nat) : Nat := (lk ρ n).getD 0
def lG (ρ : List (Nat × Nat)) : CV → CV
 | .loc n o l => .loc (rn ρ n) o l
 | .pl n o => .pl (rn ρ n) o
 | .fn f caps => .fn f (caps.map (rn ρ))
 | .mref n => .mref (rn ρ n)
 | .tl p k o l => .tl (rn ρ p) k o l
 | .tpl p k o => .tpl (rn ρ p) k o
 | x => x
def wU (ρ : List (Nat × Nat)) : SV → SV
 | .c x => .c (lG ρ x)
 | .agg cs => .agg (cs.map (lG ρ))
def LH (ρ : List (Nat × Nat)) : AV → AV
 | .s x => .s (wU ρ x)
 | .cZ xs => .cZ (xs.map (wU ρ))
def Bg (ρ : List (Nat × Nat)) : Ob → Ob
 | .row e els => .row e (els.map (·.map (lG ρ)))
 | .dF e els => .dF e els
 | .mp es => .mp es
 | .pool e rows => .pool e rows
 | .gY e p lens => .gY e (rn ρ p) lens
 | .unk => .unk
def LJ (ρ : List (Nat × Nat)) (m : Mem) : Mem := m.map fun p => (rn ρ p.1,Bg ρ p.2)
section
variable {P : Program} {w : World} {R B : Nat → Prop} {g g' : Nat → GS} {ρ : List (Nat × Nat)}
theorem RC.rn {x : CV} {v : Value} (hz : lD (keys ρ) x = true) (hg : ∀ n ∈ keys ρ,g' (rn ρ n) = g n) (h : RC P w R B g x v) : RC P w R B g' (lG ρ x) v := by
 refine ⟨h.1,?_⟩
 have h2 := h.2
 cases x with
 | pv p => exact h2
 | px q cells => exact h2
 | loc n off len =>
  have hn := hg n (List.mem_of_elem_eq_true hz)
  rcases h2 with ⟨h3,h4⟩ | h3 | ⟨b,cap,cur,e,h3,h4⟩
  ·exact .inl ⟨hn.trans h3,h4⟩
  ·exact .inr (.inl h3)
  ·exact .inr (.inr ⟨b,cap,cur,e,hn.trans h3,h4⟩)
 | pl n off =>
  obtain ⟨b,h3,h4⟩ := h2
  exact ⟨b,(hg n (List.mem_of_elem_eq_true hz)).trans h3,h4⟩
 | fn f caps =>
  obtain ⟨vs,h3,h4,h5⟩ := h2
  refine ⟨vs,h3,by simpa using h4,fun k n hk => ?_⟩
  rw [List.getElem?_map] at hk
  cases hc : caps[k]? with
  | none => rw [hc] at hk; cases hk
  | some n0 =>
   rw [hc] at hk
   injection hk with hk
   subst hk
   obtain ⟨b,h6,h7⟩ := h5 k n0 hc
   exact ⟨b,(hg n0 (List.mem_of_elem_eq_true (List.all_eq_true.1 hz n0 (List.mem_of_getElem? hc)))).trans h6,h7⟩
 | mref n =>
  obtain ⟨b,h3,h4⟩ := h2
  exact ⟨b,(hg n (List.mem_of_elem_eq_true hz)).trans h3,h4⟩
 | tl p k off len =>
  have hn := hg p (List.mem_of_elem_eq_true hz)
  rcases h2 with ⟨h3,h4⟩ | h3 | ⟨b,cap,cur,e,h3,h4⟩
  ·exact .inl ⟨by rw [hn]; exact h3,h4⟩
  ·exact .inr (.inl h3)
  ·exact .inr (.inr ⟨b,cap,cur,e,by rw [hn]; exact h3,h4⟩)
 | tpl p k off =>
  obtain ⟨b,h3,h4⟩ := h2
  exact ⟨b,by rw [hg p (List.mem_of_elem_eq_true hz)]; exact h3,h4⟩
 | junk => trivial
theorem Og {xs : List CV} {vs : List Value} (hz : xs.all (lD (keys ρ)) = true) (hg : ∀ n ∈ keys ρ,g' (Fw.rn ρ n) = g n) (h : ∀ (k : Nat) x,xs[k]? = some x → ∃ u,vs[k]? = some u ∧ RC P w R B g x u) :
  ∀ (k : Nat) x,(xs.map (lG ρ))[k]? = some x → ∃ u,vs[k]? = some u ∧ RC P w R B g' x u := fun k x hk => by
 rw [List.getElem?_map] at hk
 cases hc : xs[k]? with
 | none => rw [hc] at hk; cases hk
 | some y =>
  rw [hc] at hk
  injection hk with hk
  subst hk
  obtain ⟨u,h4,h5⟩ := h k y hc
  exact ⟨u,h4,h5.rn (List.all_eq_true.1 hz y (List.mem_of_getElem? hc)) hg⟩
theorem RS.rn {x : SV} {v : Value} (hz : okS (keys ρ) x = true) (hg : ∀ n ∈ keys ρ,g' (Fw.rn ρ n) = g n) (h : RS P w R B g x v) : RS P w R B g' (wU ρ x) v := by
 cases x with
 | c x => exact RC.rn hz hg h
 | agg cs =>
  obtain ⟨vs,h1,h2,h3⟩ := h
  exact ⟨vs,h1,by simpa using h2,Og hz hg h3⟩
theorem RA.rn {x : AV} {v : Value} (hz : okA (keys ρ) x = true) (hg : ∀ n ∈ keys ρ,g' (Fw.rn ρ n) = g n) (h : RA P w R B g x v) : RA P w R B g' (LH ρ x) v := by
 cases x with
 | s x => exact RS.rn hz hg h
 | cZ xs =>
  obtain ⟨vs,h1,h2,h3⟩ := h
  refine ⟨vs,h1,by simpa using h2,fun k x hk => ?_⟩
  rw [List.getElem?_map] at hk
  cases hc : xs[k]? with
  | none => rw [hc] at hk; cases hk
  | some y =>
   rw [hc] at hk
   injection hk with hk
   subst hk
   obtain ⟨u,h4,h5⟩ := h3 k y hc
   exact ⟨u,h4,h5.rn (List.all_eq_true.1 hz y (List.mem_of_getElem? hc)) hg⟩
theorem LG (ρ : List (Nat × Nat)) (els : List (List PV)) : (dJ els).map (·.map (lG ρ)) = dJ els := by simp [dJ,lG,Function.comp_def]
theorem Lu (ρ : List (Nat × Nat)) (p : Nat) (lens : List Nat) : (jd p lens).map (·.map (lG ρ)) = jd (Fw.rn ρ p) lens := by
 refine List.ext_getElem? fun j => ?_
 simp only [jd,List.getElem?_map,List.getElem?_mapIdx,Option.map_map]
 cases lens[j]? <;> simp [lG]
theorem Ls {zs : List Nat} {e : TypeId} {p : Nat} {lens : List Nat} (hz : okO zs (.gY e p lens) = true) : (jd p lens).all (·.all (lD zs)) = true :=
 List.all_eq_true.2 fun cs hcs => by
  obtain ⟨j,l,rfl⟩ := BH hcs
  simpa [lD,okO] using hz
theorem dM.rn {n : Nat} {e : TypeId} {els : List (List CV)} (hn : n ∈ keys ρ) (hz : els.all (·.all (lD (keys ρ))) = true) (hg : ∀ n ∈ keys ρ,g' (Fw.rn ρ n) = g n) (h : dM P w R B g n e els) : dM P w R B g' (Fw.rn ρ n) e (els.map (·.map (lG ρ))) := by
 rcases h with ⟨h1,h2⟩ | ⟨b,cur,h1,h2,h3,h4,h5⟩
 ·exact .inl ⟨(hg n hn).trans h1,by simp [h2]⟩
 ·refine .inr ⟨b,cur,(hg n hn).trans h1,h2,fun cs hcs => ?_,by simpa using h4,fun j k cs x hj hk => ?_⟩
  ·obtain ⟨c0,hc0,rfl⟩ := List.mem_map.1 hcs
   simpa using h3 c0 hc0
  ·rw [List.getElem?_map] at hj
   cases hc : els[j]? with
   | none => rw [hc] at hj; cases hj
   | some cs0 =>
    rw [hc] at hj
    injection hj with hj
    subst hj
    rw [List.getElem?_map] at hk
    cases hc2 : cs0[k]? with
    | none => rw [hc2] at hk; cases hk
    | some y =>
     rw [hc2] at hk
     injection hk with hk
     subst hk
     obtain ⟨u,h6,h7⟩ := h5 j k cs0 y hc hc2
     exact ⟨u,h6,h7.rn (List.all_eq_true.1 (List.all_eq_true.1 hz cs0 (List.mem_of_getElem? hc)) y (List.mem_of_getElem? hc2)) hg⟩
theorem RO.rn {n : Nat} {o : Ob} (hn : n ∈ keys ρ) (hz : okO (keys ρ) o = true) (hg : ∀ n ∈ keys ρ,g' (Fw.rn ρ n) = g n) (h : RO P w R B g n o) : RO P w R B g' (Fw.rn ρ n) (Bg ρ o) := by
 cases o with
 | row e els => exact dM.rn hn hz hg h
 | dF e els =>
  have := dM.rn hn (by simp [dJ,List.all_eq_true,lD]) hg (els := dJ els) h
  rwa [LG] at this
 | mp es =>
  obtain ⟨b,jo,clock,h1,h2⟩ := h
  exact ⟨b,jo,clock,(hg n hn).trans h1,h2⟩
 | pool e rows =>
  obtain ⟨⟨bs,h1,h2⟩,h3⟩ := h
  exact ⟨⟨bs,(hg n hn).trans h1,h2⟩,by rw [hg n hn]; exact h3⟩
 | gY e p lens =>
  have := dM.rn hn (Ls hz) hg (els := jd p lens) h
  rwa [Lu] at this
 | unk => trivial
theorem LM {n : Nat} (h : n ∈ keys ρ) : ∃ k,lk ρ n = some k ∧ (n,k) ∈ ρ := by
 induction ρ with
 | nil => simp [keys] at h
 | cons p r ih =>
  obtain ⟨a,b⟩ := p
  show ∃ k,(bif Nat.beq a n then some b else lk r n) = some k ∧ _
  cases hb : Nat.beq a n with
  | true => have := Nat.eq_of_beq_eq_true hb; subst this; exact ⟨b,rfl,List.mem_cons_self⟩
  | false =>
   have hne := Nat.ne_of_beq_eq_false hb
   have : n ∈ keys r := by
    simp [keys] at h
    rcases h with h | h
    ·exact absurd h.symm hne
    ·exact List.mem_map.2 (by simpa using h)
   obtain ⟨k,h1,h2⟩ := ih this
   exact ⟨k,h1,List.mem_cons_of_mem _ h2⟩
def nodup : List Nat → Bool
 | [] => true
 | n :: r => !r.elem n && nodup r
theorem KN : ∀ {ρ : List (Nat × Nat)},nodup (ρ.map (·.2)) = true → ∀ p q,p ∈ ρ → q ∈ ρ → p.2 = q.2 → p = q
 | [],_,_,_,h,_,_ => by cases h
 | x :: r,hn,p,q,hp,hq,he => by
  unfold nodup at hn
  simp only [List.map_cons,Bool.and_eq_true,Bool.not_eq_true'] at hn
  have hx := ji hn.1
  cases hp with
  | head =>
   cases hq with
   | head => rfl
   | tail _ hq => exact absurd (List.mem_map.2 ⟨q,hq,he.symm⟩) hx
  | tail _ hp =>
   cases hq with
   | head => exact absurd (List.mem_map.2 ⟨p,hp,he⟩) hx
   | tail _ hq => exact KN hn.2 p q hp hq he
theorem LK (hn : nodup (ρ.map (·.2)) = true) {n k : Nat} (h1 : n ∈ keys ρ) (h2 : k ∈ keys ρ) (h : rn ρ n = rn ρ k) : n = k := by
 obtain ⟨a,ha,hma⟩ := LM h1
 obtain ⟨b,hb,hmb⟩ := LM h2
 unfold rn at h
 rw [ha,hb] at h
 have := KN hn _ _ hma hmb h
 injection this
theorem RC.un {x : CV} {v : Value} (hz : lD (keys ρ) x = true) (hg : ∀ n ∈ keys ρ,g' n = g (Fw.rn ρ n)) (h : RC P w R B g (lG ρ x) v) : RC P w R B g' x v := by
 refine ⟨h.1,?_⟩
 have h2 := h.2
 cases x with
 | pv p => exact h2
 | px q cells => exact h2
 | loc n off len =>
  have hn := hg n (List.mem_of_elem_eq_true hz)
  rcases h2 with ⟨h3,h4⟩ | h3 | ⟨b,cap,cur,e,h3,h4⟩
  ·exact .inl ⟨hn.trans h3,h4⟩
  ·exact .inr (.inl h3)
  ·exact .inr (.inr ⟨b,cap,cur,e,hn.trans h3,h4⟩)
 | pl n off =>
  obtain ⟨b,h3,h4⟩ := h2
  exact ⟨b,(hg n (List.mem_of_elem_eq_true hz)).trans h3,h4⟩
 | fn f caps =>
  obtain ⟨vs,h3,h4,h5⟩ := h2
  refine ⟨vs,h3,by simpa using h4,fun k n hk => ?_⟩
  obtain ⟨b,h6,h7⟩ := h5 k (Fw.rn ρ n) (by rw [List.getElem?_map,hk]; rfl)
  exact ⟨b,(hg n (List.mem_of_elem_eq_true (List.all_eq_true.1 hz n (List.mem_of_getElem? hk)))).trans h6,h7⟩
 | mref n =>
  obtain ⟨b,h3,h4⟩ := h2
  exact ⟨b,(hg n (List.mem_of_elem_eq_true hz)).trans h3,h4⟩
 | tl p k off len =>
  have hn := hg p (List.mem_of_elem_eq_true hz)
  rcases h2 with ⟨h3,h4⟩ | h3 | ⟨b,cap,cur,e,h3,h4⟩
  ·exact .inl ⟨by rw [hn]; exact h3,h4⟩
  ·exact .inr (.inl h3)
  ·exact .inr (.inr ⟨b,cap,cur,e,by rw [hn]; exact h3,h4⟩)
 | tpl p k off =>
  obtain ⟨b,h3,h4⟩ := h2
  exact ⟨b,by rw [hg p (List.mem_of_elem_eq_true hz)]; exact h3,h4⟩
 | junk => trivial
theorem Oh {xs : List CV} {vs : List Value} (hz : xs.all (lD (keys ρ)) = true) (hg : ∀ n ∈ keys ρ,g' n = g (Fw.rn ρ n)) (h : ∀ (k : Nat) x,(xs.map (lG ρ))[k]? = some x → ∃ u,vs[k]? = some u ∧ RC P w R B g x u) :
  ∀ (k : Nat) x,xs[k]? = some x → ∃ u,vs[k]? = some u ∧ RC P w R B g' x u := fun k x hk => by
 obtain ⟨u,h4,h5⟩ := h k (lG ρ x) (by rw [List.getElem?_map,hk]; rfl)
 exact ⟨u,h4,h5.un (List.all_eq_true.1 hz x (List.mem_of_getElem? hk)) hg⟩
theorem RS.un {x : SV} {v : Value} (hz : okS (keys ρ) x = true) (hg : ∀ n ∈ keys ρ,g' n = g (Fw.rn ρ n)) (h : RS P w R B g (wU ρ x) v) : RS P w R B g' x v := by
 cases x with
 | c x => exact RC.un hz hg h
 | agg cs =>
  obtain ⟨vs,h1,h2,h3⟩ := h
  exact ⟨vs,h1,by simpa using h2,Oh hz hg h3⟩
theorem dM.un {n : Nat} {e : TypeId} {els : List (List CV)} (hn : n ∈ keys ρ) (hz : els.all (·.all (lD (keys ρ))) = true) (hg : ∀ n ∈ keys ρ,g' n = g (Fw.rn ρ n)) (h : dM P w R B g (Fw.rn ρ n) e (els.map (·.map (lG ρ)))) : dM P w R B g' n e els := by
 rcases h with ⟨h1,h2⟩ | ⟨b,cur,h1,h2,h3,h4,h5⟩
 ·exact .inl ⟨(hg n hn).trans h1,by simpa using h2⟩
 ·refine .inr ⟨b,cur,(hg n hn).trans h1,h2,fun cs hcs => ?_,by simpa using h4,fun j k cs x hj hk => ?_⟩
  ·have := h3 (cs.map (lG ρ)) (List.mem_map.2 ⟨cs,hcs,rfl⟩)
   simpa using this
  ·obtain ⟨u,h6,h7⟩ := h5 j k (cs.map (lG ρ)) (lG ρ x) (by rw [List.getElem?_map,hj]; rfl) (by rw [List.getElem?_map,hk]; rfl)
   exact ⟨u,h6,h7.un (List.all_eq_true.1 (List.all_eq_true.1 hz cs (List.mem_of_getElem? hj)) x (List.mem_of_getElem? hk)) hg⟩
theorem RO.un {n : Nat} {o : Ob} (hn : n ∈ keys ρ) (hz : okO (keys ρ) o = true) (hg : ∀ n ∈ keys ρ,g' n = g (Fw.rn ρ n)) (h : RO P w R B g (Fw.rn ρ n) (Bg ρ o)) : RO P w R B g' n o := by
 cases o with
 | row e els => exact dM.un hn hz hg h
 | dF e els => exact dM.un hn (by simp [dJ,List.all_eq_true,lD]) hg (els := dJ els) (by rw [LG]; exact h)
 | mp es =>
  obtain ⟨b,jo,clock,h1,h2⟩ := h
  exact ⟨b,jo,clock,(hg n hn).trans h1,h2⟩
 | pool e rows =>
  obtain ⟨⟨bs,h1,h2⟩,h3⟩ := h
  exact ⟨⟨bs,(hg n hn).trans h1,h2⟩,by rw [hg n hn]; exact h3⟩
 | gY e p lens => exact dM.un hn (Ls hz) hg (els := jd p lens) (by rw [Lu]; exact h)
 | unk => trivial
theorem Fn.ren {f : FuncId} {args : List SV} {us df : Mem} {v : AV} {W X : List Nat} (ρ : List (Nat × Nat)) (h : Fn P f args us v df W X)
  (hc : (nodup (ρ.map (·.2)) && args.all (okS (keys ρ)) && us.all (fun p => (keys ρ).elem p.1 && okO (keys ρ) p.2) && okA (keys ρ) v && df.all (fun p => (keys ρ).elem p.1 && okO (keys ρ) p.2) && dS W (keys ρ) && dS X (keys ρ)) = true) :
  Fn P f (args.map (wU ρ)) (LJ ρ us) (LH ρ v) (LJ ρ df) (W.map (rn ρ)) (X.map (rn ρ)) := by
 simp only [Bool.and_eq_true] at hc
 obtain ⟨⟨⟨⟨⟨⟨hnd,hargs⟩,hus⟩,hv⟩,hdf⟩,hW⟩,hX⟩ := hc
 have xO := nI hW
 have Pm := nI hX
 intro R B g w vs hw hlen hvs SC
 classical
 let gc : Nat → GS := fun n => if n ∈ keys ρ then g (rn ρ n) else .dead
 have hgc : ∀ n ∈ keys ρ,gc n = g (rn ρ n) := fun n hn => if_pos hn
 have hgd : ∀ n,gc n ≠ .dead → n ∈ keys ρ := fun n h => by
  by_cases hn : n ∈ keys ρ
  ·exact hn
  ·exact absurd (if_neg hn) h
 have hgk : ∀ n b,(gc n).has b → n ∈ keys ρ := fun n b h => hgd n fun e => by rw [e] at h; exact h
 have hwc : WF R B gc w := ⟨hw.rb,hw.lt,fun n b hg => by
  have hn := hgk n b hg
  rw [hgc n hn] at hg
  exact hw.iV _ b hg,fun n k b h1 h2 => by
  have hn := hgk n b h1
  have hk := hgk k b h2
  rw [hgc n hn] at h1
  rw [hgc k hk] at h2
  exact LK hnd hn hk (hw.jV _ _ b h1 h2),fun n j k b h1 h2 => by
  have hn := hgd n fun e => by rw [e] at h1; cases h1
  rw [hgc n hn] at h1 h2
  exact hw.nd _ j k b h1 h2⟩
 refine (h R B gc w vs hwc (by simpa using hlen) (fun k x hk => ?_) (fun p hp => ?_)).mono fun e w' hp => ?_
 ·obtain ⟨u,h1,h2⟩ := hvs k (wU ρ x) (by rw [List.getElem?_map,hk]; rfl)
  exact ⟨u,h1,h2.un (List.all_eq_true.1 hargs x (List.mem_of_getElem? hk)) hgc⟩
 ·have h1 := List.all_eq_true.1 hus p hp
  simp only [Bool.and_eq_true] at h1
  exact RO.un (List.mem_of_elem_eq_true h1.1) h1.2 hgc (SC (rn ρ p.1,Bg ρ p.2) (List.mem_map.2 ⟨p,hp,rfl⟩))
 ·obtain ⟨u,R',B',g',rfl,had,hR,hvv,QV⟩ := hp
  let g2 : Nat → GS := fun n => if h : ∃ k,k ∈ keys ρ ∧ rn ρ k = n then g' h.choose else g n
  have hin : ∀ k ∈ keys ρ,g2 (rn ρ k) = g' k := fun k hk => by
   have hex : ∃ j,j ∈ keys ρ ∧ rn ρ j = rn ρ k := ⟨k,hk,rfl⟩
   show (if h : ∃ j,j ∈ keys ρ ∧ rn ρ j = rn ρ k then g' h.choose else g (rn ρ k)) = g' k
   rw [dif_pos hex]
   have := hex.choose_spec
   rw [LK hnd this.1 hk this.2]
  have hout : ∀ n,(¬ ∃ k,k ∈ keys ρ ∧ rn ρ k = n) → g2 n = g n := fun n hn => dif_neg hn
  have Ph : ∀ b,R' b → b < w'.heap.size := fun b hb => had.wf.lt b (had.wf.rb b hb)
  have xU : ∀ n k b,(¬ ∃ k,k ∈ keys ρ ∧ rn ρ k = n) → k ∈ keys ρ → (g n).has b → (g' k).has b → False := fun n k b hn hk h1 h2 => by
   by_cases hkX : k ∈ X
   ·rcases had.fresh k hkX b h2 with h3 | ⟨m,hm,h3⟩
    ·exact absurd (hw.iV n b h1).2 (by omega)
    ·rw [hgc m (xO m hm)] at h3
     exact hn ⟨m,xO m hm,hw.jV _ _ b h3 h1⟩
   ·rw [had.names k hkX,hgc k hk] at h2
    exact hn ⟨k,hk,hw.jV _ _ b h2 h1⟩
  have hwf : WF R' (fun b => B b ∨ R' b) g2 w' := by
   refine ⟨fun b hb => .inr hb,fun b hb => hb.elim (fun hb => Nat.lt_of_lt_of_le (hw.lt b hb) had.size) (Ph b),fun n b hg => ?_,fun n k b hn hk => ?_,fun n i j b hi hj => ?_⟩
   ·by_cases hn : ∃ k,k ∈ keys ρ ∧ rn ρ k = n
    ·obtain ⟨k,hk,rfl⟩ := hn
     rw [hin k hk] at hg
     have h1 := had.wf.iV k b hg
     exact ⟨fun hB => h1.1 (hB.elim (had.b b) (had.wf.rb b)),h1.2⟩
    ·rw [hout n hn] at hg
     have h1 := hw.iV n b hg
     refine ⟨fun hB => ?_,Nat.lt_of_lt_of_le h1.2 had.size⟩
     rcases hB with hB | hB
     ·exact h1.1 hB
     ·rcases hR b hB with h2 | h2
      ·exact h1.1 (hw.rb b h2)
      ·exact absurd h1.2 (by omega)
   ·by_cases h1 : ∃ j,j ∈ keys ρ ∧ rn ρ j = n <;> by_cases h2 : ∃ j,j ∈ keys ρ ∧ rn ρ j = k
    ·obtain ⟨n0,hn0,rfl⟩ := h1
     obtain ⟨k0,hk0,rfl⟩ := h2
     rw [hin n0 hn0] at hn
     rw [hin k0 hk0] at hk
     rw [had.wf.jV n0 k0 b hn hk]
    ·obtain ⟨n0,hn0,rfl⟩ := h1
     rw [hin n0 hn0] at hn
     rw [hout k h2] at hk
     exact (xU k n0 b h2 hn0 hk hn).elim
    ·obtain ⟨k0,hk0,rfl⟩ := h2
     rw [hin k0 hk0] at hk
     rw [hout n h1] at hn
     exact (xU n k0 b h1 hk0 hn hk).elim
    ·rw [hout n h1] at hn
     rw [hout k h2] at hk
     exact hw.jV n k b hn hk
   ·by_cases hn : ∃ k,k ∈ keys ρ ∧ rn ρ k = n
    ·obtain ⟨k,hk,rfl⟩ := hn
     rw [hin k hk] at hi hj
     exact had.wf.nd k i j b hi hj
    ·rw [hout n hn] at hi hj
     exact hw.nd n i j b hi hj
  have D8 : dW R B g w (W.map (rn ρ)) (X.map (rn ρ)) R' (fun b => B b ∨ R' b) g2 w' := by
   refine ⟨hwf,had.r,fun b hb => .inl hb,had.os,had.tape,had.output,had.size,fun b hb jU => had.heap b hb fun n hn => ?_,fun n hn => ?_,fun n hn b hb => ?_,fun n jU xW b cur e hg hh => ?_⟩
   ·rw [hgc n (xO n hn)]
    exact jU _ (List.mem_map.2 ⟨n,hn,rfl⟩)
   ·by_cases h1 : ∃ k,k ∈ keys ρ ∧ rn ρ k = n
    ·obtain ⟨k,hk,rfl⟩ := h1
     rw [hin k hk,had.names k fun hkX => hn (List.mem_map.2 ⟨k,hkX,rfl⟩),hgc k hk]
    ·exact hout n h1
   ·obtain ⟨k,hkX,rfl⟩ := List.mem_map.1 hn
    rw [hin k (Pm k hkX)] at hb
    rcases had.fresh k hkX b hb with h3 | ⟨m,hm,h3⟩
    ·exact .inl h3
    ·rw [hgc m (xO m hm)] at h3
     exact .inr ⟨rn ρ m,List.mem_map.2 ⟨m,hm,rfl⟩,h3⟩
   ·obtain ⟨k,hkW,rfl⟩ := List.mem_map.1 jU
    exact had.shape k hkW (fun hkX => xW (List.mem_map.2 ⟨k,hkX,rfl⟩)) b cur e (by rw [hgc k (xO k hkW)]; exact hg) hh
  refine ⟨u,R',_,g2,rfl,D8,hR,hvv.rn hv hin,fun p hp => ?_⟩
  obtain ⟨q,hq,rfl⟩ := List.mem_map.1 hp
  have h1 := List.all_eq_true.1 hdf q hq
  simp only [Bool.and_eq_true] at h1
  exact RO.rn (List.mem_of_elem_eq_true h1.1) h1.2 hin (QV q hq)
end
end Go.Fw
end
section
set_option linter.unusedVariables false
set_option linter.unusedSimpArgs false
set_option linter.unnecessarySimpa false
namespace Go.Fw
section
variable {P : Program} {o : Oper} {α : Type} {enc : α → List PV}
theorem LT.jC {x : Operand} {t e : TypeId} {q : Bool} {xs : List α} (ho : o.op = .call { callee := .builtin .len,args := #[x],argTypes := #[t] }) (ht : P.underlying t = some (.slice e)) :
  LT P o [(x,Cc (.pv (.xs q (xs.map enc))))] [] (Iv xs.length) [] [] [] := by
 have := LT.UG (P := P) (o := o) (q := q) (els := xs.map enc) ho ht
 rwa [List.length_map] at this
theorem LT.eX {x y : Operand} {t e : TypeId} {i : Int} {q : Bool} {xs : List α} {b : α} (ho : o.op = .indexAddr t x y) (h : ng P t = some e) (hi : idx xs i = some b) (hs : bH P e = (enc b).length) :
  LT P o [(x,Cc (.pv (.xs q (xs.map enc)))),(y,Iv i)] [] (Cc (.px q (enc b))) [] [] [] :=
 LT.Tf ho h (Es hi) (by rw [List.getElem?_map,Ep hi]; rfl) hs.symm
theorem LT.fK {x y : Operand} {t e : TypeId} {i : Int} {n len : Nat} {xs : List α} {b : α} (hl : len = xs.length) (ho : o.op = .indexAddr t x y) (h : ng P t = some e) (hi : idx xs i = some b) :
  LT P o [(x,Cc (.loc n 0 len)),(y,Iv i)] [(n,.dF e (xs.map enc))] (Cc (.pl n (i.toNat * bH P e))) [] [] [] := by
 subst hl
 exact LT.CW (LT.Td ho h (Es hi) (TU hi))
theorem Fv {xs : List α} {i : Int} {b : α} (hi : idx xs i = some b) : (dJ (xs.map enc))[i.toNat]? = some ((enc b).map .pv) := by
 simp [dJ,List.getElem?_map,Ep hi]
theorem LT.je {x : Operand} {t e : TypeId} {n off k : Nat} {i : Int} {xs : List α} {b : α} {p : PV} (ho : o.op = .load t x) (h : iQ P t = some false) (hi : idx xs i = some b) (hk : (enc b)[k]? = some p)
  (ha : off = i.toNat * bH P e + k) : LT P o [(x,Cc (.pl n off))] [(n,.dF e (xs.map enc))] (Cc (.pv p)) [] [] [] :=
 LT.CW (LT.J4 ho h (Fv hi) (by rw [List.getElem?_map,hk]; rfl) ha)
theorem LT.Gg {x : Operand} {t e : TypeId} {n off s : Nat} {i : Int} {xs : List α} {b : α} {it : TypeInfo} (ho : o.op = .load t x) (h : iQ P t = some true) (hit : P.info? t = some it) (hs : bH P t = s) (hi : idx xs i = some b) (hl : (enc b).length = s)
  (ha : off = i.toNat * bH P e) : LT P o [(x,Cc (.pl n off))] [(n,.dF e (xs.map enc))] (Ag ((enc b).map .pv)) [] [] [] := by
 have hd : ((((enc b).map CV.pv).drop 0).take (bH P t)) = (enc b).map CV.pv := by
  rw [List.drop_zero,List.take_of_length_le]
  rw [List.length_map,hl,hs]; exact Nat.le_refl _
 have := LT.J5 (P := P) (o := o) (n := n) (e := e) (k := 0) ho h hit (Fv (enc := enc) hi) ha (by rw [hd,List.length_map,hl,hs])
 rw [hd] at this
 exact LT.CW this
theorem LT.xA {x : Operand} {t e : TypeId} {n off : Nat} {cs : List CV} {c : CV} (ho : o.op = .load t x) (h : iQ P t = some false) (hk : cs[off]? = some c) : LT P o [(x,Cc (.pl n off))] [(n,.row e [cs])] (Cc c) [] [] [] :=
 LT.J4 (j := 0) ho h rfl hk (by rw [Nat.zero_mul,Nat.zero_add])
theorem LT.Na {x : Operand} {t e : TypeId} {n off s : Nat} {cs out : List CV} {it : TypeInfo} (ho : o.op = .load t x) (h : iQ P t = some true) (hit : P.info? t = some it) (hs : bH P t = s) (ho2 : (cs.drop off).take s = out) (hl : out.length = s) :
  LT P o [(x,Cc (.pl n off))] [(n,.row e [cs])] (Ag out) [] [] [] := by
 have hd : ((cs.drop off).take (bH P t)) = out := by rw [hs,ho2]
 have := LT.J5 (P := P) (o := o) (n := n) (off := off) (e := e) (els := [cs]) (j := 0) (k := off) ho h hit rfl (by rw [Nat.zero_mul,Nat.zero_add]) (by rw [hd,hl,hs])
 rwa [hd] at this
theorem LT.Hl {t e : TypeId} {n off s : Nat} {x y : Operand} {cs out : List CV} {v : SV} {it : TypeInfo} (ho : o.op = .store t x y) (hd : o.dst = none) (hit : P.info? t = some it) (hs : bH P t = s) (hl : (iZ v).length = s) (hk : off + s ≤ cs.length)
  (hout : ow cs off (iZ v) = out) : LT P o [(x,Cc (.pl n off)),(y,.s v)] [(n,.row e [cs])] (.cZ []) [(n,.row e [out])] [n] [] := by
 have := LT.store (P := P) (o := o) (n := n) (off := off) (e := e) (els := [cs]) (j := 0) (k := off) ho hd hit hs hl rfl (by rw [Nat.zero_mul,Nat.zero_add]) hk
 subst hout
 exact this
theorem LT.lX {t e : TypeId} {n off k s : Nat} {x y : Operand} {i : Int} {xs : List α} {b b' : α} {v : SV} {it : TypeInfo} (ho : o.op = .store t x y) (hd : o.dst = none) (hit : P.info? t = some it) (hs : bH P t = s) (hl : (iZ v).length = s) (hi : idx xs i = some b)
  (ha : off = i.toNat * bH P e + k) (hk : k + s ≤ (enc b).length) (hb : ow ((enc b).map .pv) k (iZ v) = (enc b').map .pv) :
  LT P o [(x,Cc (.pl n off)),(y,.s v)] [(n,.dF e (xs.map enc))] (.cZ []) [(n,.dF e ((xs.set i.toNat b').map enc))] [n] [] := by
 have := LT.store (P := P) (o := o) (n := n) (off := off) (e := e) (els := dJ (xs.map enc)) ho hd hit hs hl (Fv hi) ha (by simpa using hk)
 have e1 : (dJ (xs.map enc)).set i.toNat (ow ((enc b).map .pv) k (iZ v)) = dJ ((xs.set i.toNat b').map enc) := by
  rw [hb]
  simp [dJ,List.map_set]
 rw [e1] at this
 exact LT.xC (Y := []) (LT.CW (by rw [zF]; exact this))
section
variable {t e : TypeId} {x y : Operand} {n n2 len Jq : Nat} {xs ys : List α} {z : Value} {s kZ : Nat} {q : Bool}
theorem Ia (h : ∀ a,(enc a).length = s) : ∀ cs ∈ ys.map enc,cs.length = s := fun cs hcs => by
 obtain ⟨a,_,rfl⟩ := List.mem_map.1 hcs
 exact h a
theorem LT.rM (hl : len = xs.length) (ho : o.op = .call { callee := .builtin .append,args := #[x,y],argTypes := #[t,t] }) (ht : P.underlying t = some (.slice e)) (hz : TI P e z s kZ) (hzs : z.cells.size = s) (hs : 0 < s) (hb : kZ ≤ 65536)
  (hl2 : ∀ a,(enc a).length = s) (hlim : xs.length + ys.length ≤ nK) :
  LT P o [(x,Cc (.loc n 0 len)),(y,Cc (.pv (.xs q (ys.map enc))))] [(n,.dF e (xs.map enc))] (Cc (.loc n 0 (xs ++ ys).length)) [(n,.dF e ((xs ++ ys).map enc))] [n] [n] := by
 subst hl
 have := LT.NV (P := P) (o := o) (n := n) (q := q) (gW := xs.map enc) (jH := ys.map enc) ho ht hz hzs hs hb (Ia hl2) (by simpa using hlim)
 rwa [List.length_map,List.length_map,← List.map_append,← List.length_append] at this
theorem LT.kY (hl : len = xs.length) (hl2 : Jq = ys.length) (ho : o.op = .call { callee := .builtin .append,args := #[x,y],argTypes := #[t,t] }) (ht : P.underlying t = some (.slice e)) (hz : TI P e z s kZ) (hzs : z.cells.size = s) (hs : 0 < s) (hb : kZ ≤ 65536)
  (hel : ∀ a,(enc a).length = s) (hlim : xs.length + ys.length ≤ nK) :
  LT P o [(x,Cc (.loc n 0 len)),(y,Cc (.loc n2 0 Jq))] [(n,.dF e (xs.map enc)),(n2,.dF e (ys.map enc))] (Cc (.loc n 0 (xs ++ ys).length)) [(n,.dF e ((xs ++ ys).map enc))] [n] [n] := by
 subst hl; subst hl2
 have := LT.NU (P := P) (o := o) (n := n) (n2 := n2) (gW := xs.map enc) (jH := ys.map enc) ho ht hz hzs hs hb (Ia hel) (by simpa using hlim)
 rwa [List.length_map,List.length_map,← List.map_append,← List.length_append] at this
end
theorem LT.gJ {t e : TypeId} {len n : Nat} {parts : Array (Nat × Operand)} (ps : Parts) {z : Value} {s b : Nat} {zc : List CV} (xs : List α) (ho : o.op = .buildSlice t len parts) (hps : parts.toList = Parts.ops ps) (he : P.underlying t = some (.slice e)) (hz : TI P e z s b)
  (hzc : z.cells.toList.map sC = zc) (h1 : z.cells.toList.all (·.oneCell') = true) (hsz : zc.length = s) (hlen : xs.length = len) (hmax : len * s ≤ 16777216 ∧ 0 < s) (hel : ∀ a,(enc a).length = s)
  (hf : uh (fun i => some (i * s,s)) ((List.range (len * s)).map fun i => zc.getD (i % s) .junk) (Parts.vals ps) = some (dJ (xs.map enc)).flatten) :
  LT P o (Parts.ins ps) [] (Cc (.loc n 0 xs.length)) [(n,.dF e (xs.map enc))] [] [n] := by
 have hlen' : (dJ (xs.map enc)).length = xs.length := by simp [dJ]
 have := LT.buildSlice (P := P) (o := o) (n := n) ps (els := dJ (xs.map enc)) ho hps he hz hzc h1 hsz (hlen'.trans hlen) hmax (by
  refine List.all_eq_true.2 fun cs hcs => ?_
  obtain ⟨c,hc,rfl⟩ := List.mem_map.1 hcs
  obtain ⟨a,_,rfl⟩ := List.mem_map.1 hc
  rw [List.length_map,hel a]
  exact Nat.beq_refl s) hf
 rw [hlen'] at this
 exact this.xC
theorem LT.Gh {t e : TypeId} {n : Nat} {x y : Operand} {len : Int} {z : Value} {s b : Nat} {zc : List CV} (a : α) (ho : o.op = .makeSlice t x y) (he : P.underlying t = some (.slice e)) (hz : TI P e z s b)
  (hzc : z.cells.toList.map sC = zc) (h1 : z.cells.toList.all (·.oneCell') = true) (hsz : zc.length = s) (hs : 0 < s) (hb : b ≤ 65536) (hl : 0 ≤ len ∧ len ≤ nK) (ha : (enc a).map .pv = zc) :
  LT P o [(x,Iv len),(y,Iv len)] [] (Cc (.loc n 0 (List.replicate len.toNat a).length)) [(n,.dF e ((List.replicate len.toNat a).map enc))] [] [n] := by
 have := LT.makeSlice (P := P) (o := o) (n := n) (x := x) (y := y) ho he hz hzc h1 hsz hs hb hl
 have e1 : List.replicate len.toNat zc = dJ ((List.replicate len.toNat a).map enc) := by simp [dJ,List.map_replicate,ha]
 have e2 : (List.replicate len.toNat zc).length = (List.replicate len.toNat a).length := by simp
 rw [e2,e1] at this
 exact this.xC
theorem lK.fF {sh : Mem} {n len : Nat} {e : TypeId} {xs : List α} (hl : len = xs.length) (h : lk sh n = some (.dF e (xs.map enc))) : lK sh (.loc n 0 len) (.pv (.xs false (xs.map enc))) := by
 subst hl
 have := lK.loc h
 rwa [List.length_map] at this
def rV (X : List Nat) : Mem → Prop
 | [] => True
 | (_,o) :: r => iT X o = o ∧ rV X r
theorem rV.spec {X : List Nat} : ∀ {us : Mem},rV X us → ∀ p ∈ us,iT X p.2 = p.2
 | [],_,p,hp => by cases hp
 | (n,o) :: r,h,p,hp => by
  cases hp with
  | head => exact h.1
  | tail _ hp => exact rV.spec h.2 p hp
theorem LT.Hq {cf : Operand} {f : FuncId} {ops : Array Operand} {ts : Array TypeId} {xs ys : List SV} {us sh df : Mem} {v : AV} {W X : List Nat} (hf : Fn P f ys us v df W X)
  (ho : o.op = .call { callee := .value cf,args := ops,argTypes := ts }) (hb : dL P f = true) (hsh : jX sh xs ys) (hlen : ops.size = xs.length)
  (hside : (jQ (keys sh) (W ++ X ++ keys us ++ keys df ++ []) && dS W (keys us)) = true) (hus : rV (keys sh) us) : LT P o ((cf,Cc (.fn f [])) :: zW ops.toList xs) (us ++ sh) v df W X :=
 LT.call (caps := []) (by rw [List.map_nil,List.append_nil]; exact hf) ho hb hlen hsh hside hus.spec
end
section
variable {P : Program} {C : Ctx} {σ : Slots} {m : Mem}
theorem St.KI {R B : Nat → Prop} {g : Nat → GS} {a : Act} {w : World} (hs : St P C σ m R B g a w) (n : Nat) (hn : n ∉ C.pn) (e : TypeId) : St P C (jE [n] σ) ((n,.dF e []) :: gG [n] m) R B (upd g n .nil) a w := by
 have had : dW R B g w [] [n] R B (upd g n .nil) w := by
  refine ⟨hs.wf.upd n _ (Nat.le_refl _) (fun b hb => hb.elim) (fun i j b hi => by cases hi),fun _ h => h,fun _ h => h,rfl,rfl,rfl,Nat.le_refl _,fun _ _ _ => rfl,fun k hk => upd_ne g _ (by simpa using hk),fun k hk b hb => ?_,fun k hk => by cases hk⟩
  ·have : k = n := by simpa using hk
   subst this
   rw [upd_same] at hb; exact hb.elim
 exact hs.step (us := []) (df := [(n,.dF e [])]) (W := []) (X := [n]) (d := none) (v := .cZ []) (u := undef) trivial (fun _ h => by cases h) (fun p hp => by
   have : p = (n,.dF e []) := by simpa using hp
   subst this; exact .inl (by simp)) rfl (fun k hk => by
   have : k = n := by simpa using hk
   subst this; exact hn) had (fun b hb => .inl hb) (fun h => by cases h) (BK (.inl ⟨upd_same ..,rfl⟩))
def uD (n k : Nat) (cs : List CV) : List CV := cs.set k (.loc n 0 0)
theorem UZ {w : World} {R B : Nat → Prop} {g : Nat → GS} {n k : Nat} {cs : List CV} {us : Nat → Option Value} (hg : g n = .nil) (hk : cs[k]? = some (sC aO)) (h : ∀ (j : Nat) x,cs[j]? = some x → ∃ u,us j = some u ∧ RC P w R B g x u) :
  ∀ (j : Nat) x,(uD n k cs)[j]? = some x → ∃ u,us j = some u ∧ RC P w R B g x u := fun j x hj => by
 unfold uD at hj
 rw [List.getElem?_set] at hj
 by_cases hkj : k = j
 ·subst hkj
  have hlt : k < cs.length := (List.getElem?_eq_some_iff.1 hk).1
  rw [if_pos rfl,if_pos hlt] at hj
  injection hj with hj
  subst hj
  obtain ⟨u,h1,h2⟩ := h k _ hk
  obtain ⟨_,h2⟩ := h2
  cases h2
  exact ⟨aO,h1,rfl,.inl ⟨hg,rfl,rfl,rfl⟩⟩
 ·rw [if_neg hkj] at hj
  exact h j x hj
theorem UC {n k : Nat} {cs : List CV} (h : cs[k]? = some (sC aO)) : (cs.map (au [n]))[k]? = some (sC aO) := by rw [List.getElem?_map,h]; rfl
theorem aU.nO (b k n : Nat) (e : TypeId) {t : TypeId} {cs : List CV} (hn : C.pn.elem n = false) (hbn : Nat.beq b n = false) (h : lk m b = some (.row t [cs])) (hk : cs[k]? = some (sC aO)) :
  aU P C σ m (jE [n] σ) ((b,.row t [uD n k (cs.map (au [n]))]) :: (n,.dF e []) :: gG [n] m) := fun R B g a w hs => by
 have h1 := hs.KI n (ji hn) e
 have hne : b ≠ n := Nat.ne_of_beq_eq_false hbn
 have hlk : lk ((n,Ob.dF e []) :: gG [n] m) b = some (.row t [cs.map (au [n])]) := by
  show (bif Nat.beq n b then some (Ob.dF e []) else lk (gG [n] m) b) = _
  have hnb : Nat.beq n b = false := by
   cases hx : Nat.beq n b with
   | false => rfl
   | true => exact absurd (Nat.eq_of_beq_eq_true hx).symm hne
  rw [hnb,cond_false,Ar,if_neg (by simpa using hne),h]
  rfl
 refine ⟨R,B,_,{ h1 with ob := fun j o hj => ?_,ow := fun j o c hj hg => ?_ }⟩
 ·change (bif Nat.beq b j then some (Ob.row t [uD n k (cs.map (au [n]))]) else lk ((n,Ob.dF e []) :: gG [n] m) j) = some o at hj
  cases hb : Nat.beq b j with
  | false => rw [hb] at hj; exact h1.ob j o hj
  | true =>
   rw [hb,cond_true] at hj
   injection hj with hj
   subst hj
   have := Nat.eq_of_beq_eq_true hb
   subst this
   have h2 := h1.ob b _ hlk
   rcases h2 with ⟨_,h3⟩ | ⟨c,cur,h3,h4,h5,h6,h7⟩
   ·cases h3
   ·refine .inr ⟨c,cur,h3,h4,fun x hx => ?_,by simpa using h6,fun j k' x y hj hk' => ?_⟩
    ·have : x = uD n k (cs.map (au [n])) := by simpa using hx
     subst this
     have := h5 (cs.map (au [n])) (by simp)
     simpa [uD] using this
    ·cases j with
     | zero =>
      simp at hj
      subst hj
      exact UZ (us := fun k' => cur[0 * bH P t + k']?) (upd_same ..) (UC hk) (fun q y hq => h7 0 q _ y rfl hq) k' y hk'
     | succ j => simp at hj
 ·change (bif Nat.beq b j then some (Ob.row t [uD n k (cs.map (au [n]))]) else lk ((n,Ob.dF e []) :: gG [n] m) j) = some o at hj
  cases hb : Nat.beq b j with
  | false => rw [hb] at hj; exact h1.ow j o c hj hg
  | true =>
   have := Nat.eq_of_beq_eq_true hb
   subst this
   exact h1.ow b _ c hlk hg
end
end Go.Fw
end
section
set_option linter.unusedVariables false
set_option linter.unusedSimpArgs false
set_option linter.unnecessarySimpa false
namespace Go.Fw
def mD (n k j : Nat) : Nat := bif Nat.beq j n then k else j
def oZ (n k : Nat) : CV → CV
 | .loc j o l => .loc (mD n k j) o l
 | .pl j o => .pl (mD n k j) o
 | .fn f caps => .fn f (caps.map (mD n k))
 | .mref j => .mref (mD n k j)
 | .tl j i o l => .tl (mD n k j) i o l
 | .tpl j i o => .tpl (mD n k j) i o
 | x => x
def FN (n k : Nat) : SV → SV
 | .c x => .c (oZ n k x)
 | .agg cs => .agg (cs.map (oZ n k))
def y7 (n k : Nat) : AV → AV
 | .s x => .s (FN n k x)
 | .cZ xs => .cZ (xs.map (FN n k))
def BJ (n k : Nat) : Ob → Ob
 | .row e els => .row e (els.map (·.map (oZ n k)))
 | .dF e els => .dF e els
 | .mp es => .mp es
 | .pool e rows => .pool e rows
 | .gY e p lens => .gY e (mD n k p) lens
 | .unk => .unk
def FO (n k : Nat) (σ : Slots) : Slots := σ.map fun p => (p.1,y7 n k p.2)
def KF (n k : Nat) (m : Mem) : Mem := m.map fun p => (mD n k p.1,BJ n k p.2)
def lT (n k : Nat) (g : Nat → GS) : Nat → GS := fun j => if j = k then g n else if j = n then .dead else g j
theorem qy {n k j : Nat} (g : Nat → GS) (hj : j ≠ k) : lT n k g (mD n k j) = g j := by
 unfold mD
 cases hb : Nat.beq j n with
 | true =>
  have := Nat.eq_of_beq_eq_true hb
  subst this
  simp [lT]
 | false =>
  have := Nat.ne_of_beq_eq_false hb
  simp [lT,hj,this]
section
variable {P : Program} {w : World} {R B : Nat → Prop} {g : Nat → GS} {n k : Nat}
theorem tu {j k : Nat} (h : [k].elem j = false) : j ≠ k := by
 have := ji h
 simpa using this
theorem RC.mv {x : CV} {v : Value} (hz : fO [k] x = true) (h : RC P w R B g x v) : RC P w R B (lT n k g) (oZ n k x) v := by
 refine ⟨h.1,?_⟩
 have h2 := h.2
 cases x with
 | pv p => exact h2
 | px q cells => exact h2
 | loc j off len =>
  have hn := qy (n := n) g (tu (by simpa [fO] using hz))
  rcases h2 with ⟨h3,h4⟩ | h3 | ⟨b,cap,cur,e,h3,h4⟩
  ·exact .inl ⟨hn.trans h3,h4⟩
  ·exact .inr (.inl h3)
  ·exact .inr (.inr ⟨b,cap,cur,e,hn.trans h3,h4⟩)
 | pl j off =>
  obtain ⟨b,h3,h4⟩ := h2
  exact ⟨b,(qy g (tu (by simpa [fO] using hz))).trans h3,h4⟩
 | fn f caps =>
  obtain ⟨vs,h3,h4,h5⟩ := h2
  refine ⟨vs,h3,by simpa using h4,fun i j hk => ?_⟩
  rw [List.getElem?_map] at hk
  cases hc : caps[i]? with
  | none => rw [hc] at hk; cases hk
  | some n0 =>
   rw [hc] at hk
   injection hk with hk
   subst hk
   obtain ⟨b,h6,h7⟩ := h5 i n0 hc
   have hz' : caps.any [k].elem = false := by simpa [fO] using hz
   have hne : [k].elem n0 = false := by
    cases hx : [k].elem n0 with
    | false => rfl
    | true =>
     have : caps.any [k].elem = true := List.any_eq_true.2 ⟨n0,List.mem_of_getElem? hc,hx⟩
     rw [hz'] at this
     cases this
   exact ⟨b,(qy g (tu hne)).trans h6,h7⟩
 | mref j =>
  obtain ⟨b,h3,h4⟩ := h2
  exact ⟨b,(qy g (tu (by simpa [fO] using hz))).trans h3,h4⟩
 | tl j i off len =>
  have hn := qy (n := n) g (tu (by simpa [fO] using hz))
  rcases h2 with ⟨h3,h4⟩ | h3 | ⟨b,cap,cur,e,h3,h4⟩
  ·exact .inl ⟨by rw [hn]; exact h3,h4⟩
  ·exact .inr (.inl h3)
  ·exact .inr (.inr ⟨b,cap,cur,e,by rw [hn]; exact h3,h4⟩)
 | tpl j i off =>
  obtain ⟨b,h3,h4⟩ := h2
  exact ⟨b,by rw [qy (n := n) g (tu (by simpa [fO] using hz))]; exact h3,h4⟩
 | junk => trivial
theorem KR (X : List Nat) (x : CV) : fO X (au X x) = true := by
 cases x with
 | loc j o l => cases hx : X.elem j <;> simp only [fO,au,hx,cond_true,cond_false,Bool.not_false]
 | pl j o => cases hx : X.elem j <;> simp only [fO,au,hx,cond_true,cond_false,Bool.not_false]
 | fn f caps => cases hx : caps.any X.elem <;> simp only [fO,au,hx,cond_true,cond_false,Bool.not_false]
 | mref j => cases hx : X.elem j <;> simp only [fO,au,hx,cond_true,cond_false,Bool.not_false]
 | tl j i o l => cases hx : X.elem j <;> simp only [fO,au,hx,cond_true,cond_false,Bool.not_false]
 | tpl j i o => cases hx : X.elem j <;> simp only [fO,au,hx,cond_true,cond_false,Bool.not_false]
 | _ => rfl
theorem IK {xs : List CV} {us : Nat → Option Value} (h : ∀ (i : Nat) x,(xs.map (au [k]))[i]? = some x → ∃ u,us i = some u ∧ RC P w R B g x u) :
  ∀ (i : Nat) x,((xs.map (au [k])).map (oZ n k))[i]? = some x → ∃ u,us i = some u ∧ RC P w R B (lT n k g) x u := fun i x hi => by
 rw [List.getElem?_map] at hi
 cases hc : (xs.map (au [k]))[i]? with
 | none => rw [hc] at hi; cases hi
 | some y =>
  rw [hc] at hi
  injection hi with hi
  subst hi
  obtain ⟨u,h1,h2⟩ := h i y hc
  refine ⟨u,h1,h2.mv ?_⟩
  rw [List.getElem?_map] at hc
  cases hx : xs[i]? with
  | none => rw [hx] at hc; cases hc
  | some z =>
   rw [hx] at hc
   injection hc with hc
   subst hc
   exact KR _ _
theorem RS.mv {x : SV} {v : Value} (h : RS P w R B g (kC [k] x) v) : RS P w R B (lT n k g) (FN n k (kC [k] x)) v := by
 cases x with
 | c x => exact RC.mv (KR _ _) h
 | agg cs =>
  obtain ⟨vs,h1,h2,h3⟩ := h
  exact ⟨vs,h1,by simpa using h2,IK (us := fun i => vs[i]?) h3⟩
theorem RA.mv {x : AV} {v : Value} (h : RA P w R B g (jb [k] x) v) : RA P w R B (lT n k g) (y7 n k (jb [k] x)) v := by
 cases x with
 | s x => exact RS.mv h
 | cZ xs =>
  obtain ⟨vs,h1,h2,h3⟩ := h
  refine ⟨vs,h1,by simpa using h2,fun i x hi => ?_⟩
  rw [List.getElem?_map,List.getElem?_map] at hi
  cases hx : xs[i]? with
  | none => rw [hx] at hi; cases hi
  | some z =>
   rw [hx] at hi
   injection hi with hi
   subst hi
   obtain ⟨u,h4,h5⟩ := h3 i (kC [k] z) (by rw [List.getElem?_map,hx]; rfl)
   exact ⟨u,h4,h5.mv⟩
theorem RO.mv {j : Nat} {o : Ob} (hj : j ≠ k) (h : RO P w R B g j (iT [k] o)) : RO P w R B (lT n k g) (mD n k j) (BJ n k (iT [k] o)) := by
 have hg := qy (n := n) g hj
 have hrow : ∀ {e : TypeId} {els : List (List CV)},dM P w R B g j e (els.map (·.map (au [k]))) → dM P w R B (lT n k g) (mD n k j) e ((els.map (·.map (au [k]))).map (·.map (oZ n k))) := fun {e els} h => by
  rcases h with ⟨h1,h2⟩ | ⟨b,cur,h1,h2,h3,h4,h5⟩
  ·exact .inl ⟨hg.trans h1,by rw [h2]; rfl⟩
  ·refine .inr ⟨b,cur,hg.trans h1,h2,fun cs hcs => ?_,by simpa using h4,fun i q cs x hi hq => ?_⟩
   ·obtain ⟨c0,hc0,rfl⟩ := List.mem_map.1 hcs
    simpa using h3 c0 hc0
   ·rw [List.getElem?_map,List.getElem?_map] at hi
    cases hc : els[i]? with
    | none => rw [hc] at hi; cases hi
    | some c0 =>
     rw [hc] at hi
     injection hi with hi
     subst hi
     exact IK (us := fun q => cur[i * bH P e + q]?) (fun q y hq => h5 i q _ y (by rw [List.getElem?_map,hc]; rfl) hq) q x hq
 cases o with
 | row e els => exact hrow h
 | dF e els =>
  have h' : dM P w R B g j e ((dJ els).map (·.map (au [k]))) := by rw [zF]; exact h
  have := hrow h'
  rw [zF] at this
  have e1 : (dJ els).map (·.map (oZ n k)) = dJ els := by simp [dJ,oZ,Function.comp_def]
  rw [e1] at this
  exact this
 | mp es =>
  obtain ⟨b,jo,clock,h1,h2⟩ := h
  exact ⟨b,jo,clock,hg.trans h1,h2⟩
 | pool e rows =>
  obtain ⟨⟨bs,h1,h2⟩,h3⟩ := h
  exact ⟨⟨bs,hg.trans h1,h2⟩,by rw [hg]; exact h3⟩
 | gY e p lens =>
  change RO P w R B g j (bif [k].elem p then .unk else .gY e p lens) at h
  show RO P w R B (lT n k g) (mD n k j) (BJ n k (bif [k].elem p then .unk else .gY e p lens))
  cases hx : [k].elem p with
  | true => trivial
  | false =>
   rw [hx] at h
   have h' : dM P w R B g j e ((jd p lens).map (·.map (au [k]))) := by
    rw [Gf hx]
    exact h
   have := hrow h'
   rw [Gf hx] at this
   have e1 : (jd p lens).map (·.map (oZ n k)) = jd (mD n k p) lens := by
    refine List.ext_getElem? fun i => ?_
    simp only [jd,List.getElem?_map,List.getElem?_mapIdx,Option.map_map]
    cases lens[i]? <;> simp [oZ]
   rw [e1] at this
   exact this
 | unk => trivial
end
section
variable {P : Program} {C : Ctx} {σ : Slots} {m : Mem} {n k : Nat}
theorem Jz (n k : Nat) : ∀ (σ : Slots) (t : Nat),lk (FO n k σ) t = (lk σ t).map (y7 n k)
 | [],_ => rfl
 | (j,v) :: r,t => by
  show (bif Nat.beq j t then some (y7 n k v) else lk (FO n k r) t) = Option.map (y7 n k) (bif Nat.beq j t then some v else lk r t)
  cases Nat.beq j t
  ·exact Jz n k r t
  ·rfl
theorem KC {m : Mem} {j : Nat} {o : Ob} (h : lk (KF n k m) j = some o) : ∃ j0 o0,(j0,o0) ∈ m ∧ j = mD n k j0 ∧ o = BJ n k o0 := by
 obtain ⟨p,hp,he⟩ := List.mem_map.1 (qV h)
 injection he with h1 h2
 exact ⟨p.1,p.2,hp,h1.symm,h2.symm⟩
def CU : Mem → Bool
 | [] => true
 | (n,_) :: r => !(keys r).elem n && CU r
theorem L9 : ∀ {m : Mem} {n : Nat} {o : Ob},CU m = true → (n,o) ∈ m → lk m n = some o
 | [],_,_,_,h => by cases h
 | (j,x) :: r,n,o,hu,h => by
  unfold CU at hu
  simp only [Bool.and_eq_true,Bool.not_eq_true'] at hu
  show (bif Nat.beq j n then some x else lk r n) = some o
  cases h with
  | head => rw [Nat.beq_refl]; rfl
  | tail _ h =>
   have hne : j ≠ n := fun e => ji hu.1 (e ▸ List.mem_map.2 ⟨_,h,rfl⟩)
   cases hb : Nat.beq j n with
   | true => exact absurd (Nat.eq_of_beq_eq_true hb) hne
   | false => exact L9 hu.2 h
theorem aU.mv (n k : Nat) (hp : (!C.pn.elem n && !C.pn.elem k) = true) (hu : CU m = true) : aU P C σ m (FO n k (jE [k] σ)) (KF n k (gG [k] m)) := fun R B g a w hs => by
 simp only [Bool.and_eq_true,Bool.not_eq_true'] at hp
 have hpn := ji hp.1
 have hpk := ji hp.2
 -- forget k first
 have had : dW R B g w [] [k] R B (upd g k .dead) w := by
  refine ⟨hs.wf.upd k _ (Nat.le_refl _) (fun b hb => hb.elim) (fun i j b hi => by cases hi),fun _ h => h,fun _ h => h,rfl,rfl,rfl,Nat.le_refl _,fun _ _ _ => rfl,fun i hi => upd_ne g _ (by simpa using hi),fun i hi b hb => ?_,fun i hi => by cases hi⟩
  ·have : i = k := by simpa using hi
   subst this
   rw [upd_same] at hb; exact hb.elim
 have h1 : St P C (jE [k] σ) (gG [k] m) R B (upd g k .dead) a w :=
  hs.step (us := []) (df := []) (W := []) (X := [k]) (d := none) (v := .cZ []) (u := undef) trivial (fun _ h => by cases h) (fun p hp => by cases hp) rfl (fun j hj => by
   have : j = k := by simpa using hj
   subst this; exact hpk) had (fun b hb => .inl hb) (fun h => by cases h) (fun p hp => by cases hp)
 have hjm : ∀ (m0 : Mem) (j : Nat) (o : Ob),(j,o) ∈ gG [k] m0 → j ≠ k ∧ ∃ o0,(j,o0) ∈ m0 ∧ o = iT [k] o0 := by
  intro m0
  induction m0 with
  | nil => intro j o h; cases h
  | cons p r ih =>
   intro j o h
   obtain ⟨i,x⟩ := p
   unfold gG at h
   cases hi : [k].elem i with
   | true =>
    rw [hi,cond_true] at h
    obtain ⟨h1,o0,h2,h3⟩ := ih j o h
    exact ⟨h1,o0,List.mem_cons_of_mem _ h2,h3⟩
   | false =>
    rw [hi,cond_false] at h
    cases h with
    | head => exact ⟨tu hi,x,List.mem_cons_self,rfl⟩
    | tail _ h =>
     obtain ⟨h1,o0,h2,h3⟩ := ih j o h
     exact ⟨h1,o0,List.mem_cons_of_mem _ h2,h3⟩
 have hlk : ∀ j o,(j,o) ∈ gG [k] m → lk (gG [k] m) j = some o := fun j o hm => by
  obtain ⟨h2,o0,h3,rfl⟩ := hjm m j o hm
  rw [Ar,if_neg (by simpa using h2),L9 hu h3]
  rfl
 generalize upd g k .dead = g1 at h1
 refine ⟨R,B,lT n k g1,{ h1 with wf := ⟨h1.wf.rb,h1.wf.lt,fun j b hj => ?_,fun i j b hi hj => ?_,fun q i j b hi hj => ?_⟩,sl := fun t v ht => ?_,ob := fun j o hj => ?_,ow := fun j o b hj hb => ?_,pin := fun j hj => ?_ }⟩
 ·unfold lT at hj
  split at hj
  ·exact h1.wf.iV n b hj
  ·split at hj
   ·exact hj.elim
   ·exact h1.wf.iV j b hj
 ·unfold lT at hi hj
  split at hi
  ·rename_i e1
   split at hj
   ·rename_i e2; rw [e1,e2]
   ·split at hj
    ·exact hj.elim
    ·rename_i e3; exact absurd (h1.wf.jV n j b hi hj).symm e3
  ·split at hi
   ·exact hi.elim
   ·rename_i e1 e2
    split at hj
    ·exact absurd (h1.wf.jV i n b hi hj) e2
    ·split at hj
     ·exact hj.elim
     ·exact h1.wf.jV i j b hi hj
 ·unfold lT at hi hj
  split at hi
  ·rename_i e1
   rw [if_pos e1] at hj
   exact h1.wf.nd n i j b hi hj
  ·rename_i e1
   rw [if_neg e1] at hj
   split at hi
   ·cases hi
   ·rename_i e2
    rw [if_neg e2] at hj
    exact h1.wf.nd q i j b hi hj
 ·rw [Jz,yD] at ht
  cases hl : lk σ t with
  | none => rw [hl] at ht; cases ht
  | some x =>
   rw [hl] at ht
   injection ht with ht
   subst ht
   exact RA.mv (h1.sl t _ (by rw [yD,hl]; rfl))
 ·obtain ⟨j0,o0,hm,rfl,rfl⟩ := KC hj
  obtain ⟨h2,o1,h3,rfl⟩ := hjm m j0 o0 hm
  exact RO.mv h2 (h1.ob j0 _ (hlk j0 _ hm))
 ·obtain ⟨j0,o0,hm,rfl,rfl⟩ := KC hj
  obtain ⟨h2,_⟩ := hjm m j0 o0 hm
  rw [qy g1 h2] at hb
  exact h1.ow j0 o0 b (hlk j0 o0 hm) hb
 ·have e1 : j ≠ k := fun e => hpk (e ▸ hj)
  have e2 : j ≠ n := fun e => hpn (e ▸ hj)
  have : lT n k g1 j = g1 j := by simp [lT,e1,e2]
  rw [this]
  exact h1.pin j hj
end
end Go.Fw
end
section
set_option linter.unusedVariables false
set_option linter.unusedSimpArgs false
set_option linter.unnecessarySimpa false
namespace Go.Fw
def Dn : List Int → List Int → Bool
 | [],[] => true
 | a :: r,b :: s => (a == b) && Dn r s
 | _,_ => false
section
variable {P : Program} {o : Oper}
end
end Go.Fw
end
section
set_option linter.unusedVariables false
set_option linter.unusedSimpArgs false
set_option linter.unnecessarySimpa false
namespace Go.Fw
theorem zX {n : Nat} (h : n ≤ 1099511627776) : n < BIG := by unfold BIG; omega
theorem iP {n : Int} (h1 : -4611686018427387904 ≤ n) (h2 : n ≤ 4611686018427387904) : aP n = n := V6 (by omega) (by omega)
theorem J6 {σ τ : Type} {b : σ → Option (σ ⊕ τ)} {r : τ} (st : Nat → σ) (n : Nat) (h : ∀ k,k < n → b (st k) = some (.inl (st (k + 1)))) (hr : b (st n) = some (.inr r)) : ∀ (j k f : Nat),k + j = n → j < f → bQ b f (st k) = some r
 | 0,k,f,hk,hf => by
  obtain ⟨f,rfl⟩ : ∃ g,f = g + 1 := ⟨f - 1,by omega⟩
  have : k = n := by omega
  subst this
  unfold bQ
  rw [hr]
 | j + 1,k,f,hk,hf => by
  obtain ⟨f,rfl⟩ : ∃ g,f = g + 1 := ⟨f - 1,by omega⟩
  unfold bQ
  rw [h k (by omega)]
  exact J6 st n h hr j (k + 1) f (by omega) (by omega)
theorem mQ {σ τ : Type} {b : σ → Option (σ ⊕ τ)} {r : τ} {s : σ} (st : Nat → σ) (n : Nat) (hn : n ≤ 1099511627776) (h0 : st 0 = s) (h : ∀ k,k < n → b (st k) = some (.inl (st (k + 1)))) (hr : b (st n) = some (.inr r)) : bQ b BIG s = some r := by
 subst h0
 exact J6 st n h hr n 0 BIG (by omega) (zX hn)
theorem vC {α : Type} {l : List α} {k : Nat} (h : k < l.length) : idx l (k : Int) = some l[k] := by
 unfold idx
 rw [if_pos (by omega),Int.toNat_natCast,List.getElem?_eq_getElem h]
theorem jh {α : Type} {l : List α} {k : Nat} {x : α} (h : l[k]? = some x) : idx l (k : Int) = some x := by
 unfold idx
 rw [if_pos (by omega),Int.toNat_natCast,h]
theorem gm {k : Nat} (h : k ≤ 1099511627776) : aP ((k : Int) + 1) = ((k + 1 : Nat) : Int) := by
 rw [iP (by omega) (by omega)]; omega
theorem Di {τ : Type} {b : Int → Option (Int ⊕ τ)} {r : τ} (n : Nat) (hn : n ≤ 1099511627776) (h : ∀ k : Nat,k < n → b k = some (.inl (aP ((k : Int) + 1)))) (hr : b n = some (.inr r)) : bQ b BIG 0 = some r :=
 mQ (fun k => (k : Int)) n hn rfl (fun k hk => by rw [h k hk,gm (by omega)]) hr
theorem NQ {γ : Type} {b : Int → Option (Int ⊕ (Unit ⊕ γ))} (bad : Nat → Bool) (c : γ) (k0 n : Nat) (hn : n ≤ 1099511627776) (h0 : k0 ≤ n) (h : ∀ k : Nat,k0 ≤ k → k < n → b k = bif bad k then some (.inr (.inr c)) else some (.inl (aP ((k : Int) + 1)))) (hr : b n = some (.inr (.inl ()))) :
  bQ b BIG k0 = some (bif (List.range' k0 (n - k0)).any bad then .inr c else .inl ()) := by
 have go : ∀ (j k f : Nat),k + j = n → k0 ≤ k → j < f → bQ b f (k : Int) = some (bif (List.range' k j).any bad then .inr c else .inl ()) := by
  intro j
  induction j with
  | zero =>
   intro k f hk _ hf
   obtain ⟨f,rfl⟩ : ∃ g,f = g + 1 := ⟨f - 1,by omega⟩
   have : k = n := by omega
   subst this
   unfold bQ
   rw [hr]
   rfl
  | succ j ih =>
   intro k f hk hk0 hf
   obtain ⟨f,rfl⟩ : ∃ g,f = g + 1 := ⟨f - 1,by omega⟩
   have h1 := h k hk0 (by omega)
   unfold bQ
   cases hb : bad k with
   | true =>
    rw [hb,cond_true] at h1
    rw [h1,List.range'_succ,List.any_cons,hb]
    rfl
   | false =>
    rw [hb,cond_false,gm (by omega)] at h1
    rw [h1,List.range'_succ,List.any_cons,hb,Bool.false_or]
    exact ih (k + 1) f (by omega) (by omega) (by omega)
 exact go (n - k0) k0 BIG (by omega) (Nat.le_refl _) (by have := zX hn; omega)
theorem UI {σ τ : Type} {b : σ → Option (σ ⊕ τ)} {s : σ} (I : Nat → σ → Prop) (Q : τ → Prop) (n : Nat) (hn : n ≤ 1099511627776) (h0 : I 0 s)
  (h : ∀ k s,k < n → I k s → (∃ s',b s = some (.inl s') ∧ I (k + 1) s') ∨ ∃ r,b s = some (.inr r) ∧ Q r) (hr : ∀ s,I n s → ∃ r,b s = some (.inr r) ∧ Q r) : ∃ r,bQ b BIG s = some r ∧ Q r := by
 have go : ∀ (j k f : Nat) (s : σ),k + j = n → j < f → I k s → ∃ r,bQ b f s = some r ∧ Q r := by
  intro j
  induction j with
  | zero =>
   intro k f s hk hf hi
   obtain ⟨f,rfl⟩ : ∃ g,f = g + 1 := ⟨f - 1,by omega⟩
   have : k = n := by omega
   subst this
   obtain ⟨r,h1,h2⟩ := hr s hi
   exact ⟨r,by unfold bQ; rw [h1],h2⟩
  | succ j ih =>
   intro k f s hk hf hi
   obtain ⟨f,rfl⟩ : ∃ g,f = g + 1 := ⟨f - 1,by omega⟩
   rcases h k s (by omega) hi with ⟨s',h1,h2⟩ | ⟨r,h1,h2⟩
   ·obtain ⟨r,h3,h4⟩ := ih (k + 1) f s' (by omega) (by omega) h2
    exact ⟨r,by unfold bQ; rw [h1]; exact h3,h4⟩
   ·exact ⟨r,by unfold bQ; rw [h1],h2⟩
 exact go n 0 BIG s (by omega) (zX hn) h0
theorem Ov {α : Type} {b : Int × List α → Option ((Int × List α) ⊕ List α)} (a : List α) (z : α) (ha : a.length ≤ 1099511627776)
  (h : ∀ (k : Nat) (l : List α) x y,a[k]? = some x → l[k]? = some y → b (k,l) = some (.inl (aP ((k : Int) + 1),l.set k x))) (hr : ∀ l,b ((a.length : Int),l) = some (.inr l)) :
  bQ b BIG (0,List.replicate a.length z) = some a := by
 refine mQ (fun k => ((k : Int),a.take k ++ List.replicate (a.length - k) z)) a.length ha (by simp) (fun k hk => ?_) (by simp [hr])
 have h1 : (a.take k ++ List.replicate (a.length - k) z)[k]? = some z := by
  have hl : (a.take k).length = k := by simp; omega
  rw [List.getElem?_append_right (by omega),hl,Nat.sub_self,List.getElem?_replicate,if_pos (by omega)]
 rw [h k _ a[k] z (List.getElem?_eq_getElem hk) h1,gm (by omega)]
 congr 3
 obtain ⟨m,hm⟩ : ∃ m,a.length - k = m + 1 := ⟨a.length - k - 1,by omega⟩
 have hm2 : a.length - (k + 1) = m := by omega
 rw [hm,hm2,List.set_append_right _ _ (by simp; omega)]
 have : k - (a.take k).length = 0 := by simp; omega
 rw [this,List.replicate_succ,List.set_cons_zero]
 have ht : a.take (k + 1) = a.take k ++ [a[k]] := by rw [List.take_add_one,List.getElem?_eq_getElem hk]; rfl
 rw [ht,List.append_assoc]
 rfl
theorem iM {n : Nat} (h : n ≤ 2147483648) : lim n = some () := by unfold lim nK; rw [if_pos h]
theorem Jr {n : Int} (h0 : 0 ≤ n) (h : n ≤ 2147483648) : sQ n = some () := by unfold sQ; rw [if_pos ⟨h0,h⟩]
theorem VE {a b : Nat} (h : a = b) : same a b = some () := by unfold same; rw [if_pos h]
end Go.Fw
end
section
set_option linter.unusedVariables false
set_option linter.unusedSimpArgs false
set_option linter.unnecessarySimpa false
namespace Go.Fw
def iter {β : Type} (f : Nat → β → β) : Nat → β → β
 | 0,a => a
 | n + 1,a => f n (iter f n a)
theorem Jf {β : Type} {f : Nat → β → β} {a0 : β} (I : Nat → β → Prop) (h0 : I 0 a0) : ∀ n,(∀ k a,k < n → I k a → I (k + 1) (f k a)) → I n (iter f n a0)
 | 0,_ => h0
 | n + 1,h => h n _ (by omega) (Jf I h0 n fun k a hk hi => h k a (by omega) hi)
theorem AY {β τ σ : Type} {b : σ → Option (σ ⊕ τ)} {s : σ} (mk : Nat → β → σ) (f : Nat → β → β) (I : Nat → β → Prop) (fin : β → τ) (n : Nat) (a0 : β) (hn : n ≤ 1099511627776) (hs : s = mk 0 a0) (h0 : I 0 a0)
  (h : ∀ k a,k < n → I k a → b (mk k a) = some (.inl (mk (k + 1) (f k a))) ∧ I (k + 1) (f k a)) (hr : ∀ a,I n a → b (mk n a) = some (.inr (fin a))) :
  bQ b BIG s = some (fin (iter f n a0)) ∧ I n (iter f n a0) := by
 have hI : ∀ m,m ≤ n → I m (iter f m a0) := fun m hm => Jf I h0 m fun k a hk hi => (h k a (by omega) hi).2
 subst hs
 exact ⟨mQ (fun k => mk k (iter f k a0)) n hn rfl (fun k hk => (h k _ hk (hI k (by omega))).1) (hr _ (hI n (Nat.le_refl _))),hI n (Nat.le_refl _)⟩
def pieces {α : Type} (f : Nat → List α) : Nat → List α
 | 0 => []
 | n + 1 => pieces f n ++ f n
theorem pieces_len {α : Type} {f : Nat → List α} {c : Nat} : ∀ n,(∀ k,k < n → (f k).length ≤ c) → (pieces f n).length ≤ c * n
 | 0,_ => by simp [pieces]
 | n + 1,h => by
  have h1 := pieces_len n fun k hk => h k (by omega)
  have h2 := h n (by omega)
  show (pieces f n ++ f n).length ≤ _
  rw [List.length_append,Nat.mul_add,Nat.mul_one]
  omega
theorem G9 {α τ σ : Type} {b : σ → Option (σ ⊕ τ)} {s : σ} (mk : Nat → List α → σ) (f : Nat → List α) (fin : List α → τ) (c n : Nat) (BL : List α) (hn : n ≤ 1099511627776) (hs : s = mk 0 BL) (hc : ∀ k,k < n → (f k).length ≤ c)
  (h : ∀ k out,k < n → out.length ≤ BL.length + c * k → b (mk k out) = some (.inl (mk (k + 1) (out ++ f k)))) (hr : ∀ out,b (mk n out) = some (.inr (fin out))) :
  bQ b BIG s = some (fin (BL ++ pieces f n)) := by
 subst hs
 refine mQ (fun k => mk k (BL ++ pieces f k)) n hn (by simp [pieces]) (fun k hk => ?_) (hr _)
 have h1 := pieces_len (f := f) (c := c) k fun j hj => hc j (by omega)
 rw [h k _ hk (by rw [List.length_append]; omega),List.append_assoc]
 rfl
theorem NS {p : Nat → Bool} {k0 n : Nat} : (List.range' k0 n).any p = true ↔ ∃ k,k0 ≤ k ∧ k < k0 + n ∧ p k = true := by
 rw [List.any_eq_true]
 constructor
 ·rintro ⟨k,hk,h⟩
  rw [List.mem_range'_1] at hk
  exact ⟨k,hk.1,hk.2,h⟩
 ·rintro ⟨k,h1,h2,h⟩
  exact ⟨k,List.mem_range'_1.2 ⟨h1,h2⟩,h⟩
theorem NT {p : Nat → Bool} {k0 n : Nat} : (List.range' k0 n).any p = false ↔ ∀ k,k0 ≤ k → k < k0 + n → p k = false := by
 rw [← Bool.not_eq_true,NS]
 constructor
 ·intro h k h1 h2
  cases hp : p k
  ·rfl
  ·exact absurd ⟨k,h1,h2,hp⟩ h
 ·rintro h ⟨k,h1,h2,h3⟩
  rw [h k h1 h2] at h3
  cases h3
theorem NR {γ : Type} {b : Int → Option (Int ⊕ (Unit ⊕ γ))} (bad : Nat → Bool) (c : γ) (n : Nat) (hn : n ≤ 1099511627776) (h : ∀ k : Nat,k < n → b k = bif bad k then some (.inr (.inr c)) else some (.inl (aP ((k : Int) + 1)))) (hr : b n = some (.inr (.inl ()))) :
  bQ b BIG 0 = some (bif (List.range' 0 n).any bad then .inr c else .inl ()) := by
 have := NQ (b := b) bad c 0 n hn (by omega) (fun k _ hk => h k hk) hr
 rwa [Nat.sub_zero] at this
theorem VI {α : Type} (a : List α) (z x : α) (k n : Nat) (ha : a.length = k) (hk : k < n) : (a ++ List.replicate (n - k) z).set k x = (a ++ [x]) ++ List.replicate (n - (k + 1)) z := by
 obtain ⟨m,hm⟩ : ∃ m,n - k = m + 1 := ⟨n - k - 1,by omega⟩
 rw [hm,show n - (k + 1) = m by omega,List.set_append_right _ _ (by omega),ha,Nat.sub_self,List.replicate_succ,List.set_cons_zero,List.append_assoc]
 rfl
theorem Lr {α : Type} {l : List α} {k : Nat} (hk : k < l.length) : l.take (k + 1) = l.take k ++ [l[k]] := by
 rw [List.take_add_one,List.getElem?_eq_getElem hk]; rfl
end Go.Fw
end
section
set_option linter.unusedVariables false
set_option linter.unusedSimpArgs false
set_option linter.unnecessarySimpa false
namespace Go.Fw
open Go.ChangeMaps
def gq : List (Int × Int) → Int → Int
 | [],_ => 0
 | e :: r,k => bif k == e.1 then e.2 else gq r k
def iU : List (Int × Int) → Int → Bool
 | [],_ => false
 | e :: r,k => bif k == e.1 then true else iU r k
def gU : List (Int × Int) → Int → Int → List (Int × Int)
 | [],k,v => [(k,v)]
 | e :: r,k,v => bif k == e.1 then (k,v) :: r else e :: gU r k v
section
variable {P : Program} {o : Oper} {w : World} {R B : Nat → Prop} {g : Nat → GS}
variable {α : Type} {enc : α → List PV}
theorem bK.wV {e : TypeId} {cs : List CV} (h : rW cs) : bK (.row e [cs]) := fun c hc x hx => by
 have : c = cs := by simpa using hc
 subst this
 exact h.spec x hx
theorem Dq {k : Int} : ∀ {es : List MapEntry} {m : List (Int × Int)} {i : Nat},es.map (fun e => (e.key,e.val)) = m.map (fun e => (Value.int .i64 e.1,Value.int .i64 e.2)) → iU m k = false → Instr.findNow (.int .i64) (.int .i64 k) es i = some none
 | [],[],_,_,_ => rfl
 | [],_ :: _,_,h,_ => by cases h
 | _ :: _,[],_,h,_ => by cases h
 | e :: es,x :: m,i,h,hh => by
  simp only [List.map_cons,List.cons.injEq,Prod.mk.injEq] at h
  obtain ⟨⟨h1,h2⟩,h3⟩ := h
  unfold iU at hh
  cases hx : k == x.1 with
  | true => rw [hx] at hh; cases hh
  | false =>
   rw [hx,cond_false] at hh
   simp [Instr.findNow,Instr.sameNow,h1,hx,Dq h3 hh]
theorem Dt {k : Int} : ∀ {es : List MapEntry} {m : List (Int × Int)} {i : Nat},es.map (fun e => (e.key,e.val)) = m.map (fun e => (Value.int .i64 e.1,Value.int .i64 e.2)) → iU m k = true →
  ∃ j,Instr.findNow (.int .i64) (.int .i64 k) es i = some (some (i + j,.int .i64 (gq m k))) ∧ (∃ e,es[j]? = some e ∧ e.key = .int .i64 k) ∧ ∀ v,gU m k v = m.set j (k,v)
 | [],[],_,_,h => by cases h
 | [],_ :: _,_,h,_ => by cases h
 | _ :: _,[],_,h,_ => by cases h
 | e :: es,x :: m,i,h,hh => by
  simp only [List.map_cons,List.cons.injEq,Prod.mk.injEq] at h
  obtain ⟨⟨h1,h2⟩,h3⟩ := h
  unfold iU at hh
  cases hx : k == x.1 with
  | true =>
   refine ⟨0,?_,⟨e,rfl,by rw [h1,eq_of_beq hx]⟩,fun v => ?_⟩
   ·simp [Instr.findNow,Instr.sameNow,h1,hx,h2,gq]
   ·simp [gU,hx]
  | false =>
   rw [hx,cond_false] at hh
   obtain ⟨j,k1,⟨e2,k2,k3⟩,k4⟩ := Dt (i := i + 1) h3 hh
   refine ⟨j + 1,?_,⟨e2,by simpa using k2,k3⟩,fun v => ?_⟩
   ·simp [Instr.findNow,Instr.sameNow,h1,hx,k1,gq]
    omega
   ·simp [gU,hx,k4]
theorem KE {k : Int} : ∀ {m : List (Int × Int)},iU m k = false → ∀ v,gU m k v = m ++ [(k,v)]
 | [],_,_ => rfl
 | x :: m,h,v => by
  unfold iU at h
  cases hx : k == x.1 with
  | true => rw [hx] at h; cases h
  | false =>
   rw [hx,cond_false] at h
   simp [gU,hx,KE h]
def tZ (P : Program) (t : TypeId) : Option (TypeId × TypeId) := match P.underlying t with
 | some (.map k e) => match P.underlying k,(P.info? e).bind (·.zero) with
  | some (.int .i64),some (.int .i64 0) => some (k,e)
  | _,_ => none
 | _ => none
theorem J7 {t k e : TypeId} (h : tZ P t = some (k,e)) : P.underlying t = some (.map k e) ∧ P.underlying k = some (.int .i64) ∧ ∃ i,P.info? e = some i ∧ i.zero = some (.int .i64 0) := by
 unfold tZ at h
 split at h
 ·rename_i k' e' hu
  split at h
  ·rename_i hk hz
   injection h with h
   injection h with h1 h2
   subst h1
   subst h2
   cases hi : P.info? e' with
   | none => rw [hi] at hz; cases hz
   | some i =>
    rw [hi] at hz
    exact ⟨hu,hk,i,rfl,hz⟩
  ·cases h
 ·cases h
theorem Bh {b : Bool} {k : TypeId} (hk : P.underlying k = some (.int .i64)) (n : Int) (w : World) : (Instr.checkKey b 10000 k (.int .i64 n)).run P w = .ok () w := by
 unfold Instr.checkKey
 simp only [Sem.run_bind,run_underlying hk,Result.andThen_ok]
 rfl
theorem Bj {k : TypeId} (hk : P.underlying k = some (.int .i64)) {n : Int} {es : List MapEntry} {r : Option (Nat × Value)} (h : Instr.findNow (.int .i64) (.int .i64 n) es 0 = some r) (w : World) : (Instr.findKey k (.int .i64 n) es).run P w = .ok r w := by
 simp [Instr.findKey,run_underlying hk,h,Result.andThen]
theorem LT.makeMap {t : TypeId} {n : Nat} (ho : o.op = .makeMap t none) : LT P o [] [] (Cc (.mref n)) [(n,.mp [])] [] [n] := by
 intro R B g w a hw hi hu K Q hK
 have hr := Go.RowKit.run_makeMap (P := P) t w
 have had := dW.alloc hw n (.map #[] 0)
 have hrun : (execOp a.eval o).run P w = .ok (.value (.map (some w.heap.size))) (w.alloc (.map #[] 0)) := by
  simp [execOp,ho,hr]
 unfold Oper.wp
 rw [hrun]
 refine hK _ _ _ _ _ had (fun b hb => .inl hb) (fun _ => ⟨rfl,w.heap.size,upd_same ..,rfl⟩) (fun p hp => ?_)
 have : p = (n,.mp []) := by simpa using hp
 subst this
 exact ⟨w.heap.size,#[],0,upd_same ..,(Go.MapKept.heap_alloc w _).1,rfl⟩
theorem J9 {t k e : TypeId} (ht : tZ P t = some (k,e)) {n : Nat} {m : List (Int × Int)} (h : RO P w R B g n (.mp m)) {v : Value} (hv : RC P w R B g (.mref n) v) (x : Int) (ok : Bool) :
  (Instr.lookup t v (.int .i64 x) ok).run P w = .ok (if ok then .tuple #[.int .i64 (gq m x),.bool (iU m x)] else .int .i64 (gq m x)) w := by
 obtain ⟨h1,h2,i,h3,h4⟩ := J7 ht
 obtain ⟨b,jo,clock,k1,k2,k3⟩ := h
 obtain ⟨_,b',k4,rfl⟩ := hv
 rw [k1] at k4
 injection k4 with k4
 subst k4
 cases hh : iU m x with
 | false =>
  have hf := Bj (P := P) h2 (Dq k3 hh) w
  have hg : gq m x = 0 := by
   clear hf k3
   induction m with
   | nil => rfl
   | cons y r ih =>
    unfold iU at hh
    unfold gq
    cases hy : x == y.1 with
    | true => rw [hy] at hh; cases hh
    | false =>
     rw [hy,cond_false] at hh
     exact ih hh
  simp [Instr.lookup,run_underlying h1,Go.MapKept.run_getObj_map k2,Bh h2,hf,Result.andThen,zeroValue,typeInfo,h3,h4,hg]
 | true =>
  obtain ⟨j,hj,_,_⟩ := Dt (i := 0) k3 hh
  have hf := Bj (P := P) h2 hj w
  simp [Instr.lookup,run_underlying h1,Go.MapKept.run_getObj_map k2,Bh h2,hf,Result.andThen]
theorem LT.UJ {t k e : TypeId} {x y : Operand} {n : Nat} {m : List (Int × Int)} {i : Int} (ho : o.op = .lookup t x y false) (ht : tZ P t = some (k,e)) : LT P o [(x,Cc (.mref n)),(y,Iv i)] [(n,.mp m)] (Iv (gq m i)) [] [] [] := .calm fun R B g w a hw hi hu => by
 have hl := J9 (P := P) ht (oI hu) (in1 hi) i false
 rw [if_neg (by simp)] at hl
 refine ⟨_,?_,qF rfl⟩
 simp [execOp,ho,kM (in2 hi),hl]
theorem LT.UK {t k e : TypeId} {x y : Operand} {n : Nat} {m : List (Int × Int)} {i : Int} (ho : o.op = .lookup t x y true) (ht : tZ P t = some (k,e)) : LT P o [(x,Cc (.mref n)),(y,Iv i)] [(n,.mp m)] (.cZ [.c (iC (gq m i)),.c (bC (iU m i))]) [] [] [] := .calm fun R B g w a hw hi hu => by
 have hl := J9 (P := P) ht (oI hu) (in1 hi) i true
 rw [if_pos rfl] at hl
 refine ⟨.tuple #[.int .i64 (gq m i),.bool (iU m i)],by simp [execOp,ho,kM (in2 hi),hl],[.int .i64 (gq m i),.bool (iU m i)],rfl,rfl,fun k x hk => ?_⟩
 match k,hk with
 | 0,hk => simp at hk; subst hk; exact ⟨_,rfl,rfl,.sc rfl⟩
 | 1,hk => simp at hk; subst hk; exact ⟨_,rfl,rfl,.sc rfl⟩
 | k + 2,hk => simp at hk
theorem dW.VH (h : WF R B g w) {n b : Nat} {es : Array MapEntry} {clock : Nat} (hn : g n = .blk b) (hh : w.heap[b]? = some (.map es clock)) (o' : Obj) : dW R B g w [n] [] R B g (setBlock w b o') where
 wf := h.mono (by simp [setBlock])
 r _ h := h
 b _ h := h
 os := rfl
 tape := rfl
 output := rfl
 size := by simp [setBlock]
 heap c _ hc := heap_setBlock_other hh o' (fun e => hc n List.mem_cons_self (by rw [hn,e]; rfl))
 names _ _ := rfl
 fresh _ hk := by cases hk
 shape k hk _ c cu e' hg hc := by
  have : k = n := by simpa using hk
  subst this
  rw [hn] at hg
  have hg : b = c := Eq.symm hg
  subst hg
  rw [hh] at hc
  cases hc
theorem LT.J8 {t k e : TypeId} {x y z : Operand} {n : Nat} {m : List (Int × Int)} {i j : Int} {v : AV} (ho : o.op = .mapUpdate t x y z ∨ o.op = .insert t x y z) (hd : o.dst = none) (ht : tZ P t = some (k,e)) : LT P o [(x,Cc (.mref n)),(y,Iv i),(z,Iv j)] [(n,.mp m)] v [(n,.mp (gU m i j))] [n] [] := by
 intro R B g w a hw hin hu K Q hK
 obtain ⟨h1,h2,_,_,_⟩ := J7 ht
 obtain ⟨b,jo,clock,k1,k2,k3⟩ := oI hu
 obtain ⟨_,b',k4,k5⟩ := in1 hin
 rw [k1] at k4
 injection k4 with k4
 subst k4
 have e2 := kM (in2 hin)
 have e3 := kM (Tc hin)
 have key : ∃ es' clock',(Instr.mapUpdate t (.map (some b)) (.int .i64 i) (.int .i64 j)).run P w = .ok () (setBlock w b (.map es' clock')) ∧ es'.toList.map (fun e => (e.key,e.val)) = (gU m i j).map fun e => (Value.int .i64 e.1,Value.int .i64 e.2) := by
  cases hh : iU m i with
  | false =>
   have hf := Bj (P := P) h2 (Dq k3 hh) w
   refine ⟨jo.push { key := .int .i64 i,val := .int .i64 j,born := clock },clock + 1,?_,?_⟩
   ·simp [Instr.mapUpdate,run_underlying h1,Go.MapKept.run_getObj_map k2,Bh h2,hf,Go.MapKept.run_setObj_map _ k2,Result.andThen]
    rfl
   ·rw [KE hh]
    simp [k3]
  | true =>
   obtain ⟨q,hq,⟨en,hen,hkey⟩,hput⟩ := Dt (i := 0) k3 hh
   rw [Nat.zero_add] at hq
   have hf := Bj (P := P) h2 hq w
   have hen' : jo[q]? = some en := by simpa using hen
   refine ⟨jo.modify q fun e => { e with key := .int .i64 i,val := .int .i64 j },clock,?_,?_⟩
   ·simp [Instr.mapUpdate,run_underlying h1,Go.MapKept.run_getObj_map k2,Bh h2,hf,hen',hkey,Instr.keyThatStays,Instr.sameBits,Go.MapKept.run_setObj_map _ k2,Result.andThen]
    rfl
   ·rw [hput]
    apply List.ext_getElem?
    intro r
    have hk3 := congrArg (fun l => l[r]?) k3
    simp only [List.getElem?_map,Array.getElem?_toList] at hk3
    simp only [List.getElem?_map,List.getElem?_set,Array.getElem?_toList,Array.getElem?_modify]
    by_cases hr : q = r
    ·subst hr
     rw [hen'] at hk3
     cases hm : m[q]? with
     | none => rw [hm] at hk3; cases hk3
     | some y =>
      have := (List.getElem?_eq_some_iff.1 hm).1
      simp [hen',this]
    ·simp [hr,hk3]
 obtain ⟨es',clock',hrun,hes⟩ := key
 have hex : (execOp a.eval o).run P w = .ok .skip (setBlock w b (.map es' clock')) := by
  rcases ho with ho | ho <;> simp [execOp,ho,k5,e2,e3,hrun]
 have had := dW.VH hw k1 k2 (.map es' clock')
 unfold Oper.wp
 rw [hex]
 have hq := hK undef R B g (setBlock w b (.map es' clock')) had (fun b hb => .inl hb) (fun h => by rw [hd] at h; cases h) (fun p hp => by
  have : p = (n,.mp (gU m i j)) := by simpa using hp
  subst this
  exact ⟨b,es',clock',k1,heap_setBlock_same k2 _,hes⟩)
 exact hq
end
end Go.Fw
end
section
set_option linter.unusedVariables false
set_option linter.unusedSimpArgs false
set_option linter.unnecessarySimpa false
namespace Go.Fw
section
variable {P : Program} {C : Ctx} {σ : Slots} {m : Mem}
theorem RC.junk {w : World} {R B : Nat → Prop} {g : Nat → GS} {x : CV} {v : Value} (h : RC P w R B g x v) : RC P w R B g .junk v := ⟨h.1,trivial⟩
theorem U3 {w : World} {R B : Nat → Prop} {g : Nat → GS} {cs : List CV} {k : Nat} {T : Nat → Value → Prop} (h : ∀ (j : Nat) x,cs[j]? = some x → ∃ u,T j u ∧ RC P w R B g x u) : ∀ (j : Nat) x,(cs.set k .junk)[j]? = some x → ∃ u,T j u ∧ RC P w R B g x u := fun j x hj => by
 rw [List.getElem?_set] at hj
 by_cases hk : k = j
 ·rw [if_pos hk] at hj
  split at hj
  ·injection hj with hj
   subst hj
   rename_i hl
   obtain ⟨u,h1,h2⟩ := h j cs[j] (List.getElem?_eq_getElem (by omega))
   exact ⟨u,h1,h2.junk⟩
  ·cases hj
 ·rw [if_neg hk] at hj
  exact h j x hj
theorem St.slot {R B : Nat → Prop} {g : Nat → GS} {a : Act} {w : World} (hs : St P C σ m R B g a w) {t : Nat} {v : AV} (h : RA P w R B g v (a.tmps.getD t undef)) : St P C ((t,v) :: σ) m R B g a w := by
 refine { hs with sl := ?_ }
 intro t' v' hl
 change (bif Nat.beq t t' then some v else lk σ t') = some v' at hl
 cases hb : Nat.beq t t' with
 | true =>
  rw [hb,cond_true] at hl
  injection hl with hl
  subst hl
  rw [← Nat.eq_of_beq_eq_true hb]
  exact h
 | false =>
  rw [hb,cond_false] at hl
  exact hs.sl t' v' hl
theorem St.obj {R B : Nat → Prop} {g : Nat → GS} {a : Act} {w : World} (hs : St P C σ m R B g a w) {n : Nat} {o0 o : Ob} (h0 : lk m n = some o0) (h : RO P w R B g n o) : St P C σ ((n,o) :: m) R B g a w := by
 refine { hs with ob := ?_,ow := ?_ }
 ·intro n' o' hl
  change (bif Nat.beq n n' then some o else lk m n') = some o' at hl
  cases hb : Nat.beq n n' with
  | true =>
   rw [hb,cond_true] at hl
   injection hl with hl
   subst hl
   rw [← Nat.eq_of_beq_eq_true hb]
   exact h
  | false =>
   rw [hb,cond_false] at hl
   exact hs.ob n' o' hl
 ·intro n' o' b hl hg
  change (bif Nat.beq n n' then some o else lk m n') = some o' at hl
  cases hb : Nat.beq n n' with
  | true =>
   have := Nat.eq_of_beq_eq_true hb
   subst this
   exact hs.ow n o0 b h0 hg
  | false =>
   rw [hb,cond_false] at hl
   exact hs.ow n' o' b hl hg
theorem aU.kC (t : Nat) {x : CV} (h : lk σ t = some (Cc x)) : aU P C σ m ((t,Cc .junk) :: σ) m := fun R B g a w hs =>
 ⟨R,B,g,hs.slot (v := Cc .junk) (RC.junk (x := x) (hs.sl t _ h))⟩
theorem aU.Ez (n k : Nat) {e : TypeId} {cs : List CV} (h : lk m n = some (.row e [cs])) : aU P C σ m σ ((n,.row e [cs.set k .junk]) :: m) := fun R B g a w hs => by
 refine ⟨R,B,g,hs.obj h ?_⟩
 rcases hs.ob n _ h with ⟨h1,h2⟩ | ⟨b,cur,h1,h2,h3,h4,h5⟩
 ·cases h2
 ·refine .inr ⟨b,cur,h1,h2,fun c hc => ?_,by simpa using h4,fun j i c x hj hx => ?_⟩
  ·have : c = cs.set k .junk := by simpa using hc
   subst this
   simpa using h3 cs List.mem_cons_self
  ·cases j with
   | succ j => simp at hj
   | zero =>
    simp at hj
    subst hj
    exact U3 (T := fun i u => cur[0 * bH P e + i]? = some u) (fun i x hx => h5 0 i cs x rfl hx) i x hx
theorem aU.FQ (n : Nat) (e : TypeId) (hn : C.pn.elem n = false) : aU P C σ m (jE [n] σ) ((n,.dF e []) :: gG [n] m) := fun R B g a w hs =>
 ⟨R,B,upd g n .nil,hs.KI n (by
  intro h
  rw [List.elem_eq_true_of_mem h] at hn
  cases hn) e⟩
def zi : List PV → List PV → Prop
 | [],[] => True
 | p :: r,p' :: r' => QW p p' ∧ zi r r'
 | _,_ => False
theorem zi.get : ∀ {l l' : List PV},zi l l' → l'.length = l.length ∧ ∀ (k : Nat) p p',l[k]? = some p → l'[k]? = some p' → QW p p'
 | [],[],_ => ⟨rfl,fun k p p' h => by simp at h⟩
 | p :: r,p' :: r',h => by
  obtain ⟨h1,h2⟩ := zi.get h.2
  refine ⟨by simp [h1],fun k x x' hx hx' => ?_⟩
  cases k with
  | zero =>
   simp at hx hx'
   subst hx
   subst hx'
   exact h.1
  | succ k => exact h2 k x x' (by simpa using hx) (by simpa using hx')
 | [],_ :: _,h => h.elim
 | _ :: _,[],h => h.elim
section
variable {α : Type} {enc : α → List PV}
end
end
end Go.Fw
end
section
set_option linter.unusedVariables false
set_option linter.unusedSimpArgs false
set_option linter.unnecessarySimpa false
namespace Go.Fw
section
variable {P : Program} {w : World} {R B : Nat → Prop} {g g' : Nat → GS} {X : List Nat} {p k m : Nat}
theorem RC.av {x : CV} {v : Value} (hz : fO X x = true) (hg : ∀ n,n ∉ X → g' n = g n) (h : RC P w R B g x v) : RC P w R B g' x v := by
 refine ⟨h.1,?_⟩
 have h2 := h.2
 cases x with
 | pv p => exact h2
 | px q cells => exact h2
 | loc n off len =>
  have hn := hg n (ji (by simpa [fO] using hz))
  rcases h2 with ⟨h3,h4⟩ | h3 | ⟨b,cap,cur,e,h3,h4⟩
  ·exact .inl ⟨hn.trans h3,h4⟩
  ·exact .inr (.inl h3)
  ·exact .inr (.inr ⟨b,cap,cur,e,hn.trans h3,h4⟩)
 | pl n off =>
  obtain ⟨b,h3,h4⟩ := h2
  exact ⟨b,(hg n (ji (by simpa [fO] using hz))).trans h3,h4⟩
 | fn f caps =>
  obtain ⟨vs,h3,h4,h5⟩ := h2
  exact ⟨vs,h3,h4,fun k n hk => by
   obtain ⟨b,h6,h7⟩ := h5 k n hk
   have hc : caps.any X.elem = false := by simpa [fO] using hz
   have hn : X.elem n = false := by
    have := List.any_eq_false.1 hc n (List.mem_of_getElem? hk)
    simpa using this
   exact ⟨b,(hg n (ji hn)).trans h6,h7⟩⟩
 | mref n =>
  obtain ⟨b,h3,h4⟩ := h2
  exact ⟨b,(hg n (ji (by simpa [fO] using hz))).trans h3,h4⟩
 | tl q j off len =>
  have hn := hg q (ji (by simpa [fO] using hz))
  rcases h2 with ⟨h3,h4⟩ | h3 | ⟨b,cap,cur,e,h3,h4⟩
  ·exact .inl ⟨by rw [hn]; exact h3,h4⟩
  ·exact .inr (.inl h3)
  ·exact .inr (.inr ⟨b,cap,cur,e,by rw [hn]; exact h3,h4⟩)
 | tpl q j off =>
  obtain ⟨b,h3,h4⟩ := h2
  exact ⟨b,by rw [hg q (ji (by simpa [fO] using hz))]; exact h3,h4⟩
 | junk => trivial
theorem RS.av {x : SV} {v : Value} (hz : wL X x = true) (hg : ∀ n,n ∉ X → g' n = g n) (h : RS P w R B g x v) : RS P w R B g' x v := by
 cases x with
 | c x => exact RC.av hz hg h
 | agg cs =>
  obtain ⟨vs,h1,h2,h3⟩ := h
  exact ⟨vs,h1,h2,fun k x hk => by
   obtain ⟨u,h4,h5⟩ := h3 k x hk
   exact ⟨u,h4,h5.av (List.all_eq_true.1 hz x (List.mem_of_getElem? hk)) hg⟩⟩
theorem dM.av {n : Nat} {e : TypeId} {els : List (List CV)} (hn : n ∉ X) (hz : els.all (·.all (fO X)) = true) (hg : ∀ n,n ∉ X → g' n = g n) (h : dM P w R B g n e els) : dM P w R B g' n e els := by
 rcases h with ⟨h1,h2⟩ | ⟨b,cur,h1,h2,h3,h4,h5⟩
 ·exact .inl ⟨(hg n hn).trans h1,h2⟩
 ·exact .inr ⟨b,cur,(hg n hn).trans h1,h2,h3,h4,fun j k cs x hj hk => by
   obtain ⟨u,h6,h7⟩ := h5 j k cs x hj hk
   exact ⟨u,h6,h7.av (List.all_eq_true.1 (List.all_eq_true.1 hz cs (List.mem_of_getElem? hj)) x (List.mem_of_getElem? hk)) hg⟩⟩
theorem RO.av {n : Nat} {o : Ob} (hn : n ∉ X) (hz : kE X o = true) (hg : ∀ n,n ∉ X → g' n = g n) (h : RO P w R B g n o) : RO P w R B g' n o := by
 cases o with
 | row e els => exact dM.av hn hz hg h
 | dF e els => exact dM.av hn (by simp [dJ,List.all_eq_true,fO]) hg h
 | mp es =>
  obtain ⟨b,jo,clock,h1,h2⟩ := h
  exact ⟨b,jo,clock,(hg n hn).trans h1,h2⟩
 | pool e rows =>
  obtain ⟨⟨bs,h1,h2⟩,h3⟩ := h
  exact ⟨⟨bs,(hg n hn).trans h1,h2⟩,by rw [hg n hn]; exact h3⟩
 | gY e p lens => exact dM.av hn (List.all_eq_true.2 fun cs hcs => by
   obtain ⟨j,l,rfl⟩ := BH hcs
   simpa [fO,kE] using hz) hg h
 | unk => trivial
theorem nV.of {n : Nat} {e : TypeId} {els : List (List PV)} (h : dM P w R B g n e (dJ els)) : nV P w R B (g n) e els := by
 rcases h with ⟨h1,h2⟩ | ⟨b,cur,h1,h2,h3,h4,h5⟩
 ·exact .inl ⟨h1,by simpa [dJ] using h2⟩
 ·refine .inr ⟨b,cur,h1,h2,fun cs hcs => ?_,by simpa [dJ] using h4,fun j k cs x hj hk => ?_⟩
  ·have := h3 (cs.map .pv) (List.mem_map.2 ⟨cs,hcs,rfl⟩)
   simpa using this
  ·obtain ⟨u,hu,hr⟩ := h5 j k (cs.map .pv) (.pv x) (by simp [dJ,hj]) (by simp [hk])
   exact ⟨u,hu,hr.2⟩
theorem nV.row {n : Nat} {s : GS} {e : TypeId} {els : List (List PV)} (h : nV P w R B s e els) (hn : g n = s) : dM P w R B g n e (dJ els) := by
 rcases h with ⟨h1,h2⟩ | ⟨b,cur,h1,h2,h3,h4,h5⟩
 ·exact .inl ⟨hn.trans h1,by rw [h2]; rfl⟩
 ·refine .inr ⟨b,cur,hn.trans h1,h2,fun cs hcs => ?_,by simpa [dJ] using h4,fun j k cs x hj hk => ?_⟩
  ·obtain ⟨c0,hc0,rfl⟩ := List.mem_map.1 hcs
   simpa using h3 c0 hc0
  ·simp only [dJ,List.getElem?_map] at hj
   cases hc : els[j]? with
   | none => rw [hc] at hj; cases hj
   | some c0 =>
    rw [hc] at hj
    injection hj with hj
    subst hj
    rw [List.getElem?_map] at hk
    cases hc2 : c0[k]? with
    | none => rw [hc2] at hk; cases hk
    | some y =>
     rw [hc2] at hk
     injection hk with hk
     subst hk
     obtain ⟨u,hu,hr⟩ := h5 j k c0 y hc hc2
     exact ⟨u,hu,hr.oneCell,hr⟩
end
end Go.Fw
end
section
set_option linter.unusedVariables false
set_option linter.unusedSimpArgs false
set_option linter.unnecessarySimpa false
namespace Go.Fw
section
variable {P : Program} {C : Ctx} {σ : Slots} {mm : Mem} {α : Type} {enc : α → List PV}
theorem aU.gY {n p : Nat} {e : TypeId} {lens : List Nat} {cells : List (List CV)} (hc : cells = jd p lens) (h : lk mm n = some (.row e cells)) : aU P C σ mm σ ((n,.gY e p lens) :: mm) := fun R B g a w hs => by
 subst hc
 exact ⟨R,B,g,hs.obj (o := .gY e p lens) h (show dM P w R B g n e (jd p lens) from hs.ob n (.row e (jd p lens)) h)⟩
end
end Go.Fw
end
section
set_option linter.unusedVariables false
set_option linter.unusedSimpArgs false
set_option linter.unnecessarySimpa false
namespace Go.Fw
section
variable {P : Program} {o : Oper} {α : Type} {enc : α → List PV}
theorem nV.blk {w : World} {R B : Nat → Prop} {s : GS} {e : TypeId} {els : List (List PV)} (h : nV P w R B s e els) {b : Nat} (hb : s = .blk b) {cur : Array Value} {e' : TypeId} (hh : w.heap[b]? = some (.cells cur e' (0,0))) :
  e' = e ∧ (∀ cs ∈ els,cs.length = bH P e) ∧ els.length * bH P e ≤ cur.size ∧ ∀ (j k : Nat) cs x,els[j]? = some cs → cs[k]? = some x → ∃ u,cur[j * bH P e + k]? = some u ∧ fP w R B x u := by
 rcases h with ⟨h1,_⟩ | ⟨b',cur',h1,h2,h3,h4,h5⟩
 ·rw [hb] at h1; cases h1
 ·rw [hb] at h1
  injection h1 with h1
  subst h1
  rw [hh] at h2
  injection h2 with h2
  injection h2 with h2 h6 h7
  subst h2
  subst h6
  exact ⟨rfl,h3,h4,h5⟩
end
end Go.Fw
end
section
set_option linter.unusedVariables false
set_option linter.unusedSimpArgs false
set_option linter.unnecessarySimpa false
namespace Go.Fw
section
variable {P : Program} {C : Ctx} {σ : Slots} {mm : Mem} {α : Type} {enc : α → List PV}
theorem aU.lens {n p : Nat} {e : TypeId} {lens lens' : List Nat} (he : lens = lens') (h : lk mm n = some (.gY e p lens)) : aU P C σ mm σ ((n,.gY e p lens') :: mm) := fun R B g a w hs => by
 subst he
 exact ⟨R,B,g,hs.obj h (hs.ob n _ h)⟩
end
end Go.Fw
end
section
set_option linter.unusedVariables false
set_option linter.unusedSimpArgs false
set_option linter.unnecessarySimpa false
namespace Go.Fw
inductive qJ (n : Nat) (els : List (List PV)) : CV → CV → Prop
 | same {x y : CV} (h : au [n] x = y) : qJ n els x y
 | fr {l : Nat} (h : l = els.length) : qJ n els (.loc n 0 l) (.pv (.xs true els))
inductive nU (n : Nat) (els : List (List PV)) : List CV → List CV → Prop
 | nil : nU n els [] []
 | cons {x y : CV} {xs ys : List CV} (h : qJ n els x y) (t : nU n els xs ys) : nU n els (x :: xs) (y :: ys)
inductive rQ (n : Nat) (els : List (List PV)) : AV → AV → Prop
 | same {x y : AV} (h : jb [n] x = y) : rQ n els x y
 | c {x y : CV} (h : qJ n els x y) : rQ n els (.s (.c x)) (.s (.c y))
 | agg {xs ys : List CV} (h : nU n els xs ys) : rQ n els (.s (.agg xs)) (.s (.agg ys))
inductive uU (n : Nat) (els : List (List PV)) : Ob → Ob → Prop
 | same {x y : Ob} (h : iT [n] x = y) : uU n els x y
 | row {e : TypeId} {xs ys : List CV} (h : nU n els xs ys) : uU n els (.row e [xs]) (.row e [ys])
def zZ (n : Nat) (els : List (List PV)) (σ : Slots) : Slots → Prop
 | [] => True
 | (t,v) :: r => (∃ x,lk σ t = some x ∧ rQ n els x v) ∧ zZ n els σ r
def zY (n : Nat) (els : List (List PV)) (m : Mem) : Mem → Prop
 | [] => True
 | (k,o) :: r => (Nat.beq k n = false ∧ ∃ x,lk m k = some x ∧ uU n els x o) ∧ zY n els m r
section
variable {P : Program} {C : Ctx} {σ σ' : Slots} {m m' : Mem} {n : Nat} {els : List (List PV)}
theorem zZ.get : ∀ {σ' : Slots},zZ n els σ σ' → ∀ t v,lk σ' t = some v → ∃ x,lk σ t = some x ∧ rQ n els x v
 | [],_,t,v,h => by cases h
 | (k,v') :: r,h,t,v,hl => by
  change (bif Nat.beq k t then some v' else lk r t) = some v at hl
  cases hb : Nat.beq k t with
  | true =>
   rw [hb,cond_true] at hl
   injection hl with hl
   subst hl
   have := Nat.eq_of_beq_eq_true hb
   subst this
   exact h.1
  | false =>
   rw [hb,cond_false] at hl
   exact zZ.get h.2 t v hl
theorem zY.get : ∀ {m' : Mem},zY n els m m' → ∀ k o,lk m' k = some o → k ≠ n ∧ ∃ x,lk m k = some x ∧ uU n els x o
 | [],_,t,v,h => by cases h
 | (k,v') :: r,h,t,v,hl => by
  change (bif Nat.beq k t then some v' else lk r t) = some v at hl
  cases hb : Nat.beq k t with
  | true =>
   rw [hb,cond_true] at hl
   injection hl with hl
   subst hl
   have := Nat.eq_of_beq_eq_true hb
   subst this
   exact ⟨Nat.ne_of_beq_eq_false h.1.1,h.1.2⟩
  | false =>
   rw [hb,cond_false] at hl
   exact zY.get h.2 t v hl
theorem nU.get {xs ys : List CV} (h : nU n els xs ys) : xs.length = ys.length ∧ ∀ (k : Nat) y,ys[k]? = some y → ∃ x,xs[k]? = some x ∧ qJ n els x y := by
 induction h with
 | nil => exact ⟨rfl,fun k y h => by simp at h⟩
 | cons h _ ih =>
  refine ⟨by simp [ih.1],fun k y hk => ?_⟩
  cases k with
  | zero => simp at hk; subst hk; exact ⟨_,rfl,h⟩
  | succ k => exact ih.2 k y (by simpa using hk)
section
variable {w : World} {R B R' B' : Nat → Prop} {g g' : Nat → GS}
theorem qJ.rc (had : dW R B g w [] [n] R' B' g' w) (hw : WF R B g w) (hv : ∀ v,RC P w R B g (.loc n 0 els.length) v → fP w R' B' (.xs true els) v) {x y : CV} {v : Value} (h : qJ n els x y) (hx : RC P w R B g x v) : RC P w R' B' g' y v := by
 cases h with
 | same h => subst h; exact had.rc hw hx
 | fr h => subst h; exact ⟨hx.1,hv v hx⟩
theorem nU.rl (had : dW R B g w [] [n] R' B' g' w) (hw : WF R B g w) (hv : ∀ v,RC P w R B g (.loc n 0 els.length) v → fP w R' B' (.xs true els) v) {xs ys : List CV} (h : nU n els xs ys) {us : Nat → Option Value} (hx : ∀ (k : Nat) x,xs[k]? = some x → ∃ u,us k = some u ∧ RC P w R B g x u) :
  ∀ (k : Nat) y,ys[k]? = some y → ∃ u,us k = some u ∧ RC P w R' B' g' y u := fun k y hk => by
 obtain ⟨x,h1,h2⟩ := h.get.2 k y hk
 obtain ⟨u,h3,h4⟩ := hx k x h1
 exact ⟨u,h3,h2.rc had hw hv h4⟩
theorem rQ.ra (had : dW R B g w [] [n] R' B' g' w) (hw : WF R B g w) (hv : ∀ v,RC P w R B g (.loc n 0 els.length) v → fP w R' B' (.xs true els) v) {x y : AV} {v : Value} (h : rQ n els x y) (hx : RA P w R B g x v) : RA P w R' B' g' y v := by
 cases h with
 | same h => subst h; exact had.ra hw hx
 | c h => exact qJ.rc had hw hv h hx
 | agg h =>
  obtain ⟨vs,h1,h2,h3⟩ := hx
  exact ⟨vs,h1,h2.trans h.get.1,nU.rl had hw hv h h3⟩
theorem uU.ro (had : dW R B g w [] [n] R' B' g' w) (hw : WF R B g w) (hv : ∀ v,RC P w R B g (.loc n 0 els.length) v → fP w R' B' (.xs true els) v) {k : Nat} (hk : k ≠ n) {x y : Ob} (h : uU n els x y) (hx : RO P w R B g k x) : RO P w R' B' g' k y := by
 cases h with
 | same h => subst h; exact had.ro hw (by simpa using hk) (by simp) hx
 | @row e xs ys h =>
  have hg : g' k = g k := had.names k (by simpa using hk)
  rcases hx with ⟨h1,h2⟩ | ⟨b,cur,h1,h2,h3,h4,h5⟩
  ·cases h2
  ·refine .inr ⟨b,cur,hg.trans h1,h2,fun cs hcs => ?_,h4,fun j i cs y hj hi => ?_⟩
   ·have : cs = ys := by simpa using hcs
    subst this
    rw [← h.get.1]
    exact h3 xs (by simp)
   ·cases j with
    | succ j => simp at hj
    | zero =>
     have : ys = cs := by simpa using hj
     subst this
     exact nU.rl had hw hv h (us := fun i => cur[0 * bH P e + i]?) (fun i x hi => h5 0 i xs x rfl hi) i y hi
end
variable {α : Type} {enc : α → List PV}
end
end Go.Fw
end
section
set_option linter.unusedVariables false
set_option linter.unusedSimpArgs false
set_option linter.unnecessarySimpa false
namespace Go.Fw
section
variable {P : Program} {w : World} {R B : Nat → Prop} {g : Nat → GS}
variable {o : Oper} {α : Type} {enc : α → List PV}
def Dv (P : Program) (t : TypeId) (i : Nat) : Option (TypeId × Nat) := match P.underlying t with
 | some (.struct fs) => (fs[i]?).map fun f => (f.type,f.offset)
 | _ => none
theorem LT.PI {x : Operand} {t T : TypeId} {i d : Nat} {cs : List CV} {c : CV} (ho : o.op = .field t x i) (h : Dv P t i = some (T,d)) (ha : iQ P T = some false) (hc : cs[d]? = some c) : LT P o [(x,Ag cs)] [] (Cc c) [] [] [] := .calm fun R B g w a _ hi _ => by
 obtain ⟨vs,hx,hl,hg⟩ := in1 hi
 obtain ⟨u,hu,hr⟩ := hg d c hc
 unfold Dv at h
 split at h
 ·rename_i fs hf
  cases hfi : fs[i]? with
  | none => rw [hfi] at h; cases h
  | some f =>
   rw [hfi] at h
   injection h with h
   injection h with h1 h2
   subst h1 h2
   exact ⟨u,by simp [execOp,ho,hx,Instr.field,run_underlying hf,hfi,asAgg,part,Bl ha,hu],hr⟩
 ·cases h
end
end Go.Fw
end
section
set_option linter.unusedVariables false
set_option linter.unusedSimpArgs false
set_option linter.unnecessarySimpa false
namespace Go.Fw
abbrev xF {α : Type} (enc : α → List PV) (l : List α) : CV := .pv (.xs false (l.map enc))
abbrev lo (n len : Nat) : CV := .loc n 0 len
abbrev pR {α : Type} (e : TypeId) (enc : α → List PV) (l : List α) : Ob := .dF e (l.map enc)
section
variable {P : Program} {C : Ctx} {σ : Slots} {m : Mem} {is : List It} {τ υ : Type} {M : Option τ} {K : τ → Post} {ops : Array Oper} {l : List Oper} {done : List Ct} {rest : List Oper} {o : Oper}
theorem On (h : aB P C is σ m M K) : aT P C ops [] is σ m M K := aT.nil h
theorem ak {x : Option υ} {f : υ → Option τ} (h : ∀ u,x = some u → aT P C ops rest is σ m (f u) K) : aT P C ops rest is σ m (x.bind f) K := aT.bind h
theorem Ws {x y : Code} (h : aB P C (.code x :: .code y :: is) σ m M K) : aB P C (.code (.seq x y) :: is) σ m M K := aB.seq h
theorem Wr {id : Nat} {l : List Oper} (h : aT P C l.toArray l is σ m M K) : aB P C (.code (.region id l.toArray false) :: is) σ m M K := aB.region h
theorem Ok {j : Nat} {want : Bool} {d : Tmp} {c : Bool} (hg : o.guard = some (j,want)) (h1 : (ops[j]?).bind (·.dst) = some d) (h2 : lk σ d = some (Bv c)) (h3 : (c == want) = false) (hd : dQ C.N o.dst = true) (h : aT P C ops rest is (dH σ o.dst (.cZ [])) m M K) : aT P C ops (o :: rest) is σ m M K :=
 aT.skip (by unfold dU; rw [hg]; exact ⟨d,h1,.inl ⟨c,h2,h3.symm⟩⟩) hd h
theorem Oj {j : Nat} {want : Bool} {d : Tmp} (hg : o.guard = some (j,want)) (h1 : (ops[j]?).bind (·.dst) = some d) (h2 : lk σ d = some (.cZ [])) (hd : dQ C.N o.dst = true) (h : aT P C ops rest is (dH σ o.dst (.cZ [])) m M K) : aT P C ops (o :: rest) is σ m M K :=
 aT.skip (by unfold dU; rw [hg]; exact ⟨d,h1,.inr ⟨h2,rfl⟩⟩) hd h
theorem zf   {v : AV} (hlt : LT P o [] [] v [] [] [])   (hg : dU ops σ o true) (hd : dQ C.N o.dst = true) (h : aT P C ops rest is (dH σ o.dst v) m M K) : aT P C ops (o :: rest) is σ m M K := aT.pure hlt trivial trivial hg hd h
theorem dX   {v : AV} {df : Mem} {W X : List Nat} (hlt : LT P o [] [] v df W X)   (hg : dU ops σ o true) (hs : (dQ C.N o.dst && dS W (X ++ keys df) && dS W (keys ([] : Mem)) && dS (keys df) (X ++ W) && jQ X C.pn) = true) (h : aT P C ops rest is (dH (jE X σ) o.dst v) (df ++ gG X m) M K) : aT P C ops (o :: rest) is σ m M K := aT.step hlt trivial trivial hg hs h
theorem rP   {v : AV} {df : Mem} {W X : List Nat} (hlt : LT P o [] [] v df W X)   (hg : dU l.toArray σ o true) (hs : (dQ C.N o.dst && dS W (X ++ keys df) && dS W (keys ([] : Mem)) && dS (keys df) (X ++ W) && jQ X C.pn) = true) (h : aS P C l (⟨[],[],v,df,W,X,true⟩ :: done) rest is (dH (jE X σ) o.dst v) (df ++ gG X m) M K) : aS P C l done (o :: rest) is σ m M K := aS.step hlt trivial trivial hg hs h
theorem aZ {x0 : Operand} {v0 : AV}  {v : AV} (hlt : LT P o [(x0,v0)] [] v [] [] []) (e0 : dI σ x0 v0)  (hg : dU ops σ o true) (hd : dQ C.N o.dst = true) (h : aT P C ops rest is (dH σ o.dst v) m M K) : aT P C ops (o :: rest) is σ m M K := aT.pure hlt ⟨e0,trivial⟩ trivial hg hd h
theorem dG {x0 : Operand} {v0 : AV}  {v : AV} {df : Mem} {W X : List Nat} (hlt : LT P o [(x0,v0)] [] v df W X) (e0 : dI σ x0 v0)  (hg : dU ops σ o true) (hs : (dQ C.N o.dst && dS W (X ++ keys df) && dS W (keys ([] : Mem)) && dS (keys df) (X ++ W) && jQ X C.pn) = true) (h : aT P C ops rest is (dH (jE X σ) o.dst v) (df ++ gG X m) M K) : aT P C ops (o :: rest) is σ m M K := aT.step hlt ⟨e0,trivial⟩ trivial hg hs h
theorem bg {x0 : Operand} {v0 : AV}  {v : AV} (hlt : LT P o [(x0,v0)] [] v [] [] []) (e0 : dI σ x0 v0)  (hg : dU l.toArray σ o true) (hd : dQ C.N o.dst = true) (h : aS P C l (⟨[(x0,v0)],[],v,[],[],[],true⟩ :: done) rest is (dH σ o.dst v) m M K) : aS P C l done (o :: rest) is σ m M K := aS.pure hlt ⟨e0,trivial⟩ trivial hg hd h
theorem DT {x0 : Operand} {v0 : AV}  {v : AV} {df : Mem} {W X : List Nat} (hlt : LT P o [(x0,v0)] [] v df W X) (e0 : dI σ x0 v0)  (hg : dU l.toArray σ o true) (hs : (dQ C.N o.dst && dS W (X ++ keys df) && dS W (keys ([] : Mem)) && dS (keys df) (X ++ W) && jQ X C.pn) = true) (h : aS P C l (⟨[(x0,v0)],[],v,df,W,X,true⟩ :: done) rest is (dH (jE X σ) o.dst v) (df ++ gG X m) M K) : aS P C l done (o :: rest) is σ m M K := aS.step hlt ⟨e0,trivial⟩ trivial hg hs h
theorem bZ {x0 : Operand} {v0 : AV} {n0 : Nat} {o0 : Ob} {v : AV} (hlt : LT P o [(x0,v0)] [(n0,o0)] v [] [] []) (e0 : dI σ x0 v0) (l0 : lk m n0 = some o0) (hg : dU ops σ o true) (hd : dQ C.N o.dst = true) (h : aT P C ops rest is (dH σ o.dst v) m M K) : aT P C ops (o :: rest) is σ m M K := aT.pure hlt ⟨e0,trivial⟩ ⟨l0,trivial⟩ hg hd h
theorem fZ {x0 : Operand} {v0 : AV} {n0 : Nat} {o0 : Ob} {v : AV} (hlt : LT P o [(x0,v0)] [(n0,o0)] v [] [] []) (e0 : dI σ x0 v0) (l0 : lk m n0 = some o0) (hg : dU l.toArray σ o true) (hd : dQ C.N o.dst = true) (h : aS P C l (⟨[(x0,v0)],[(n0,o0)],v,[],[],[],true⟩ :: done) rest is (dH σ o.dst v) m M K) : aS P C l done (o :: rest) is σ m M K := aS.pure hlt ⟨e0,trivial⟩ ⟨l0,trivial⟩ hg hd h
theorem fA {x0 : Operand} {v0 : AV} {x1 : Operand} {v1 : AV}  {v : AV} (hlt : LT P o [(x0,v0),(x1,v1)] [] v [] [] []) (e0 : dI σ x0 v0) (e1 : dI σ x1 v1)  (hg : dU ops σ o true) (hd : dQ C.N o.dst = true) (h : aT P C ops rest is (dH σ o.dst v) m M K) : aT P C ops (o :: rest) is σ m M K := aT.pure hlt ⟨e0,e1,trivial⟩ trivial hg hd h
theorem DV {x0 : Operand} {v0 : AV} {x1 : Operand} {v1 : AV}  {v : AV} {df : Mem} {W X : List Nat} (hlt : LT P o [(x0,v0),(x1,v1)] [] v df W X) (e0 : dI σ x0 v0) (e1 : dI σ x1 v1)  (hg : dU ops σ o true) (hs : (dQ C.N o.dst && dS W (X ++ keys df) && dS W (keys ([] : Mem)) && dS (keys df) (X ++ W) && jQ X C.pn) = true) (h : aT P C ops rest is (dH (jE X σ) o.dst v) (df ++ gG X m) M K) : aT P C ops (o :: rest) is σ m M K := aT.step hlt ⟨e0,e1,trivial⟩ trivial hg hs h
theorem eu {x0 : Operand} {v0 : AV} {x1 : Operand} {v1 : AV}  {v : AV} (hlt : LT P o [(x0,v0),(x1,v1)] [] v [] [] []) (e0 : dI σ x0 v0) (e1 : dI σ x1 v1)  (hg : dU l.toArray σ o true) (hd : dQ C.N o.dst = true) (h : aS P C l (⟨[(x0,v0),(x1,v1)],[],v,[],[],[],true⟩ :: done) rest is (dH σ o.dst v) m M K) : aS P C l done (o :: rest) is σ m M K := aS.pure hlt ⟨e0,e1,trivial⟩ trivial hg hd h
theorem jJ {x0 : Operand} {v0 : AV} {x1 : Operand} {v1 : AV} {n0 : Nat} {o0 : Ob} {v : AV} (hlt : LT P o [(x0,v0),(x1,v1)] [(n0,o0)] v [] [] []) (e0 : dI σ x0 v0) (e1 : dI σ x1 v1) (l0 : lk m n0 = some o0) (hg : dU ops σ o true) (hd : dQ C.N o.dst = true) (h : aT P C ops rest is (dH σ o.dst v) m M K) : aT P C ops (o :: rest) is σ m M K := aT.pure hlt ⟨e0,e1,trivial⟩ ⟨l0,trivial⟩ hg hd h
theorem bn {x0 : Operand} {v0 : AV} {x1 : Operand} {v1 : AV} {n0 : Nat} {o0 : Ob} {v : AV} {df : Mem} {W X : List Nat} (hlt : LT P o [(x0,v0),(x1,v1)] [(n0,o0)] v df W X) (e0 : dI σ x0 v0) (e1 : dI σ x1 v1) (l0 : lk m n0 = some o0) (hg : dU ops σ o true) (hs : (dQ C.N o.dst && dS W (X ++ keys df) && dS W (keys [(n0,o0)]) && dS (keys df) (X ++ W) && jQ X C.pn) = true) (h : aT P C ops rest is (dH (jE X σ) o.dst v) (df ++ gG X m) M K) : aT P C ops (o :: rest) is σ m M K := aT.step hlt ⟨e0,e1,trivial⟩ ⟨l0,trivial⟩ hg hs h
theorem kF {x0 : Operand} {v0 : AV} {x1 : Operand} {v1 : AV} {n0 : Nat} {o0 : Ob} {v : AV} (hlt : LT P o [(x0,v0),(x1,v1)] [(n0,o0)] v [] [] []) (e0 : dI σ x0 v0) (e1 : dI σ x1 v1) (l0 : lk m n0 = some o0) (hg : dU l.toArray σ o true) (hd : dQ C.N o.dst = true) (h : aS P C l (⟨[(x0,v0),(x1,v1)],[(n0,o0)],v,[],[],[],true⟩ :: done) rest is (dH σ o.dst v) m M K) : aS P C l done (o :: rest) is σ m M K := aS.pure hlt ⟨e0,e1,trivial⟩ ⟨l0,trivial⟩ hg hd h
theorem kQ {x0 : Operand} {v0 : AV} {x1 : Operand} {v1 : AV} {n0 : Nat} {o0 : Ob} {v : AV} {df : Mem} {W X : List Nat} (hlt : LT P o [(x0,v0),(x1,v1)] [(n0,o0)] v df W X) (e0 : dI σ x0 v0) (e1 : dI σ x1 v1) (l0 : lk m n0 = some o0) (hg : dU l.toArray σ o true) (hs : (dQ C.N o.dst && dS W (X ++ keys df) && dS W (keys [(n0,o0)]) && dS (keys df) (X ++ W) && jQ X C.pn) = true) (h : aS P C l (⟨[(x0,v0),(x1,v1)],[(n0,o0)],v,df,W,X,true⟩ :: done) rest is (dH (jE X σ) o.dst v) (df ++ gG X m) M K) : aS P C l done (o :: rest) is σ m M K := aS.step hlt ⟨e0,e1,trivial⟩ ⟨l0,trivial⟩ hg hs h
theorem lZ {x0 : Operand} {v0 : AV} {x1 : Operand} {v1 : AV} {n0 : Nat} {o0 : Ob} {n1 : Nat} {o1 : Ob} {v : AV} {df : Mem} {W X : List Nat} (hlt : LT P o [(x0,v0),(x1,v1)] [(n0,o0),(n1,o1)] v df W X) (e0 : dI σ x0 v0) (e1 : dI σ x1 v1) (l0 : lk m n0 = some o0) (l1 : lk m n1 = some o1) (hg : dU ops σ o true) (hs : (dQ C.N o.dst && dS W (X ++ keys df) && dS W (keys [(n0,o0),(n1,o1)]) && dS (keys df) (X ++ W) && jQ X C.pn) = true) (h : aT P C ops rest is (dH (jE X σ) o.dst v) (df ++ gG X m) M K) : aT P C ops (o :: rest) is σ m M K := aT.step hlt ⟨e0,e1,trivial⟩ ⟨l0,l1,trivial⟩ hg hs h
theorem DU {x0 : Operand} {v0 : AV} {x1 : Operand} {v1 : AV} {n0 : Nat} {o0 : Ob} {n1 : Nat} {o1 : Ob} {v : AV} {df : Mem} {W X : List Nat} (hlt : LT P o [(x0,v0),(x1,v1)] [(n0,o0),(n1,o1)] v df W X) (e0 : dI σ x0 v0) (e1 : dI σ x1 v1) (l0 : lk m n0 = some o0) (l1 : lk m n1 = some o1) (hg : dU l.toArray σ o true) (hs : (dQ C.N o.dst && dS W (X ++ keys df) && dS W (keys [(n0,o0),(n1,o1)]) && dS (keys df) (X ++ W) && jQ X C.pn) = true) (h : aS P C l (⟨[(x0,v0),(x1,v1)],[(n0,o0),(n1,o1)],v,df,W,X,true⟩ :: done) rest is (dH (jE X σ) o.dst v) (df ++ gG X m) M K) : aS P C l done (o :: rest) is σ m M K := aS.step hlt ⟨e0,e1,trivial⟩ ⟨l0,l1,trivial⟩ hg hs h
theorem NK {x0 : Operand} {v0 : AV} {x1 : Operand} {v1 : AV} {x2 : Operand} {v2 : AV}  {v : AV} (hlt : LT P o [(x0,v0),(x1,v1),(x2,v2)] [] v [] [] []) (e0 : dI σ x0 v0) (e1 : dI σ x1 v1) (e2 : dI σ x2 v2)  (hg : dU ops σ o true) (hd : dQ C.N o.dst = true) (h : aT P C ops rest is (dH σ o.dst v) m M K) : aT P C ops (o :: rest) is σ m M K := aT.pure hlt ⟨e0,e1,e2,trivial⟩ trivial hg hd h
theorem Gy {x0 : Operand} {v0 : AV} {x1 : Operand} {v1 : AV} {x2 : Operand} {v2 : AV}  {v : AV} (hlt : LT P o [(x0,v0),(x1,v1),(x2,v2)] [] v [] [] []) (e0 : dI σ x0 v0) (e1 : dI σ x1 v1) (e2 : dI σ x2 v2)  (hg : dU l.toArray σ o true) (hd : dQ C.N o.dst = true) (h : aS P C l (⟨[(x0,v0),(x1,v1),(x2,v2)],[],v,[],[],[],true⟩ :: done) rest is (dH σ o.dst v) m M K) : aS P C l done (o :: rest) is σ m M K := aS.pure hlt ⟨e0,e1,e2,trivial⟩ trivial hg hd h
theorem Gz {x0 : Operand} {v0 : AV} {x1 : Operand} {v1 : AV} {x2 : Operand} {v2 : AV} {n0 : Nat} {o0 : Ob} {v : AV} {df : Mem} {W X : List Nat} (hlt : LT P o [(x0,v0),(x1,v1),(x2,v2)] [(n0,o0)] v df W X) (e0 : dI σ x0 v0) (e1 : dI σ x1 v1) (e2 : dI σ x2 v2) (l0 : lk m n0 = some o0) (hg : dU ops σ o true) (hs : (dQ C.N o.dst && dS W (X ++ keys df) && dS W (keys [(n0,o0)]) && dS (keys df) (X ++ W) && jQ X C.pn) = true) (h : aT P C ops rest is (dH (jE X σ) o.dst v) (df ++ gG X m) M K) : aT P C ops (o :: rest) is σ m M K := aT.step hlt ⟨e0,e1,e2,trivial⟩ ⟨l0,trivial⟩ hg hs h
theorem mv (v : AV) {x : Operand} (ho : o.op = .move x) (e : dI σ x v) (hg : dU ops σ o true) (hd : dQ C.N o.dst = true) (h : aT P C ops rest is (dH σ o.dst v) m M K) : aT P C ops (o :: rest) is σ m M K := aT.pure (LT.move ho) ⟨e,trivial⟩ trivial hg hd h
theorem NY (v : AV) {x : Operand} (ho : o.op = .assign x) (e : dI σ x v) (hg : dU ops σ o true) (hd : dQ C.N o.dst = true) (h : aT P C ops rest is (dH σ o.dst v) m M K) : aT P C ops (o :: rest) is σ m M K := aT.pure (LT.assign ho) ⟨e,trivial⟩ trivial hg hd h
theorem en (σ' : Slots) (m' : Mem) (h1 : qN σ' σ) (h2 : qM m' m) (k : aB P C is σ' m' M K) : aB P C is σ m M K := aB.ent (aU.of h1 h2) k
end
end Go.Fw
end
section
set_option linter.unusedVariables false
set_option linter.unusedSimpArgs false
set_option linter.unnecessarySimpa false
set_option maxRecDepth 100000
set_option maxHeartbeats 8000000
open Go Go.Fw
namespace Go.Proofs.Ytdmlaldifbmkpaa
structure aK where
  mk ::
  A : Int
  B : Int
structure aX where
  mk ::
  aH : Int
  aC : (List aK)
structure DY where
  mk ::
  X : Int
  Y : Int
structure zn where
  mk ::
  Graph : aX
  Places : (List DY)
structure aY where
  mk ::
  Free : (List Int)
  aJ : (List Int)
  aI : (List Int)
def aF (a : aK) : List PV := [.sc (.int .i64 a.A), .sc (.int .i64 a.B)]
theorem mJ (a : aK) : rX (aF a) := ⟨.sc, .sc, trivial⟩
def aA (a : Int) : List PV := [.sc (.int .i64 a)]
theorem dK (a : Int) : rX (aA a) := ⟨.sc, trivial⟩
def oL (a : Bool) : List PV := [.sc (.bool a)]
def tK (a : aK) (b : aK) : Option Bool :=
(((
(bif (decide (a.A < b.A)) then
 some true
 else
(bif (a.A == b.A) then
 some (decide (a.B ≤ b.B))
 else
 some false
)
)
) : Option Bool).bind (fun j3 =>
 some j3
))
def pq (g : aX) (x : aK) (s1 : (Bool × Int × (List aK))) : Option ((Bool × Int × (List aK)) ⊕ (Bool × (List aK))) :=
(bif (decide (s1.2.1 < (g.aC.length : Int))) then
(((
(bif (!s1.1) then
(idx g.aC s1.2.1).bind (fun uS =>
(tK uS x).bind (fun Ba =>
 some (!Ba)
)
)
 else
 some false
)
) : Option Bool).bind (fun j34 =>
(((
(bif j34 then
(lim (s1.2.2.length + [x].length)).bind (fun u42 =>
 some (true, (s1.2.2 ++ [x]))
)
 else
 some (s1.1, s1.2.2)
)
) : Option (Bool × (List aK))).bind (fun j40 =>
(idx g.aC s1.2.1).bind (fun x43 =>
(lim (j40.2.length + [x43].length)).bind (fun u44 =>
 some (.inl (j40.1, (aP (s1.2.1 + 1)), (j40.2 ++ [x43])))
)
)
))
))
 else
 some (.inr (s1.1, s1.2.2))
)
def wG (g : aX) (x : aK) : Option aX :=
((bQ (pq g x) BIG (false, 0, ([] : List aK))).bind (fun mg =>
(((
(bif (!mg.1) then
(lim (mg.2.length + [x].length)).bind (fun u49 =>
 some (mg.2 ++ [x])
)
 else
 some mg.2
)
) : Option (List aK)).bind (fun j47 =>
 some (aX.mk g.aH j47)
))
))
def qo (x : Int) (low : Int) (high : Int) : Option Bool :=
(((
(bif (decide (low ≤ x)) then
 some (decide (x ≤ high))
 else
 some false
)
) : Option Bool).bind (fun j2 =>
 some j2
))
def yZ (g : aX) (s7 : Int) : Option (Int ⊕ (Unit ⊕ Bool)) :=
(bif (decide (s7 < (g.aC.length : Int))) then
(idx g.aC s7).bind (fun dn =>
(((
(bif (decide (dn.A < 0)) then
 some true
 else
(bif (decide (dn.B ≤ dn.A)) then
 some true
 else
(bif (decide (g.aH ≤ dn.B)) then
 some true
 else
(bif (decide (0 < s7)) then
(idx g.aC (aP (s7 - 1))).bind (fun x54 =>
(tK x54 dn).bind (fun lU =>
 some (!lU)
)
)
 else
 some false
)
)
)
)
) : Option Bool).bind (fun j49 =>
(bif j49 then
 some (.inr (.inr false))
 else
 some (.inl (aP (s7 + 1)))
)
))
)
 else
 some (.inr (.inl ()))
)
def pY (g : aX) : Option Bool :=
(((
(qo g.aH 1 8).bind (fun r4 =>
(bif (!r4) then
 some true
 else
 some (decide (24 < (g.aC.length : Int)))
)
)
) : Option Bool).bind (fun j3 =>
(bif j3 then
 some false
 else
((bQ (yZ g) BIG 0).bind (Sum.elim (fun wz => (
 some true
)) (fun r => some r)))
)
))
def yu (g : aX) : Option aX :=
(lim (([] : List aK).length + g.aC.length)).bind (fun u1 =>
 some (aX.mk g.aH (([] : List aK) ++ g.aC))
)
def qi (x : Int) (vM : Int) (hi : Int) : Option Bool :=
(((
(bif (decide (vM ≤ x)) then
 some (decide (x ≤ hi))
 else
 some false
)
) : Option Bool).bind (fun j2 =>
 some j2
))
def vS (a : Int) (b : Int) : Option Int :=
(bif (decide (a < b)) then
 some (-1)
 else
(bif (decide (b < a)) then
 some 1
 else
 some 0
)
)
def vP (x : aK) (y : aK) : Option Int :=
(vS x.A y.A).bind (fun r1 =>
(bif (r1 != 0) then
 some r1
 else
(vS x.B y.B).bind (fun r3 =>
 some r3
)
)
)
def qY (g : aX) (s7 : Int) : Option (Int ⊕ (Unit ⊕ Bool)) :=
(bif (decide (s7 < (g.aC.length : Int))) then
(idx g.aC s7).bind (fun dn =>
(((
(bif (decide (dn.A < 0)) then
 some true
 else
(bif (decide (dn.B ≤ dn.A)) then
 some true
 else
(bif (decide (g.aH ≤ dn.B)) then
 some true
 else
(bif (decide (0 < s7)) then
(idx g.aC (aP (s7 - 1))).bind (fun x54 =>
(vP x54 dn).bind (fun lU =>
 some (decide (0 < lU))
)
)
 else
 some false
)
)
)
)
) : Option Bool).bind (fun j49 =>
(bif j49 then
 some (.inr (.inr false))
 else
 some (.inl (aP (s7 + 1)))
)
))
)
 else
 some (.inr (.inl ()))
)
def pW (g : aX) : Option Bool :=
(((
(qi g.aH 1 8).bind (fun r4 =>
(bif (!r4) then
 some true
 else
 some (decide (24 < (g.aC.length : Int)))
)
)
) : Option Bool).bind (fun j3 =>
(bif j3 then
 some false
 else
((bQ (qY g) BIG 0).bind (Sum.elim (fun wz => (
 some true
)) (fun r => some r)))
)
))
def sU (l : (List Int)) : Option (List Int) :=
(lim (([] : List Int).length + l.length)).bind (fun u1 =>
 some (([] : List Int) ++ l)
)
def yE (x : aK) (v : Int) : Option Int :=
(bif (x.A == v) then
 some x.B
 else
 some x.A
)
def tV (b : aK) (v : Int) : Option Int :=
 some (aP ((aP (b.A + b.B)) - v))
def yR (a : (List aK)) (leftV : Int) : Option Int :=
(bif (decide ((aP (leftV - (a.length : Int))) < 0)) then
 some (-1)
 else
 some (aP (leftV - (a.length : Int)))
)
def yS (a : aX) (leftV : Int) : Option Int :=
(yR a.aC leftV).bind (fun r1 =>
(bif (decide (r1 < 0)) then
 some (-1)
 else
 some r1
)
)
def BA (a : aK) : Option aK :=
 some a
def yU (a : (List aK)) (s2 : (Int × (List aK))) : Option ((Int × (List aK)) ⊕ (List aK)) :=
(bif (decide (s2.1 < (a.length : Int))) then
(idx a s2.1).bind (fun zQ =>
(BA zQ).bind (fun nR =>
(idx s2.2 s2.1).bind (fun x15 =>
 some (.inl ((aP (s2.1 + 1)), (s2.2.set s2.1.toNat nR)))
)
)
)
 else
 some (.inr s2.2)
)
def yT (a : (List aK)) : Option (List aK) :=
(sQ (a.length : Int)).bind (fun u1 =>
((bQ (yU a) BIG (0, (List.replicate (a.length : Int).toNat (aK.mk (0 : Int) (0 : Int))))).bind (fun b11 =>
 some b11
))
)
def ql (a : aX) : Option aX :=
(yT a.aC).bind (fun r1 =>
 some (aX.mk a.aH r1)
)
def vT (g : aX) : Option aX :=
(lim (([] : List aK).length + g.aC.length)).bind (fun u1 =>
 some (aX.mk g.aH (([] : List aK) ++ g.aC))
)
def A8 (a : aK) (b : aK) : Option Bool :=
(bif (a.A != b.A) then
 some false
 else
(bif (a.B != b.B) then
 some false
 else
 some true
)
)
def yO (a : (List aK)) (b : (List aK)) (s2 : Int) : Option (Int ⊕ (Unit ⊕ Bool)) :=
(bif (decide (s2 < (a.length : Int))) then
(idx a s2).bind (fun x15 =>
(idx b s2).bind (fun x16 =>
(A8 x15 x16).bind (fun F5 =>
(bif (!F5) then
 some (.inr (.inr false))
 else
 some (.inl (aP (s2 + 1)))
)
)
)
)
 else
 some (.inr (.inl ()))
)
def qj (a : (List aK)) (b : (List aK)) : Option Bool :=
(bif ((a.length : Int) != (b.length : Int)) then
 some false
 else
((bQ (yO a b) BIG 0).bind (Sum.elim (fun b13 => (
 some true
)) (fun r => some r)))
)
def yP (a : aX) (b : aX) : Option Bool :=
(bif (a.aH != b.aH) then
 some false
 else
(qj a.aC b.aC).bind (fun r2 =>
(bif (!r2) then
 some false
 else
 some true
)
)
)
def vg  (s1 : (Int × Int × (List aK))) : Option ((Int × Int × (List aK)) ⊕ (Int × (List aK))) :=
(bif (decide (s1.2.1 < (s1.2.2.length : Int))) then
(idx s1.2.2 s1.2.1).bind (fun x10 =>
(idx (s1.2.2.set s1.2.1.toNat (aK.mk s1.1 x10.B)) s1.2.1).bind (fun x11 =>
 some (.inl ((aP ((aP (s1.1 + 1)) + 1)), (aP (s1.2.1 + 1)), ((s1.2.2.set s1.2.1.toNat (aK.mk s1.1 x10.B)).set s1.2.1.toNat (aK.mk x11.A (aP (s1.1 + 1))))))
)
)
 else
 some (.inr (s1.1, s1.2.2))
)
def ve (a : (List aK)) (k : Int) : Option (Int × (List aK)) :=
((bQ (vg) BIG (k, 0, a)).bind (fun b8 =>
 some (b8.1, b8.2)
))
def yQ (a : aX) (k : Int) : Option (Int × (List aK)) :=
(ve a.aC k).bind (fun r1 =>
 some (r1.1, r1.2)
)
def yX (g : aX) (a : Int) (b : Int) (s1 : (Int × Int)) : Option ((Int × Int) ⊕ Int) :=
(bif (decide (s1.2 < (g.aC.length : Int))) then
(((
(idx g.aC s1.2).bind (fun Gw =>
(bif (Gw.A == a) then
(idx g.aC s1.2).bind (fun DK =>
(bif (DK.B == b) then
 some true
 else
(idx g.aC s1.2).bind (fun x69 =>
(bif (x69.A == b) then
(idx g.aC s1.2).bind (fun DL =>
 some (DL.B == a)
)
 else
 some false
)
)
)
)
 else
(idx g.aC s1.2).bind (fun Gx =>
(bif (Gx.A == b) then
(idx g.aC s1.2).bind (fun DN =>
 some (DN.B == a)
)
 else
 some false
)
)
)
)
) : Option Bool).bind (fun j64 =>
(((
(bif j64 then
 some (aP (s1.1 + 1))
 else
 some s1.1
)
) : Option Int).bind (fun j76 =>
 some (.inl (j76, (aP (s1.2 + 1))))
))
))
 else
 some (.inr s1.1)
)
def BB (g : aX) (a : Int) (b : Int) : Option Int :=
((bQ (yX g a b) BIG (0, 0)).bind (fun uZ =>
 some uZ
))
def yh (g : aX) (s1 : (Int × (List aK))) (s53 : (Int × (List aK))) : Option ((Int × (List aK)) ⊕ (Int × (List aK))) :=
(bif (decide (s53.1 < g.aH)) then
(BB g s1.1 s53.1).bind (fun F9 =>
(((
(bif (F9 == 0) then
(lim (s53.2.length + [(aK.mk s1.1 s53.1)].length)).bind (fun u75 =>
 some (s53.2 ++ [(aK.mk s1.1 s53.1)])
)
 else
 some s53.2
)
) : Option (List aK)).bind (fun j73 =>
 some (.inl ((aP (s53.1 + 1)), j73))
))
)
 else
 some (.inr (s1.1, s53.2))
)
def tH (g : aX) (s1 : (Int × (List aK))) : Option ((Int × (List aK)) ⊕ (List aK)) :=
(((
(bif (decide (s1.1 < g.aH)) then
(pY g).bind (fun Bd =>
 some Bd
)
 else
 some false
)
) : Option Bool).bind (fun j49 =>
(bif j49 then
((bQ (yh g s1) BIG ((aP (s1.1 + 1)), s1.2)).bind (fun ou =>
 some (.inl ((aP (ou.1 + 1)), ou.2))
))
 else
 some (.inr s1.2)
)
))
def tC (g : aX) : Option (List aK) :=
((bQ (tH g) BIG (0, ([] : List aK))).bind (fun gZ =>
 some gZ
))
def wE (g : aX) (k : Int) (s9 : (Int × (List Int))) : Option ((Int × (List Int)) ⊕ (List Int)) :=
(bif (decide (s9.1 < g.aH)) then
(lim (s9.2.length + ([k] : List Int).length)).bind (fun u16 =>
 some (.inl ((aP (s9.1 + 1)), (s9.2 ++ ([k] : List Int))))
)
 else
 some (.inr s9.2)
)
def wC (g : aX) (k : Int) : Option (aY × Bool) :=
(((
(pY g).bind (fun r5 =>
(bif (!r5) then
 some true
 else
(qo k 1 3).bind (fun r7 =>
 some (!r7)
)
)
)
) : Option Bool).bind (fun j4 =>
(bif j4 then
 some ((aY.mk ([] : List Int) ([] : List Int) ([] : List Int)), false)
 else
((bQ (wE g k) BIG (0, ([] : List Int))).bind (fun b14 =>
 some ((aY.mk b14 ([] : List Int) ([] : List Int)), true)
))
)
))
def pz (p : aY) : Option aY :=
(lim (([] : List Int).length + p.Free.length)).bind (fun u1 =>
(lim (([] : List Int).length + p.aJ.length)).bind (fun u2 =>
(lim (([] : List Int).length + p.aI.length)).bind (fun u3 =>
 some (aY.mk (([] : List Int) ++ p.Free) (([] : List Int) ++ p.aJ) (([] : List Int) ++ p.aI))
)
)
)
def tX (g : aX) (p : aY) (fromV : (List Int)) (a : Int) (u : Int) (r1 : aY) (x2 : Int) (x4 : Int) (s6 : (Int × (List Int))) : Option ((Int × (List Int)) ⊕ ((List Int) × (List Int) × (List Int))) :=
(bif (s6.1 != a) then
(idx fromV s6.1).bind (fun x21 =>
(idx p.aI x21).bind (fun NE =>
(idx g.aC NE).bind (fun x23 =>
(tV x23 s6.1).bind (fun jv =>
(idx s6.2 x21).bind (fun x25 =>
 some (.inl (jv, (s6.2.set x21.toNat s6.1)))
)
)
)
)
)
 else
 some (.inr (((r1.Free.set u.toNat (aP (x2 - 1))).set a.toNat (aP (x4 + 1))), s6.2, r1.aI))
)
def yw (g : aX) (p : aY) (fromV : (List Int)) (a : Int) (u : Int) : Option aY :=
(pz p).bind (fun r1 =>
(idx r1.Free u).bind (fun x2 =>
(idx r1.Free u).bind (fun x3 =>
(idx (r1.Free.set u.toNat (aP (x2 - 1))) a).bind (fun x4 =>
(idx (r1.Free.set u.toNat (aP (x2 - 1))) a).bind (fun x5 =>
((bQ (tX g p fromV a u r1 x2 x4) BIG (u, r1.aJ)).bind (fun b19 =>
 some (aY.mk b19.1 b19.2.1 b19.2.2)
))
)
)
)
)
)
def wH (g : aX) (s2 : (Int × (List Int))) : Option ((Int × (List Int)) ⊕ (List Int)) :=
(bif (decide (s2.1 < g.aH)) then
(idx s2.2 s2.1).bind (fun x9 =>
 some (.inl ((aP (s2.1 + 1)), (s2.2.set s2.1.toNat (-1))))
)
 else
 some (.inr s2.2)
)
def qA (g : aX) (p : aY) (a : Int) (b : Int) (s12 : (Int × (List Int) × (List Int) × (List Bool))) (x95 : Int) (bJ : (Int × (List Int) × (List Int) × (List Bool))) : Option ((Int × (List Int) × (List Int) × (List Bool)) ⊕ ((Int × (List Int) × (List Int) × (List Bool)) ⊕ (aY × Bool))) :=
(bif (decide (bJ.1 < (p.aI.length : Int))) then
(idx p.aJ bJ.1).bind (fun Mc =>
(bif (Mc != x95) then
 some (.inl ((aP (bJ.1 + 1)), bJ.2.1, bJ.2.2.1, bJ.2.2.2))
 else
(idx p.aI bJ.1).bind (fun Md =>
(idx g.aC Md).bind (fun zS =>
(tV zS x95).bind (fun fE =>
(idx bJ.2.2.2 fE).bind (fun Me =>
(bif Me then
 some (.inl ((aP (bJ.1 + 1)), bJ.2.1, bJ.2.2.1, bJ.2.2.2))
 else
(idx bJ.2.2.2 fE).bind (fun XD =>
(idx bJ.2.1 fE).bind (fun XE =>
(((
(bif (fE != b) then
(idx p.Free fE).bind (fun Gt =>
 some (decide (0 < Gt))
)
 else
 some false
)
) : Option Bool).bind (fun pO =>
(bif pO then
(yw g p (bJ.2.1.set fE.toNat bJ.1) a fE).bind (fun jc =>
 some (.inr (.inr (jc, true)))
)
 else
(lim (bJ.2.2.1.length + ([fE] : List Int).length)).bind (fun Vt =>
 some (.inl ((aP (bJ.1 + 1)), (bJ.2.1.set fE.toNat bJ.1), (bJ.2.2.1 ++ ([fE] : List Int)), (bJ.2.2.2.set fE.toNat true)))
)
)
))
)
)
)
)
)
)
)
)
)
 else
 some (.inr (.inl (s12.1, bJ.2.1, bJ.2.2.1, bJ.2.2.2)))
)
def tN (g : aX) (p : aY) (a : Int) (b : Int) (s12 : (Int × (List Int) × (List Int) × (List Bool))) : Option ((Int × (List Int) × (List Int) × (List Bool)) ⊕ (Unit ⊕ (aY × Bool))) :=
(bif (decide (s12.1 < (s12.2.2.1.length : Int))) then
(idx s12.2.2.1 s12.1).bind (fun x95 =>
((bQ (qA g p a b s12 x95) BIG (0, s12.2.1, s12.2.2.1, s12.2.2.2)).bind (Sum.elim (fun lg => (
 some (.inl ((aP (lg.1 + 1)), lg.2.1, lg.2.2.1, lg.2.2.2))
)) (fun r => some (.inr (.inr r)))))
)
 else
 some (.inr (.inl ()))
)
def qp (g : aX) (p : aY) (a : Int) (b : Int) : Option (aY × Bool) :=
(sQ g.aH).bind (fun u1 =>
((bQ (wH g) BIG (0, (List.replicate g.aH.toNat (0 : Int)))).bind (fun b7 =>
(sQ g.aH).bind (fun u10 =>
(idx (List.replicate g.aH.toNat false) a).bind (fun x11 =>
((bQ (tN g p a b) BIG (0, b7, ([a] : List Int), ((List.replicate g.aH.toNat false).set a.toNat true))).bind (Sum.elim (fun Hg => (
 some (p, false)
)) (fun r => some r)))
)
)
))
)
def qx (g : aX) (a : Int) (b : Int) (want : Int) (s2 : ((List Int) × (List Int) × (List Int))) : Option (((List Int) × (List Int) × (List Int)) ⊕ (((List Int) × (List Int) × (List Int)) ⊕ (aY × Bool))) :=
(idx s2.1 a).bind (fun x28 =>
(idx s2.1 b).bind (fun x29 =>
(bif (decide ((aP (x28 + x29)) < want)) then
(qp g (aY.mk s2.1 s2.2.1 s2.2.2) a b).bind (fun ax =>
(bif ax.2 then
(bif (!true) then
 none
 else
(bif (!true) then
 none
 else
 some (.inl (ax.1.Free, ax.1.aJ, ax.1.aI))
)
)
 else
(bif (!false) then
(qp g (aY.mk s2.1 s2.2.1 s2.2.2) b a).bind (fun fV =>
(bif fV.2 then
(bif (!true) then
 none
 else
 some (.inl (fV.1.Free, fV.1.aJ, fV.1.aI))
)
 else
(bif (!false) then
 some (.inr (.inr ((aY.mk s2.1 s2.2.1 s2.2.2), false)))
 else
 none
)
)
)
 else
 none
)
)
)
 else
 some (.inr (.inl (s2.1, s2.2.1, s2.2.2)))
)
)
)
def qw (g : aX) (p : aY) (a : Int) (b : Int) (want : Int) : Option (aY × Bool) :=
(pz p).bind (fun r1 =>
((bQ (qx g a b want) BIG (r1.Free, r1.aJ, r1.aI)).bind (Sum.elim (fun b27 => (
 some ((aY.mk b27.1 b27.2.1 b27.2.2), true)
)) (fun r => some r)))
)
def tY (g : aX) (s2 : (Int × Int × (List Int) × (List Int) × (List Int))) : Option ((Int × Int × (List Int) × (List Int) × (List Int)) ⊕ Int) :=
(bif (decide (s2.1 < (g.aC.length : Int))) then
(idx g.aC s2.1).bind (fun x29 =>
(idx g.aC s2.1).bind (fun x30 =>
(qw g (aY.mk s2.2.2.1 s2.2.2.2.1 s2.2.2.2.2) x29.A x30.B 4).bind (fun ax =>
(bif (!ax.2) then
 some (.inl ((aP (s2.1 + 1)), s2.2.1, s2.2.2.1, s2.2.2.2.1, s2.2.2.2.2))
 else
(idx g.aC s2.1).bind (fun rO =>
(idx g.aC s2.1).bind (fun x34 =>
(idx ax.1.Free x34.A).bind (fun qI =>
(idx ax.1.Free rO.A).bind (fun uS =>
(idx g.aC s2.1).bind (fun lI =>
(lim (ax.1.aJ.length + ([lI.A] : List Int).length)).bind (fun u38 =>
(lim (ax.1.aI.length + ([s2.1] : List Int).length)).bind (fun Vw =>
 some (.inl ((aP (s2.1 + 1)), (aP (s2.2.1 + 1)), (ax.1.Free.set rO.A.toNat (aP (qI - 1))), (ax.1.aJ ++ ([lI.A] : List Int)), (ax.1.aI ++ ([s2.1] : List Int))))
)
)
)
)
)
)
)
)
)
)
)
 else
 some (.inr s2.2.1)
)
def wJ (g : aX) : Option Int :=
(wC (aX.mk g.aH ([] : List aK)) 2).bind (fun r1 =>
((bQ (tY g) BIG (0, 0, r1.1.Free, r1.1.aJ, r1.1.aI)).bind (fun b27 =>
 some b27
))
)
def yc (g : aX) (a : Int) (b : Int) : Option Bool :=
(((
(pY g).bind (fun r7 =>
(bif (!r7) then
 some true
 else
(bif (decide (a < 0)) then
 some true
 else
(bif (decide (b < 0)) then
 some true
 else
(bif (decide (g.aH ≤ a)) then
 some true
 else
 some (decide (g.aH ≤ b))
)
)
)
)
)
) : Option Bool).bind (fun j6 =>
(bif j6 then
 some false
 else
(wG g (aK.mk (if b < a then b else a) (if a < b then b else a))).bind (fun r13 =>
(((
(bif (a == b) then
 some true
 else
(wJ r13).bind (fun iD =>
(wJ g).bind (fun zG =>
 some (iD == zG)
)
)
)
) : Option Bool).bind (fun j17 =>
 some j17
))
)
)
))
def sZ (k : Int) (l : Int) : Option Bool :=
(((
(qo k 1 3).bind (fun r5 =>
(bif r5 then
(bif (decide (0 ≤ l)) then
 some (decide (l < (aP (2 * k))))
 else
 some false
)
 else
 some false
)
)
) : Option Bool).bind (fun j4 =>
 some j4
))
def wI (p : aY) (v : Int) (s1 : (Int × Int)) : Option ((Int × Int) ⊕ Int) :=
(bif (decide (s1.2 < (p.aJ.length : Int))) then
(idx p.aJ s1.2).bind (fun x14 =>
(((
(bif (x14 == v) then
 some (aP (s1.1 + 1))
 else
 some s1.1
)
) : Option Int).bind (fun j16 =>
 some (.inl (j16, (aP (s1.2 + 1))))
))
)
 else
 some (.inr s1.1)
)
def yx (p : aY) (v : Int) : Option Int :=
((bQ (wI p v) BIG (0, 0)).bind (fun b12 =>
 some b12
))
def vz (g : aX) (p : aY) (s13 : Int) : Option (Int ⊕ (Unit ⊕ Bool)) :=
(bif (decide (s13 < (p.aI.length : Int))) then
(idx p.aI s13).bind (fun x84 =>
(((
(bif (decide (x84 < 0)) then
 some true
 else
(bif (decide ((g.aC.length : Int) ≤ x84)) then
 some true
 else
(bif (decide (0 < s13)) then
(idx p.aI (aP (s13 - 1))).bind (fun x104 =>
(bif (decide (x84 ≤ x104)) then
 some true
 else
(idx p.aJ s13).bind (fun Gp =>
(idx g.aC x84).bind (fun x107 =>
(bif (Gp != x107.A) then
(idx p.aJ s13).bind (fun DC =>
(idx g.aC x84).bind (fun DF =>
 some (DC != DF.B)
)
)
 else
 some false
)
)
)
)
)
 else
(idx p.aJ s13).bind (fun Gq =>
(idx g.aC x84).bind (fun x112 =>
(bif (Gq != x112.A) then
(idx p.aJ s13).bind (fun x114 =>
(idx g.aC x84).bind (fun x115 =>
 some (x114 != x115.B)
)
)
 else
 some false
)
)
)
)
)
)
) : Option Bool).bind (fun j100 =>
(bif j100 then
 some (.inr (.inr false))
 else
 some (.inl (aP (s13 + 1)))
)
))
)
 else
 some (.inr (.inl ()))
)
def wB (g : aX) (k : Int) (p : aY) (lH : Int) : Option (Int ⊕ (Unit ⊕ Bool)) :=
(bif (decide (lH < g.aH)) then
(((
(idx p.Free lH).bind (fun Gs =>
(bif (decide (Gs < 0)) then
 some true
 else
(idx p.Free lH).bind (fun Gu =>
(yx p lH).bind (fun jc =>
 some ((aP (Gu + jc)) != k)
)
)
)
)
) : Option Bool).bind (fun pO =>
(bif pO then
 some (.inr (.inr false))
 else
 some (.inl (aP (lH + 1)))
)
))
 else
 some (.inr (.inl ()))
)
def qm (g : aX) (k : Int) (p : aY) : Option Bool :=
(((
(pY g).bind (fun r7 =>
(bif (!r7) then
 some true
 else
(qo k 1 3).bind (fun r9 =>
(bif (!r9) then
 some true
 else
(bif ((p.Free.length : Int) != g.aH) then
 some true
 else
 some ((p.aJ.length : Int) != (p.aI.length : Int))
)
)
)
)
)
) : Option Bool).bind (fun j6 =>
(bif j6 then
 some false
 else
((bQ (vz g p) BIG 0).bind (Sum.elim (fun Hf => (
((bQ (wB g k p) BIG 0).bind (Sum.elim (fun He => (
 some true
)) (fun r => some r)))
)) (fun r => some r)))
)
))
def tJ (g : aX) (k : Int) (l : Int) (p : aY) (bar : Int) : Option (aY × Bool) :=
(((
(qm g k p).bind (fun r10 =>
(bif (!r10) then
 some true
 else
(sZ k l).bind (fun r12 =>
(bif (!r12) then
 some true
 else
(bif (decide (bar < 0)) then
 some true
 else
(bif (decide ((g.aC.length : Int) ≤ bar)) then
 some true
 else
(bif (decide (0 < (p.aI.length : Int))) then
(idx p.aI (aP ((p.aI.length : Int) - 1))).bind (fun x17 =>
 some (decide (bar ≤ x17))
)
 else
 some false
)
)
)
)
)
)
)
) : Option Bool).bind (fun j9 =>
(bif j9 then
(pz p).bind (fun iD =>
 some (iD, false)
)
 else
(idx g.aC bar).bind (fun x20 =>
(qw g p x20.A x20.B (aP (l + 1))).bind (fun bP =>
(bif (!bP.2) then
(pz p).bind (fun kX =>
 some (kX, false)
)
 else
(idx bP.1.Free x20.A).bind (fun x24 =>
(((
(bif (x24 == 0) then
 some x20.B
 else
 some x20.A
)
) : Option Int).bind (fun j26 =>
(idx bP.1.Free j26).bind (fun x28 =>
(idx bP.1.Free j26).bind (fun x29 =>
(lim (bP.1.aJ.length + ([j26] : List Int).length)).bind (fun u30 =>
(lim (bP.1.aI.length + ([bar] : List Int).length)).bind (fun u31 =>
 some ((aY.mk (bP.1.Free.set j26.toNat (aP (x28 - 1))) (bP.1.aJ ++ ([j26] : List Int)) (bP.1.aI ++ ([bar] : List Int))), true)
)
)
)
)
))
)
)
)
)
)
))
def wF (g : aX) (k : Int) (l : Int) (s8 : (Int × (List Int) × (List Int) × (List Int))) : Option ((Int × (List Int) × (List Int) × (List Int)) ⊕ ((List Int) × (List Int) × (List Int))) :=
(bif (decide (s8.1 < (g.aC.length : Int))) then
(tJ g k l (aY.mk s8.2.1 s8.2.2.1 s8.2.2.2) s8.1).bind (fun gu =>
 some (.inl ((aP (s8.1 + 1)), gu.1.Free, gu.1.aJ, gu.1.aI))
)
 else
 some (.inr (s8.2.1, s8.2.2.1, s8.2.2.2))
)
def yt (g : aX) (k : Int) (l : Int) : Option (aY × Bool) :=
(wC g k).bind (fun r1 =>
(((
(bif (!r1.2) then
 some true
 else
(sZ k l).bind (fun r6 =>
 some (!r6)
)
)
) : Option Bool).bind (fun j4 =>
(bif j4 then
 some ((aY.mk ([] : List Int) ([] : List Int) ([] : List Int)), false)
 else
((bQ (wF g k l) BIG (0, r1.1.Free, r1.1.aJ, r1.1.aI)).bind (fun b13 =>
 some ((aY.mk b13.1 b13.2.1 b13.2.2), true)
))
)
))
)
def yj (g : aX) (k : Int) (l : Int) : Option Int :=
(yt g k l).bind (fun r1 =>
(bif (!r1.2) then
 some (-1)
 else
 some (r1.1.aI.length : Int)
)
)
def yY (g : aX) : Option Int :=
(pY g).bind (fun r1 =>
(bif (!r1) then
 some (-1)
 else
(yj g 2 3).bind (fun r3 =>
 some (aP ((if 0 < (aP ((aP (2 * g.aH)) - 3)) then (aP ((aP (2 * g.aH)) - 3)) else 0) - r3))
)
)
)
def yg (g : aX) : Option Bool :=
(yY g).bind (fun r1 =>
 some (r1 == 0)
)
def vw (r2 : (List aK)) (s3 : (Int × (List aK) × Int × (List aK))) : Option ((Int × (List aK) × Int × (List aK)) ⊕ ((List aK) × (List aK) × Int)) :=
(bif (decide (s3.1 < (r2.length : Int))) then
(((
(idx r2 s3.1).bind (fun DJ =>
(idx r2 s3.1).bind (fun x54 =>
(yc (aX.mk s3.2.2.1 s3.2.2.2) DJ.A x54.B).bind (fun lU =>
(bif (!lU) then
 some (decide ((s3.2.2.2.length : Int) < 24))
 else
 some false
)
)
)
)
) : Option Bool).bind (fun j52 =>
(((
(bif j52 then
(idx r2 s3.1).bind (fun zV =>
(wG (aX.mk s3.2.2.1 s3.2.2.2) zV).bind (fun qE =>
(idx r2 s3.1).bind (fun x66 =>
(lim (s3.2.1.length + [x66].length)).bind (fun Vy =>
 some ((s3.2.1 ++ [x66]), qE.aH, qE.aC)
)
)
)
)
 else
 some (s3.2.1, s3.2.2.1, s3.2.2.2)
)
) : Option ((List aK) × Int × (List aK))).bind (fun j62 =>
 some (.inl ((aP (s3.1 + 1)), j62.1, j62.2.1, j62.2.2))
))
))
 else
 some (.inr (s3.2.1, s3.2.2.2, s3.2.2.1))
)
def vk (g : aX) : Option ((List aK) × Bool) :=
(yu g).bind (fun r1 =>
(tC g).bind (fun r2 =>
((bQ (vw r2) BIG (0, ([] : List aK), r1.aH, r1.aC)).bind (fun gZ =>
(yg (aX.mk gZ.2.2 gZ.2.1)).bind (fun F8 =>
(bif (!F8) then
 some (([] : List aK), false)
 else
 some (gZ.1, true)
)
)
))
)
)
def qX (g : aX) (a : Int) (b : Int) (s1 : (Int × Int)) : Option ((Int × Int) ⊕ Int) :=
(bif (decide (s1.2 < (g.aC.length : Int))) then
(idx g.aC s1.2).bind (fun x32 =>
(((
(bif (x32.A == a) then
(bif (x32.B == b) then
 some true
 else
(bif (x32.A == b) then
 some (x32.B == a)
 else
 some false
)
)
 else
(bif (x32.A == b) then
 some (x32.B == a)
 else
 some false
)
)
) : Option Bool).bind (fun j37 =>
(((
(bif j37 then
 some (aP (s1.1 + 1))
 else
 some s1.1
)
) : Option Int).bind (fun j43 =>
 some (.inl (j43, (aP (s1.2 + 1))))
))
))
)
 else
 some (.inr s1.1)
)
def qW (g : aX) (a : Int) (b : Int) : Option Int :=
((bQ (qX g a b) BIG (0, 0)).bind (fun uY =>
 some uY
))
def qc (g : aX) (s3 : (Int × (List aK))) (jA : (Int × (List aK))) : Option ((Int × (List aK)) ⊕ (Int × (List aK))) :=
(bif (decide (jA.1 < g.aH)) then
(qW g s3.1 jA.1).bind (fun F7 =>
(((
(bif (F7 == 0) then
(lim (jA.2.length + [(aK.mk s3.1 jA.1)].length)).bind (fun Vx =>
 some (jA.2 ++ [(aK.mk s3.1 jA.1)])
)
 else
 some jA.2
)
) : Option (List aK)).bind (fun j60 =>
 some (.inl ((aP (jA.1 + 1)), j60))
))
)
 else
 some (.inr (s3.1, jA.2))
)
def qZ (g : aX) (s3 : (Int × (List aK))) : Option ((Int × (List aK)) ⊕ (List aK)) :=
(bif (decide (s3.1 < g.aH)) then
((bQ (qc g s3) BIG ((aP (s3.1 + 1)), s3.2)).bind (fun qP =>
 some (.inl ((aP (qP.1 + 1)), qP.2))
))
 else
 some (.inr s3.2)
)
def oW (g : aX) : Option (List aK) :=
(pW g).bind (fun r1 =>
(bif (!r1) then
 some ([] : List aK)
 else
((bQ (qZ g) BIG (0, ([] : List aK))).bind (fun nZ =>
 some nZ
))
)
)
def vO (g : aX) (v : Int) : Option Bool :=
(qi v 0 (aP (g.aH - 1))).bind (fun r1 =>
 some r1
)
def Az (a : Int) (b : Int) : Option aK :=
 some (aK.mk (if b < a then b else a) (if a < b then b else a))
def yL (p : aY) : Option aY :=
(sU p.Free).bind (fun r1 =>
(sU p.aJ).bind (fun r2 =>
(sU p.aI).bind (fun r3 =>
 some (aY.mk r1 r2 r3)
)
)
)
def qh (p : aY) (a : Int) (bT : (Int × (List (Int × Int)) × (List Int))) (dO : Int) (kP : Int) (mY : Int) (iH : (Int × (List Int))) : Option ((Int × (List Int)) ⊕ ((List Int) × (List Int))) :=
(bif (iH.1 != a) then
(idx iH.2 (gq (gU bT.2.1 dO bT.1) iH.1)).bind (fun wX =>
(idx iH.2 (gq (gU bT.2.1 dO bT.1) iH.1)).bind (fun XH =>
 some (.inl (wX, (iH.2.set (gq (gU bT.2.1 dO bT.1) iH.1).toNat iH.1)))
)
)
 else
 some (.inr (((p.Free.set dO.toNat (aP (kP - 1))).set a.toNat (aP (mY + 1))), iH.2))
)
def pX (bars : (List aK)) (p : aY) (a : Int) (b : Int) (s1 : (Int × (List (Int × Int)) × (List Int))) (bT : (Int × (List (Int × Int)) × (List Int))) : Option ((Int × (List (Int × Int)) × (List Int)) ⊕ ((Int × (List (Int × Int)) × (List Int)) ⊕ (Bool × aY))) :=
(bif (decide (bT.1 < (p.aI.length : Int))) then
(idx p.aI bT.1).bind (fun zT =>
(idx p.aJ bT.1).bind (fun NC =>
(idx bT.2.2 s1.1).bind (fun ND =>
(bif (NC != ND) then
 some (.inl ((aP (bT.1 + 1)), bT.2.1, bT.2.2))
 else
(idx bars zT).bind (fun zU =>
(idx bT.2.2 s1.1).bind (fun DI =>
(yE zU DI).bind (fun dO =>
(bif (iU bT.2.1 dO) then
 some (.inl ((aP (bT.1 + 1)), bT.2.1, bT.2.2))
 else
(((
(bif (dO == b) then
 some true
 else
(idx p.Free dO).bind (fun Gv =>
 some (Gv == 0)
)
)
) : Option Bool).bind (fun Ak =>
(bif Ak then
(lim (bT.2.2.length + ([dO] : List Int).length)).bind (fun Vu =>
 some (.inl ((aP (bT.1 + 1)), (gU bT.2.1 dO bT.1), (bT.2.2 ++ ([dO] : List Int))))
)
 else
(idx p.Free dO).bind (fun kP =>
(idx p.Free dO).bind (fun XF =>
(idx (p.Free.set dO.toNat (aP (kP - 1))) a).bind (fun mY =>
(idx (p.Free.set dO.toNat (aP (kP - 1))) a).bind (fun XG =>
((bQ (qh p a bT dO kP mY) BIG (dO, p.aJ)).bind (fun qO =>
 some (.inr (.inr (true, (aY.mk qO.1 qO.2 p.aI))))
))
)
)
)
)
)
))
)
)
)
)
)
)
)
)
 else
 some (.inr (.inl (s1.1, bT.2.1, bT.2.2)))
)
def sW (bars : (List aK)) (p : aY) (a : Int) (b : Int) (s1 : (Int × (List (Int × Int)) × (List Int))) : Option ((Int × (List (Int × Int)) × (List Int)) ⊕ (Unit ⊕ (Bool × aY))) :=
(bif (decide (s1.1 < (s1.2.2.length : Int))) then
((bQ (pX bars p a b s1) BIG (0, s1.2.1, s1.2.2)).bind (Sum.elim (fun nY => (
 some (.inl ((aP (nY.1 + 1)), nY.2.1, nY.2.2))
)) (fun r => some (.inr (.inr r)))))
 else
 some (.inr (.inl ()))
)
def qg (bars : (List aK)) (p : aY) (a : Int) (b : Int) : Option (Bool × aY) :=
((bQ (sW bars p a b) BIG (0, (gU ([] : List (Int × Int)) a (-1)), ([a] : List Int))).bind (Sum.elim (fun HY => (
 some (false, p)
)) (fun r => some r)))
def qf (bars : (List aK)) (a : Int) (b : Int) (want : Int) (s1 : ((List Int) × (List Int) × (List Int))) : Option (((List Int) × (List Int) × (List Int)) ⊕ (((List Int) × (List Int) × (List Int)) ⊕ (Bool × aY))) :=
(idx s1.1 a).bind (fun x25 =>
(idx s1.1 b).bind (fun NG =>
(bif (decide ((aP (x25 + NG)) < want)) then
(((
(qg bars (aY.mk s1.1 s1.2.1 s1.2.2) a b).bind (fun r32 =>
(bif (!r32.1) then
(qg bars r32.2 b a).bind (fun uJ =>
 some ((!uJ.1), uJ.2.Free, uJ.2.aJ, uJ.2.aI)
)
 else
 some (false, r32.2.Free, r32.2.aJ, r32.2.aI)
)
)
) : Option (Bool × (List Int) × (List Int) × (List Int))).bind (fun j31 =>
(bif j31.1 then
 some (.inr (.inr (false, (aY.mk j31.2.1 j31.2.2.1 j31.2.2.2))))
 else
 some (.inl (j31.2.1, j31.2.2.1, j31.2.2.2))
)
))
 else
 some (.inr (.inl (s1.1, s1.2.1, s1.2.2)))
)
)
)
def sV (bars : (List aK)) (p : aY) (a : Int) (b : Int) (want : Int) : Option (Bool × aY) :=
((bQ (qf bars a b want) BIG (p.Free, p.aJ, p.aI)).bind (Sum.elim (fun lm => (
 some (true, (aY.mk lm.1 lm.2.1 lm.2.2))
)) (fun r => some r)))
def lC (bars : (List aK)) (l : Int) (p : aY) (e : Int) : Option (Bool × aY) :=
(idx bars e).bind (fun x1 =>
(sV bars p x1.A x1.B (aP (l + 1))).bind (fun r2 =>
(bif (!r2.1) then
 some (false, r2.2)
 else
(idx r2.2.Free x1.A).bind (fun x4 =>
(((
(bif (x4 == 0) then
 some x1.B
 else
 some x1.A
)
) : Option Int).bind (fun j6 =>
(idx r2.2.Free j6).bind (fun x8 =>
(idx r2.2.Free j6).bind (fun x9 =>
(lim (r2.2.aJ.length + ([j6] : List Int).length)).bind (fun u10 =>
(lim (r2.2.aI.length + ([e] : List Int).length)).bind (fun u11 =>
 some (true, (aY.mk (r2.2.Free.set j6.toNat (aP (x8 - 1))) (r2.2.aJ ++ ([j6] : List Int)) (r2.2.aI ++ ([e] : List Int))))
)
)
)
)
))
)
)
)
)
def vW (points : Int) (k : Int) (s1 : (Int × (List Int))) : Option ((Int × (List Int)) ⊕ (List Int)) :=
(bif (decide (s1.1 < points)) then
(lim (s1.2.length + ([k] : List Int).length)).bind (fun u8 =>
 some (.inl ((aP (s1.1 + 1)), (s1.2 ++ ([k] : List Int))))
)
 else
 some (.inr s1.2)
)
def vX (bars : (List aK)) (l : Int) (s9 : (Int × (List Int) × (List Int) × (List Int))) : Option ((Int × (List Int) × (List Int) × (List Int)) ⊕ ((List Int) × (List Int) × (List Int))) :=
(bif (decide (s9.1 < (bars.length : Int))) then
(yL (aY.mk s9.2.1 s9.2.2.1 s9.2.2.2)).bind (fun jv =>
(lC bars l jv s9.1).bind (fun r25 =>
(((
(bif r25.1 then
 some (r25.2.Free, r25.2.aJ, r25.2.aI)
 else
 some (s9.2.1, s9.2.2.1, s9.2.2.2)
)
) : Option ((List Int) × (List Int) × (List Int))).bind (fun j27 =>
 some (.inl ((aP (s9.1 + 1)), j27.1, j27.2.1, j27.2.2))
))
)
)
 else
 some (.inr (s9.2.1, s9.2.2.1, s9.2.2.2))
)
def vV (points : Int) (bars : (List aK)) (k : Int) (l : Int) : Option aY :=
((bQ (vW points k) BIG (0, ([] : List Int))).bind (fun b6 =>
((bQ (vX bars l) BIG (0, b6, ([] : List Int), ([] : List Int))).bind (fun b22 =>
 some (aY.mk b22.1 b22.2.1 b22.2.2)
))
))
def vU (points : Int) (bars : (List aK)) : Option Int :=
(vV points bars 2 3).bind (fun r1 =>
 some (r1.aI.length : Int)
)
def yM (points : Int) (bars : (List aK)) (x : aK) : Option Bool :=
(lim (([] : List aK).length + bars.length)).bind (fun u1 =>
(lim ((([] : List aK) ++ bars).length + [x].length)).bind (fun u2 =>
(vU points ((([] : List aK) ++ bars) ++ [x])).bind (fun r3 =>
(vU points bars).bind (fun r4 =>
 some (decide (r4 < r3))
)
)
)
)
def yG (g : aX) (a : Int) (b : Int) : Option Bool :=
(((
(pW g).bind (fun r11 =>
(bif r11 then
(vO g a).bind (fun r13 =>
(bif r13 then
(vO g b).bind (fun gu =>
(bif gu then
(bif (a == b) then
 some true
 else
(Az a b).bind (fun wR =>
(yM g.aH g.aC wR).bind (fun iD =>
 some (!iD)
)
)
)
 else
 some false
)
)
 else
 some false
)
)
 else
 some false
)
)
) : Option Bool).bind (fun j10 =>
 some j10
))
def mr (x y : aK) : Int := bif decide (x.A < y.A) then -1 else bif decide (y.A < x.A) then 1 else bif decide (x.B < y.B) then -1 else bif decide (y.B < x.B) then 1 else 0
def sortB (l : List aK) : List aK := l.mergeSort fun x y => !decide (mr y x < 0)
def yV (x : List aK) : Option (List aK) := bif decide (x.length ≤ 4096) then some (sortB x) else none
def yN (g : aX) (l : (List aK)) : Option aX :=
(vT g).bind (fun r1 =>
(lim (r1.aC.length + l.length)).bind (fun u2 =>
(yV (r1.aC ++ l)).bind (fun r3 =>
(same ((r1.aC ++ l).length) r3.length).bind (fun u4 =>
 some (aX.mk r1.aH r3)
)
)
)
)
def yH (k : Int) (l : Int) : Option Bool :=
(((
(qi k 1 3).bind (fun r5 =>
(bif r5 then
(qi l 0 (aP ((aP (2 * k)) - 1))).bind (fun r7 =>
 some r7
)
 else
 some false
)
)
) : Option Bool).bind (fun j4 =>
 some j4
))
def yK (g : aX) (k : Int) (l : Int) : Option (aY × Bool) :=
(((
(pW g).bind (fun r5 =>
(bif (!r5) then
 some true
 else
(yH k l).bind (fun r7 =>
 some (!r7)
)
)
)
) : Option Bool).bind (fun j4 =>
(bif j4 then
 some ((aY.mk ([] : List Int) ([] : List Int) ([] : List Int)), false)
 else
(vV g.aH g.aC k l).bind (fun r9 =>
 some (r9, true)
)
)
))
def yJ (g : aX) (k : Int) (l : Int) : Option Int :=
(yK g k l).bind (fun r1 =>
(bif (!r1.2) then
 some (-1)
 else
 some (r1.1.aI.length : Int)
)
)
def yF (g : aX) : Option Int :=
(pW g).bind (fun r1 =>
(bif (!r1) then
 some (-1)
 else
(yJ g 2 3).bind (fun r3 =>
 some (aP ((if 0 < (aP ((aP (2 * g.aH)) - 3)) then (aP ((aP (2 * g.aH)) - 3)) else 0) - r3))
)
)
)
def yI (g : aX) : Option Bool :=
(yF g).bind (fun r1 =>
 some (r1 == 0)
)
def vN (r2 : (List aK)) (s3 : (Int × (List aK) × Int × (List aK))) : Option ((Int × (List aK) × Int × (List aK)) ⊕ ((List aK) × (List aK) × Int)) :=
(bif (decide (s3.1 < (r2.length : Int))) then
(idx r2 s3.1).bind (fun x34 =>
(((
(bif (decide ((s3.2.2.2.length : Int) < 24)) then
(yG (aX.mk s3.2.2.1 s3.2.2.2) x34.A x34.B).bind (fun Bc =>
 some (!Bc)
)
 else
 some false
)
) : Option Bool).bind (fun j37 =>
(((
(bif j37 then
(yN (aX.mk s3.2.2.1 s3.2.2.2) [x34]).bind (fun qC =>
(lim (s3.2.1.length + [x34].length)).bind (fun u46 =>
 some ((s3.2.1 ++ [x34]), qC.aH, qC.aC)
)
)
 else
 some (s3.2.1, s3.2.2.1, s3.2.2.2)
)
) : Option ((List aK) × Int × (List aK))).bind (fun j43 =>
 some (.inl ((aP (s3.1 + 1)), j43.1, j43.2.1, j43.2.2))
))
))
)
 else
 some (.inr (s3.2.1, s3.2.2.2, s3.2.2.1))
)
def sS (g : aX) : Option ((List aK) × Bool) :=
(vT g).bind (fun r1 =>
(oW g).bind (fun r2 =>
((bQ (vN r2) BIG (0, ([] : List aK), r1.aH, r1.aC)).bind (fun b32 =>
(yI (aX.mk b32.2.2 b32.2.1)).bind (fun F6 =>
(bif (!F6) then
 some (([] : List aK), false)
 else
 some (b32.1, true)
)
)
))
)
)
def vZ (a : (List aK)) (s1 : (Int × Int)) : Option ((Int × Int) ⊕ (Int ⊕ Int)) :=
(bif (decide (s1.2 < (a.length : Int))) then
(idx a s1.2).bind (fun x14 =>
(bif (x14.A != s1.1) then
 some (.inr (.inr (-1)))
 else
(idx a s1.2).bind (fun x16 =>
(bif (x16.B != (aP (s1.1 + 1))) then
 some (.inr (.inr (-1)))
 else
 some (.inl ((aP ((aP (s1.1 + 1)) + 1)), (aP (s1.2 + 1))))
)
)
)
)
 else
 some (.inr (.inl s1.1))
)
def vY (a : (List aK)) (k : Int) : Option Int :=
((bQ (vZ a) BIG (k, 0)).bind (Sum.elim (fun b12 => (
 some b12
)) (fun r => some r)))
def A7 (aG : aX) : Option Bool :=
(yS aG 1048576).bind (fun r1 =>
(bif (decide (r1 < 0)) then
 some true
 else
(ql aG).bind (fun r3 =>
(vk r3).bind (fun r4 =>
(ql aG).bind (fun r5 =>
(sS r5).bind (fun r6 =>
(((
(qj r6.1 r4.1).bind (fun r10 =>
(bif (!r10) then
 some true
 else
 some (r6.2 != r4.2)
)
)
) : Option Bool).bind (fun j9 =>
(bif j9 then
 some false
 else
(ql aG).bind (fun r13 =>
(yP r5 r13).bind (fun nR =>
(bif (!nR) then
 some false
 else
(yQ r5 1).bind (fun r16 =>
(((
(bif (decide (r16.1 < 0)) then
 some true
 else
(qj r6.1 r4.1).bind (fun r22 =>
(bif (!r22) then
 some true
 else
 some (r6.2 != r4.2)
)
)
)
) : Option Bool).bind (fun j20 =>
(bif j20 then
 some false
 else
(ve r6.1 1).bind (fun r25 =>
(same r6.1.length r25.2.length).bind (fun u26 =>
(vY r25.2 1).bind (fun r27 =>
(bif (decide (r27 < 0)) then
 some false
 else
(bif (r27 != r25.1) then
 some false
 else
(ql aG).bind (fun uI =>
(sS uI).bind (fun ax =>
(((
(qj ax.1 r4.1).bind (fun BZ =>
(bif (!BZ) then
(same r6.1.length r25.2.length).bind (fun u37 =>
 some true
)
 else
(same r6.1.length r25.2.length).bind (fun u38 =>
 some (ax.2 != r4.2)
)
)
)
) : Option Bool).bind (fun j34 =>
(bif j34 then
 some false
 else
(vY r25.2 1).bind (fun uK =>
(bif (decide (uK < 0)) then
 some false
 else
(bif (uK != r25.1) then
 some false
 else
 some true
)
)
)
)
))
)
)
)
)
))
)
)
))
)
)
)
)
)
))
)
)
)
)
)
)
end Go.Proofs.Ytdmlaldifbmkpaa
end
section
set_option linter.unusedVariables false
set_option linter.unusedSimpArgs false
set_option linter.unnecessarySimpa false
open Go Go.Fw
namespace Go.Proofs.Ytdmlaldifbmkpaa
abbrev SM (n : Nat) : Prop := n ≤ 2147483648
abbrev KM (k : Int) : Prop := 0 ≤ k ∧ k ≤ 1099511627776
theorem Vp (a : List aK) (h : SM a.length) : yT a = some a := by
  unfold yT
  rw [Jr (by omega) (by omega), Option.bind_some, Int.toNat_natCast, Ov a _ (by omega) (fun k l x y hx hy => ?_) (fun l => ?_)]
  · rfl
  · have hk : k < a.length := (List.getElem?_eq_some_iff.1 hx).1
    simp only [yU, jh hx, jh hy, BA, Option.bind_some, Int.toNat_natCast]
    rw [decide_eq_true (by omega)]
    rfl
  · simp [yU]
theorem Ib (a : List aK) (h : SM a.length) : qj a a = some true := by
  unfold qj
  rw [Di a.length (by omega) (fun k hk => ?_) (by simp [yO] <;> rfl)]
  · simp
  · simp only [yO, vC hk, A8, Option.bind_some]
    rw [decide_eq_true (by omega)]
    simp
def kL (b : Int) (n : Nat) : List aK := (List.range n).map fun (i : Nat) => ⟨b + 2 * (i : Int), b + 1 + 2 * (i : Int)⟩
theorem UR {b : Int} {n k : Nat} (h : k < n) : (kL b n)[k]? = some ⟨b + 2 * (k : Int), b + 1 + 2 * (k : Int)⟩ := by simp [kL, h]
theorem nH (b : Int) (n : Nat) : (kL b n).length = n := by simp [kL]
theorem KA (a : List aK) (h : SM a.length) (b : Int) (hb : KM b) : ve a b = some (b + 2 * (a.length : Int), kL b a.length) := by
  have e : bQ vg BIG (b, 0, a) = some ((b + 2 * (a.length : Int)), kL b a.length) := by
    refine mQ (fun (k : Nat) => ((b + 2 * (k : Int)), (k : Int), kL b k ++ a.drop k)) a.length (by omega) (by simp [kL]) (fun k hk => ?_) (by simp [vg, nH])
    have hl : (kL b k ++ a.drop k).length = a.length := by simp [nH]; omega
    have hi : idx (kL b k ++ a.drop k) (k : Int) = some a[k] := by
      apply jh
      rw [List.getElem?_append_right (by simp [nH]), nH, Nat.sub_self, List.getElem?_drop, Nat.add_zero, List.getElem?_eq_getElem hk]
    have hset : ∀ x, (kL b k ++ a.drop k).set k x = kL b k ++ (x :: a.drop (k + 1)) := fun x => by
      rw [List.set_append_right _ _ (by simp [nH]), nH, Nat.sub_self, List.drop_eq_getElem_cons hk, List.set_cons_zero]
    have hi2 : ∀ x : aK, idx (kL b k ++ (x :: a.drop (k + 1))) (k : Int) = some x := fun x => by
      apply jh
      rw [List.getElem?_append_right (by simp [nH]), nH, Nat.sub_self]
      rfl
    have RQ : ∀ x y : aK, (kL b k ++ (x :: a.drop (k + 1))).set k y = kL b k ++ (y :: a.drop (k + 1)) := fun x y => by
      rw [List.set_append_right _ _ (by simp [nH]), nH, Nat.sub_self, List.set_cons_zero]
    have e1 : aP (b + 2 * (k : Int) + 1) = b + 1 + 2 * (k : Int) := by rw [iP (by omega) (by omega)]; omega
    have e2 : aP (b + 1 + 2 * (k : Int) + 1) = b + 2 * ((k + 1 : Nat) : Int) := by rw [iP (by omega) (by omega)]; omega
    simp only [vg, hi, Option.bind_some, Int.toNat_natCast, hset, hi2, RQ, e1, e2, gm (show k ≤ 1099511627776 by omega)]
    rw [decide_eq_true (by rw [hl]; omega), cond_true]
    congr 4
    simp [kL, List.range_succ]
  unfold ve
  rw [e]
  rfl
theorem QY (n : Nat) (h : SM n) (b : Int) (hb : KM b) : vY (kL b n) b = some (b + 2 * (n : Int)) := by
  have e : bQ (vZ (kL b n)) BIG (b, 0) = some (.inl (b + 2 * (n : Int))) := by
    refine mQ (fun (k : Nat) => ((b + 2 * (k : Int)), (k : Int))) n (by omega) (by simp) (fun k hk => ?_) (by simp [vZ, nH])
    have e1 : aP (b + 2 * (k : Int) + 1) = b + 1 + 2 * (k : Int) := by rw [iP (by omega) (by omega)]; omega
    have e2 : aP (b + 1 + 2 * (k : Int) + 1) = b + 2 * ((k + 1 : Nat) : Int) := by rw [iP (by omega) (by omega)]; omega
    simp only [vZ, nH, jh (UR hk), Option.bind_some, e1, e2, gm (show k ≤ 1099511627776 by omega)]
    rw [decide_eq_true (by omega)]
    simp
  unfold vY
  rw [e]
  rfl
theorem Vk (a : List aK) (n : Int) : ∃ z, yR a n = some z := by
  unfold yR
  cases decide (aP (n - (a.length : Int)) < 0) <;> exact ⟨_, rfl⟩
theorem Vq (a : aX) (h0 : SM a.aC.length) : ql a = some a := by
  unfold ql
  simp only [Vp a.aC h0, Option.bind_some]
theorem O6 (a : aX) (h0 : SM a.aC.length) : yP a a = some true := by
  unfold yP
  simp [Ib a.aC h0]
theorem Vl (a : aX) (n : Int) : ∃ z, yS a n = some z := by
  unfold yS
  obtain ⟨z0, e0⟩ := Vk a.aC n
  rw [e0, Option.bind_some]
  cases decide (z0 < 0)
  rotate_left
  · exact ⟨_, rfl⟩
  simp only [cond_false]
  exact ⟨_, rfl⟩
theorem UL (a : aX) (h0 : SM a.aC.length) (b : Int) (hb : 0 ≤ b) (hb2 : b ≤ 549755813888) : yQ a b = some ((b + 2 * (a.aC.length : Int)), kL b a.aC.length) := by
  unfold yQ
  simp only [KA a.aC h0 b ⟨by omega, by omega⟩, Option.bind_some]
end Go.Proofs.Ytdmlaldifbmkpaa
end
section
set_option linter.unusedVariables false
set_option linter.unusedSimpArgs false
set_option linter.unnecessarySimpa false
open Go Go.Fw
namespace Go.Proofs.Ytdmlaldifbmkpaa
theorem Ap (x lo hi : Int) : qo x lo hi = some (decide (lo ≤ x) && decide (x ≤ hi)) := by
 unfold qo
 cases decide (lo ≤ x) <;> simp
theorem zN (x lo hi : Int) : qi x lo hi = some (decide (lo ≤ x) && decide (x ≤ hi)) := by
 unfold qi
 cases decide (lo ≤ x) <;> simp
theorem IV (a b : Int) : vS a b = some (if a < b then -1 else if b < a then 1 else 0) := by
 unfold vS
 by_cases h1 : a < b
 ·simp [h1]
 ·by_cases h2 : b < a <;> simp [h1,h2]
def gK (x y : aK) : Bool := decide (y.A < x.A) || (x.A == y.A && decide (y.B < x.B))
theorem IQ (x y : aK) : ∃ c,vP x y = some c ∧ decide (0 < c) = gK x y := by
 unfold vP gK
 rw [IV,IV]
 by_cases h1 : x.A < y.A
 ·have h3 : (x.A == y.A) = false := by simp; omega
  exact ⟨-1,by simp [h1],by simp [h3]; omega⟩
 ·by_cases h2 : y.A < x.A
  ·exact ⟨1,by simp [h1,h2],by simp [h2]⟩
  ·have : x.A = y.A := by omega
   by_cases h3 : x.B < y.B
   ·exact ⟨-1,by simp [this,h3],by simp [this]; omega⟩
   ·by_cases h4 : y.B < x.B
    ·exact ⟨1,by simp [this,h3,h4],by simp [this,h4]⟩
    ·exact ⟨0,by simp [this,h3,h4],by simp [this]; omega⟩
theorem Jl (x y : aK) : tK x y = some (!gK x y) := by
 unfold tK gK
 by_cases h1 : x.A < y.A
 ·have h3 : (x.A == y.A) = false := by simp; omega
  simp [h1,h3]; omega
 ·by_cases h2 : y.A < x.A
  ·have h3 : (x.A == y.A) = false := by simp; omega
   simp [h1,h2,h3]
  ·have : x.A = y.A := by omega
   by_cases h4 : y.B < x.B
   ·have h5 : ¬ x.B ≤ y.B := by omega
    simp [this,h4,h5]
   ·have h5 : x.B ≤ y.B := by omega
    simp [this,h4,h5]
def uf (g : aX) (k : Nat) : Bool := match g.aC[k]? with
 | none => false
 | some x => decide (x.A < 0) || decide (x.B ≤ x.A) || decide (g.aH ≤ x.B) || (decide (0 < k) && match g.aC[k - 1]? with
  | none => false
  | some y => gK y x)
def vG (g : aX) : Bool := decide (1 ≤ g.aH) && decide (g.aH ≤ 8) && !decide (24 < (g.aC.length : Int)) && !(List.range' 0 g.aC.length).any (uf g)
theorem qU (g : aX) (h : SM g.aC.length) : pW g = some (vG g) := by
 have e : bQ (qY g) BIG 0 = some (bif (List.range' 0 g.aC.length).any (uf g) then .inr false else .inl ()) := by
  refine NR (uf g) false g.aC.length (by omega) (fun k hk => ?_) (by simp [qY])
  unfold qY uf
  rw [decide_eq_true (by omega),cond_true,vC hk,Option.bind_some,List.getElem?_eq_getElem hk]
  simp only
  cases decide (g.aC[k].A < 0)
  ·cases decide (g.aC[k].B ≤ g.aC[k].A)
   ·cases decide (g.aH ≤ g.aC[k].B)
    ·by_cases h0 : 0 < k
     ·have e1 : aP ((k : Int) - 1) = ((k - 1 : Nat) : Int) := by rw [iP (by omega) (by omega)]; omega
      obtain ⟨c,hc,hd⟩ := IQ (g.aC[k - 1]'(by omega)) g.aC[k]
      rw [decide_eq_true (show (0 : Int) < (k : Int) by omega),decide_eq_true h0,e1,vC (show k - 1 < g.aC.length by omega),List.getElem?_eq_getElem (show k - 1 < g.aC.length by omega)]
      simp only [cond_false,cond_true,Option.bind_some,hc,hd,Bool.false_or,Bool.true_and]
     ·rw [decide_eq_false (show ¬ (0 : Int) < (k : Int) by omega),decide_eq_false h0]
      rfl
    ·rfl
   ·rfl
  ·rfl
 unfold pW vG
 rw [zN,e]
 simp only [Option.bind_some]
 cases decide (1 ≤ g.aH) && decide (g.aH ≤ 8)
 ·rfl
 ·cases decide (24 < (g.aC.length : Int))
  ·cases (List.range' 0 g.aC.length).any (uf g) <;> rfl
  ·rfl
theorem Tj (g : aX) : yZ g = qY g := by
 funext s
 unfold yZ qY
 have e : ∀ x y,((tK x y).bind fun r => some (!r)) = (vP x y).bind fun r => some (decide (0 < r)) := fun x y => by
  obtain ⟨c,hc,hd⟩ := IQ x y
  rw [Jl,hc]
  simp [hd]
 simp only [e]
theorem vI (g : aX) (h : SM g.aC.length) : pY g = some (vG g) := by
 rw [← qU g h]
 unfold pY pW
 rw [Ap,zN,Tj]
structure VG (g : aX) : Prop where
 p1 : 1 ≤ g.aH
 p8 : g.aH ≤ 8
 len : g.aC.length ≤ 24
 a0 : ∀ {k : Nat} {x : aK},g.aC[k]? = some x → 0 ≤ x.A
 ab : ∀ {k : Nat} {x : aK},g.aC[k]? = some x → x.A < x.B
 bp : ∀ {k : Nat} {x : aK},g.aC[k]? = some x → x.B < g.aH
 Le : ∀ {k : Nat} {x y : aK},g.aC[k]? = some x → g.aC[k + 1]? = some y → gK x y = false
theorem nJ {g : aX} (h : vG g = true) : VG g := by
 unfold vG at h
 simp only [Bool.and_eq_true,Bool.not_eq_true',decide_eq_true_eq,decide_eq_false_iff_not] at h
 obtain ⟨⟨⟨h1,h2⟩,h3⟩,h4⟩ := h
 rw [NT] at h4
 have hb : ∀ {k : Nat} {x : aK},g.aC[k]? = some x → 0 ≤ x.A ∧ x.A < x.B ∧ x.B < g.aH ∧ ∀ {y : aK},0 < k → g.aC[k - 1]? = some y → gK y x = false := fun {k x} hx => by
  have hk : k < g.aC.length := (List.getElem?_eq_some_iff.1 hx).1
  have := h4 k (by omega) (by omega)
  unfold uf at this
  rw [hx] at this
  simp only [Bool.or_eq_false_iff,decide_eq_false_iff_not,Bool.and_eq_false_iff] at this
  obtain ⟨⟨⟨a,b⟩,c⟩,d⟩ := this
  refine ⟨by omega,by omega,by omega,fun {y} hk hy => ?_⟩
  rw [hy] at d
  rcases d with d | d
  ·exact absurd hk d
  ·exact d
 exact ⟨h1,h2,by omega,fun hx => (hb hx).1,fun hx => (hb hx).2.1,fun hx => (hb hx).2.2.1,fun {k x y} hx hy => (hb hy).2.2.2 (by omega) (by simpa using hx)⟩
theorem VG.sm {g : aX} (h : VG g) : SM g.aC.length := by have := h.len; omega
def Iq (l : List Int) (x : Int) : Bool := l.any (· == x)
end Go.Proofs.Ytdmlaldifbmkpaa
end
section
set_option linter.unusedVariables false
set_option linter.unusedSimpArgs false
set_option linter.unnecessarySimpa false
open Go Go.Fw
namespace Go.Proofs.Ytdmlaldifbmkpaa
theorem TT {α : Type} {l : List α} {i : Int} (d : α) (h0 : 0 ≤ i) (h1 : i < (l.length : Int)) : idx l i = some ((l[i.toNat]?).getD d) := by
 unfold idx
 rw [if_pos h0,List.getElem?_eq_getElem (by omega)]
 rfl
def BU (f : zn) (v : Int) : DY := (f.Places[v.toNat]?).getD ⟨0,0⟩
structure VF (f : zn) : Prop where
 g : VG f.Graph
 p6 : f.Graph.aH ≤ 6
 len : f.Graph.aC.length ≤ 15
 nP : (f.Places.length : Int) = f.Graph.aH
 grid : ∀ {k : Nat} {p : DY},f.Places[k]? = some p → 0 ≤ p.X ∧ p.X ≤ 4 ∧ 0 ≤ p.Y ∧ p.Y ≤ 4
 dif : ∀ {k : Nat} {x : aK},f.Graph.aC[k]? = some x → Dn [(BU f x.A).X,(BU f x.A).Y] [(BU f x.B).X,(BU f x.B).Y] = false
 XR : ∀ {k : Nat} {x y : aK},f.Graph.aC[k]? = some x → f.Graph.aC[k + 1]? = some y → Dn [x.A,x.B] [y.A,y.B] = false
end Go.Proofs.Ytdmlaldifbmkpaa
end
section
set_option linter.unusedVariables false
set_option linter.unusedSimpArgs false
set_option linter.unnecessarySimpa false
open Go Go.Fw
namespace Go.Proofs.Ytdmlaldifbmkpaa
def UY (set : List Int) (k : Nat) (a : List Int × Nat) : List Int × Nat := bif Iq set k then (a.1 ++ [-1],a.2) else (a.1 ++ [(a.2 : Int)],a.2 + 1)
def names (set : List Int) (n : Nat) : List Int × Nat := iter (UY set) n ([],0)
def nm (l : List Int) (v : Int) : Int := (l[v.toNat]?).getD 0
theorem has_eq {g : aX} (h : VG g) (v : Int) : vO g v = some (decide (0 ≤ v) && decide (v < g.aH)) := by
 have h1 := h.p1
 have h8 := h.p8
 unfold vO
 rw [zN,iP (by omega) (by omega),Option.bind_some]
 congr 2
 rw [decide_eq_decide]
 omega
theorem IW (g : aX) (h : SM g.aC.length) : vT g = some g := by
 unfold vT
 rw [iM (by simp; omega)]
 rfl
theorem UD (g : aX) (h : SM g.aC.length) : yu g = some g := by
 unfold yu
 rw [iM (by simp; omega)]
 rfl
end Go.Proofs.Ytdmlaldifbmkpaa
end
section
set_option linter.unusedVariables false
set_option linter.unusedSimpArgs false
set_option linter.unnecessarySimpa false
open Go Go.Fw
namespace Go.Proofs.Ytdmlaldifbmkpaa
theorem Df (l : List Int) (h : SM l.length) : sU l = some l := by
 unfold sU
 rw [iM (by simp; omega)]
 rfl
structure VV (f : zn) (v : List Int) : Prop where
 fr : VF f
 len : (v.length : Int) = 2 * f.Graph.aH
 sm : ∀ {k : Nat} {x : Int},v[k]? = some x → -10000000000 ≤ x ∧ x ≤ 10000000000
def gv (v : List Int) (i : Int) : Int := (v[i.toNat]?).getD 0
theorem VV.lt {f : zn} {v : List Int} (h : VV f v) {i : Int} (h0 : 0 ≤ i) (h1 : i < 2 * f.Graph.aH) : -10000000000 ≤ gv v i ∧ gv v i ≤ 10000000000 := by
 have hl := h.len
 have hn : i.toNat < v.length := by omega
 refine h.sm (k := i.toNat) ?_
 unfold gv
 rw [List.getElem?_eq_getElem hn]
 rfl
def jk (x : aK) (v : Int) : Int := bif x.A == v then x.B else x.A
end Go.Proofs.Ytdmlaldifbmkpaa
end
section
set_option linter.unusedVariables false
set_option linter.unusedSimpArgs false
set_option linter.unnecessarySimpa false
open Go Go.Fw
namespace Go.Proofs.Ytdmlaldifbmkpaa
theorem Au {σ σ' τ τ' : Type} {b : σ → Option (σ ⊕ τ)} {b' : σ' → Option (σ' ⊕ τ')} {s : σ} {s' : σ'} (I : Nat → σ → σ' → Prop) (Q : τ → τ' → Prop) (n : Nat) (hn : n ≤ 1099511627776) (h0 : I 0 s s')
  (h : ∀ k s s',k < n → I k s s' → (∃ t t',b s = some (.inl t) ∧ b' s' = some (.inl t') ∧ I (k + 1) t t') ∨ ∃ r r',b s = some (.inr r) ∧ b' s' = some (.inr r') ∧ Q r r')
  (hr : ∀ s s',I n s s' → ∃ r r',b s = some (.inr r) ∧ b' s' = some (.inr r') ∧ Q r r') : ∃ r r',bQ b BIG s = some r ∧ bQ b' BIG s' = some r' ∧ Q r r' := by
 have go : ∀ (j k f : Nat) (s : σ) (s' : σ'),k + j = n → j < f → I k s s' → ∃ r r',bQ b f s = some r ∧ bQ b' f s' = some r' ∧ Q r r' := by
  intro j
  induction j with
  | zero =>
   intro k f s s' hk hf hi
   obtain ⟨f,rfl⟩ : ∃ g,f = g + 1 := ⟨f - 1,by omega⟩
   have : k = n := by omega
   subst this
   obtain ⟨r,r',h1,h2,h3⟩ := hr s s' hi
   exact ⟨r,r',by unfold bQ; rw [h1],by unfold bQ; rw [h2],h3⟩
  | succ j ih =>
   intro k f s s' hk hf hi
   obtain ⟨f,rfl⟩ : ∃ g,f = g + 1 := ⟨f - 1,by omega⟩
   rcases h k s s' (by omega) hi with ⟨t,t',h1,h2,h3⟩ | ⟨r,r',h1,h2,h3⟩
   ·obtain ⟨r,r',h4,h5,h6⟩ := ih (k + 1) f t t' (by omega) (by omega) h3
    exact ⟨r,r',by unfold bQ; rw [h1]; exact h4,by unfold bQ; rw [h2]; exact h5,h6⟩
   ·exact ⟨r,r',by unfold bQ; rw [h1],by unfold bQ; rw [h2],h3⟩
 exact go n 0 BIG s s' (by omega) (zX hn) h0
structure GB (P : Int) (bars : List aK) : Prop where
 p1 : 1 ≤ P
 p8 : P ≤ 8
 len : bars.length ≤ 1000
 a0 : ∀ {k : Nat} {x : aK},bars[k]? = some x → 0 ≤ x.A
 ab : ∀ {k : Nat} {x : aK},bars[k]? = some x → x.A ≠ x.B
 b0 : ∀ {k : Nat} {x : aK},bars[k]? = some x → 0 ≤ x.B
 ap : ∀ {k : Nat} {x : aK},bars[k]? = some x → x.A < P
 bp : ∀ {k : Nat} {x : aK},bars[k]? = some x → x.B < P
theorem VG.gb {g : aX} (h : VG g) : GB g.aH g.aC :=
 ⟨h.p1,h.p8,by have := h.len; omega,h.a0,fun hx => by have := h.ab hx; omega,fun hx => by have := h.a0 hx; have := h.ab hx; omega,fun hx => by have := h.ab hx; have := h.bp hx; omega,h.bp⟩
def fH (bars : List aK) (p : aY) (i : Nat) : aK := ((p.aI[i]?).bind fun e => bars[e.toNat]?).getD ⟨0,0⟩
structure PB (P : Int) (bars : List aK) (k : Int) (m : Nat) (p : aY) : Prop where
 k1 : 1 ≤ k
 k3 : k ≤ 3
 fl : (p.Free.length : Int) = P
 tl : p.aJ.length = p.aI.length
 pl : p.aI.length ≤ m
 pr : ∀ {i : Nat} {e : Int},p.aI[i]? = some e → 0 ≤ e ∧ e < (bars.length : Int) ∧ e < (m : Int)
 inc : ∀ {i : Nat} {e e' : Int},p.aI[i]? = some e → p.aI[i + 1]? = some e' → e < e'
 ends : ∀ {i : Nat} {t : Int},p.aJ[i]? = some t → t = (fH bars p i).A ∨ t = (fH bars p i).B
 fr : ∀ {v : Nat} {f : Int},p.Free[v]? = some f → 0 ≤ f ∧ f + (p.aJ.count (v : Int) : Int) = k
section
variable {P : Int} {bars : List aK} {k : Int} {m : Nat} {p : aY}
theorem PB.bar (hg : GB P bars) (h : PB P bars k m p) {i : Nat} (hi : i < p.aI.length) : ∃ e,p.aI[i]? = some e ∧ idx bars e = some (fH bars p i) ∧ bars[e.toNat]? = some (fH bars p i) := by
 have h1 := List.getElem?_eq_getElem hi
 obtain ⟨e0,e1,_⟩ := h.pr h1
 refine ⟨_,h1,?_⟩
 have h2 : bars[p.aI[i].toNat]? = some (fH bars p i) := by
  unfold fH
  rw [h1]
  simp only [Option.bind_some]
  rw [List.getElem?_eq_getElem (by omega)]
  rfl
 refine ⟨?_,h2⟩
 unfold idx
 rw [if_pos e0,h2]
theorem PB.qB (hg : GB P bars) (h : PB P bars k m p) {i : Nat} (hi : i < p.aI.length) : 0 ≤ (fH bars p i).A ∧ 0 ≤ (fH bars p i).B ∧ (fH bars p i).A ≠ (fH bars p i).B ∧ (fH bars p i).A < P ∧ (fH bars p i).B < P := by
 obtain ⟨e,_,_,h2⟩ := h.bar hg hi
 exact ⟨hg.a0 h2,hg.b0 h2,hg.ab h2,hg.ap h2,hg.bp h2⟩
theorem Kq (x : aK) (v : Int) (hp : P ≤ 8) (h : 0 ≤ x.A ∧ 0 ≤ x.B ∧ x.A ≠ x.B ∧ x.A < P ∧ x.B < P) (hv : v = x.A ∨ v = x.B) : tV x v = some (jk x v) := by
 unfold tV jk
 rw [iP (n := x.A + x.B) (by omega) (by omega)]
 rcases hv with rfl | rfl
 ·rw [iP (by omega) (by omega),beq_self_eq_true,cond_true]
  congr 1
  omega
 ·have : (x.A == x.B) = false := by simp; exact h.2.2.1
  rw [iP (by omega) (by omega),this,cond_false]
  congr 1
  omega
theorem Ul (x : aK) (v : Int) : yE x v = some (jk x v) := by
 unfold yE jk
 cases x.A == v <;> rfl
theorem wM {x : aK} {v : Int} (h : 0 ≤ x.A ∧ 0 ≤ x.B ∧ x.A ≠ x.B ∧ x.A < P ∧ x.B < P) (hv : v = x.A ∨ v = x.B) : 0 ≤ jk x v ∧ jk x v < P ∧ jk x v ≠ v ∧ (jk x v = x.A ∨ jk x v = x.B) ∧ jk x (jk x v) = v := by
 unfold jk
 rcases hv with rfl | rfl
 ·have e : (x.A == x.B) = false := by simp; exact h.2.2.1
  simp only [beq_self_eq_true,cond_true,e,cond_false]
  exact ⟨by omega,by omega,by omega,.inr trivial,trivial⟩
 ·have e : (x.A == x.B) = false := by simp; exact h.2.2.1
  simp only [e,cond_false,beq_self_eq_true,cond_true]
  exact ⟨by omega,by omega,by omega,.inl trivial,trivial⟩
theorem BI (m : List (Int × Int)) (k v j : Int) : gq (gU m k v) j = if j = k then v else gq m j := by
 induction m with
 | nil =>
  simp only [gU,gq]
  by_cases h : j = k
  ·simp [h]
  ·have : (j == k) = false := by simp [h]
   simp [h,this]
 | cons e r ih =>
  unfold gU
  cases hk : k == e.1 with
  | true =>
   rw [beq_iff_eq] at hk
   simp only [cond_true,gq]
   by_cases h : j = k
   ·simp [h]
   ·have h1 : (j == k) = false := by simp [h]
    have h2 : (j == e.1) = false := by simp [← hk,h]
    simp [h,h1,h2]
  | false =>
   simp only [cond_false,gq,ih]
   by_cases h : j = e.1
   ·have h1 : ¬ j = k := fun h2 => by
     rw [← h2,h] at hk
     simp at hk
    simp [h,h1]
    intro h3
    exact absurd (h.trans h3) h1
   ·have h1 : (j == e.1) = false := by simp [h]
    simp [h1]
theorem KD (m : List (Int × Int)) (k v j : Int) : iU (gU m k v) j = (decide (j = k) || iU m j) := by
 induction m with
 | nil =>
  simp only [gU,iU]
  by_cases h : j = k
  ·simp [h]
  ·have : (j == k) = false := by simp [h]
   simp [h,this]
 | cons e r ih =>
  unfold gU
  cases hk : k == e.1 with
  | true =>
   rw [beq_iff_eq] at hk
   simp only [cond_true,iU]
   by_cases h : j = k
   ·simp [h]
   ·have h1 : (j == k) = false := by simp [h]
    have h2 : (j == e.1) = false := by simp [← hk,h]
    simp [h,h1,h2]
  | false =>
   simp only [cond_false,iU,ih]
   cases hj : j == e.1 <;> simp
structure BF (P : Int) (bars : List aK) (p : aY) (a : Int) (q : List Int) (M : List (Int × Int)) (F : List Int) (S : List Bool) : Prop where
 first : q[0]? = some a
 nd : ∀ {i j : Nat} {v : Int},q[i]? = some v → q[j]? = some v → i = j
 rng : ∀ {i : Nat} {v : Int},q[i]? = some v → 0 ≤ v ∧ v < P
 sl : (S.length : Int) = P
 fl : (F.length : Int) = P
 cnt : q.length = S.count true
 seen : ∀ {v : Nat} {s : Bool},S[v]? = some s → (s = true ↔ (v : Int) ∈ q)
 has : ∀ v : Int,iU M v = true ↔ v ∈ q
 from_ : ∀ {v : Nat} {f : Int},F[v]? = some f → (v : Int) ∈ q → f = gq M v
 way : ∀ {j : Nat} {v : Int},0 < j → q[j]? = some v → ∃ (i j' : Nat) (t : Int),gq M v = i ∧ i < p.aI.length ∧ j' < j ∧ q[j']? = some t ∧ p.aJ[i]? = some t ∧ jk (fH bars p i) t = v
theorem BF.len {a : Int} {q : List Int} {M : List (Int × Int)} {F : List Int} {S : List Bool} (h : BF P bars p a q M F S) : (q.length : Int) ≤ P := by
 have := List.count_le_length (a := true) (l := S)
 have := h.cnt
 have := h.sl
 omega
theorem BF.more (hg : GB P bars) (hp : PB P bars k m p) {a : Int} {q : List Int} {M : List (Int × Int)} {F : List Int} {S : List Bool} (h : BF P bars p a q M F S) {i j : Nat} {t u : Int} (hi : i < p.aI.length) (hj : q[j]? = some t) (ht : p.aJ[i]? = some t) (hu : jk (fH bars p i) t = u) (hn : u ∉ q) :
  BF P bars p a (q ++ [u]) (gU M u i) (F.set u.toNat i) (S.set u.toNat true) := by
 have sJ := hp.ends ht
 obtain ⟨u0,u1,_,_,_⟩ := wM (hp.qB hg hi) sJ
 rw [hu] at u0 u1
 have hjl := (List.getElem?_eq_some_iff.1 hj).1
 have hget : ∀ {r : Nat} {v : Int},(q ++ [u])[r]? = some v → (r < q.length ∧ q[r]? = some v) ∨ (r = q.length ∧ v = u) := fun {r v} hr => by
  rw [List.getElem?_append] at hr
  split at hr
  ·exact .inl ⟨by assumption,hr⟩
  ·right
   have hrl : r - q.length = 0 := by
    rcases Nat.eq_zero_or_pos (r - q.length) with h0 | h0
    ·exact h0
    ·rw [List.getElem?_eq_none (by simp; omega)] at hr
     cases hr
   rw [hrl] at hr
   simp at hr
   exact ⟨by omega,hr.symm⟩
 have hmem : ∀ {r : Nat} {v : Int},q[r]? = some v → v ∈ q := fun hr => List.mem_of_getElem? hr
 have hsl := h.sl
 have hsu : S[u.toNat]? = some (S[u.toNat]'(by omega)) := List.getElem?_eq_getElem (by omega)
 have hsf : S[u.toNat]'(by omega) = false := by
  cases hb : S[u.toNat]'(by omega) with
  | false => rfl
  | true =>
   rw [hb] at hsu
   have := (h.seen hsu).1 rfl
   rw [Int.toNat_of_nonneg u0] at this
   exact absurd this hn
 refine ⟨?_,?_,?_,by simpa using h.sl,by simpa using h.fl,?_,?_,?_,?_,?_⟩
 ·rw [List.getElem?_append_left (by omega)]
  exact h.first
 ·intro r s v hr hs
  rcases hget hr with ⟨h1,h2⟩ | ⟨h1,h2⟩ <;> rcases hget hs with ⟨h3,h4⟩ | ⟨h3,h4⟩
  ·exact h.nd h2 h4
  ·subst h4; exact absurd (hmem h2) hn
  ·subst h2; exact absurd (hmem h4) hn
  ·omega
 ·intro r v hr
  rcases hget hr with ⟨_,h2⟩ | ⟨_,rfl⟩
  ·exact h.rng h2
  ·exact ⟨u0,u1⟩
 ·have := h.cnt
  rw [List.count_set (by omega),hsf,List.length_append]
  simp
  omega
 ·intro v s hv
  rw [List.getElem?_set] at hv
  rw [List.mem_append,List.mem_singleton]
  by_cases huv : u.toNat = v
  ·rw [if_pos huv] at hv
   split at hv
   ·injection hv with hv
    subst hv
    simp only [true_iff]
    right
    omega
   ·cases hv
  ·rw [if_neg huv] at hv
   rw [h.seen hv]
   constructor
   ·exact .inl
   ·rintro (h1 | h1)
    ·exact h1
    ·omega
 ·intro v
  rw [KD,Bool.or_eq_true,decide_eq_true_eq,h.has,List.mem_append,List.mem_singleton]
  exact Or.comm
 ·intro v f hv hq
  rw [List.getElem?_set] at hv
  rw [BI]
  by_cases huv : u.toNat = v
  ·rw [if_pos huv] at hv
   rw [if_pos (by omega)]
   split at hv
   ·injection hv with hv
    exact hv.symm
   ·cases hv
  ·rw [if_neg huv] at hv
   rw [if_neg (by omega)]
   refine h.from_ hv ?_
   rw [List.mem_append,List.mem_singleton] at hq
   rcases hq with h1 | h1
   ·exact h1
   ·omega
 ·intro r v h0 hr
  rcases hget hr with ⟨h1,h2⟩ | ⟨h1,rfl⟩
  ·obtain ⟨i',j',t',w1,w2,w3,w4,w5,w6⟩ := h.way h0 h2
   have hvu : v ≠ u := fun e => hn (e ▸ hmem h2)
   exact ⟨i',j',t',by rw [BI,if_neg hvu]; exact w1,w2,w3,by rw [List.getElem?_append_left (List.getElem?_eq_some_iff.1 w4).1]; exact w4,w5,w6⟩
  ·exact ⟨i,j,t,by rw [BI,if_pos rfl],hi,by omega,by rw [List.getElem?_append_left hjl]; exact hj,ht,hu⟩
theorem BF.start (hg : GB P bars) {a : Int} (a0 : 0 ≤ a) (a1 : a < P) {F : List Int} (hf : (F.length : Int) = P) (hF : ∀ {v : Nat} {f : Int},F[v]? = some f → f = -1) : BF P bars p a [a] (gU [] a (-1)) F ((List.replicate P.toNat false).set a.toNat true) := by
 have hp1 := hg.p1
 have hget : ∀ {r : Nat} {v : Int},([a] : List Int)[r]? = some v → r = 0 ∧ v = a := fun {r v} hr => by
  cases r with
  | zero => simp at hr; exact ⟨rfl,hr.symm⟩
  | succ r => simp at hr
 refine ⟨rfl,fun h1 h2 => by rw [(hget h1).1,(hget h2).1],fun hr => by obtain ⟨_,rfl⟩ := hget hr; exact ⟨a0,a1⟩,by simp; omega,hf,?_,?_,?_,?_,?_⟩
 ·rw [List.count_set (by simp; omega),List.getElem_replicate]
  simp [List.count_replicate]
 ·intro v s hv
  rw [List.mem_singleton]
  rw [List.getElem?_set] at hv
  by_cases hav : a.toNat = v
  ·rw [if_pos hav] at hv
   split at hv
   ·injection hv with hv
    subst hv
    simp only [true_iff]
    omega
   ·cases hv
  ·rw [if_neg hav,List.getElem?_replicate] at hv
   split at hv
   ·injection hv with hv
    subst hv
    simp
    omega
   ·cases hv
 ·intro v
  rw [KD,List.mem_singleton]
  simp [iU]
 ·intro v f hv hq
  rw [List.mem_singleton] at hq
  rw [BI,if_pos hq]
  exact hF hv
 ·intro j v h0 hr
  have := (hget hr).1
  omega
theorem CG {α : Type} {l : List α} {i j : Nat} {x y : α} (h : (l.set i x)[j]? = some y) : (i = j ∧ y = x) ∨ (i ≠ j ∧ l[j]? = some y) := by
 rw [List.getElem?_set] at h
 by_cases hij : i = j
 ·rw [if_pos hij] at h
  split at h
  ·injection h with h
   exact .inl ⟨hij,h.symm⟩
  ·cases h
 ·rw [if_neg hij] at h
  exact .inr ⟨hij,h⟩
structure TW (p : aY) (bars : List aK) (q : List Int) (M : List (Int × Int)) (u : Int) (j : Nat) (at_ : Int) (T : List Int) : Prop where
 oq : q[j]? = some at_
 tl : T.length = p.aJ.length
 keep : ∀ {r : Nat} {v : Int},r ≤ j → 0 < r → q[r]? = some v → T[(gq M v).toNat]? = p.aJ[(gq M v).toNat]?
 ends : ∀ {i : Nat} {t : Int},T[i]? = some t → t = (fH bars p i).A ∨ t = (fH bars p i).B
 cnt : ∀ v : Int,(T.count v : Int) = p.aJ.count v + (if v = u then 1 else 0) - (if v = at_ then 1 else 0)
theorem TW.step (hg : GB P bars) (hp : PB P bars k m p) {a : Int} {q : List Int} {M : List (Int × Int)} {F : List Int} {S : List Bool} (h : BF P bars p a q M F S) {u at_ : Int} {j : Nat} {T : List Int} (hT : TW p bars q M u j at_ T) (hne : at_ ≠ a) :
  ∃ (i j' : Nat) (t : Int),gq M at_ = i ∧ i < p.aI.length ∧ j' < j ∧ T[i]? = some t ∧ jk (fH bars p i) at_ = t ∧ TW p bars q M u j' t (T.set i at_) := by
 have hj0 : 0 < j := by
  rcases Nat.eq_zero_or_pos j with h0 | h0
  ·subst h0
   have := h.first.symm.trans hT.oq
   injection this with this
   exact absurd this.symm hne
  ·exact h0
 obtain ⟨i,j',t,w1,w2,w3,w4,w5,w6⟩ := h.way hj0 hT.oq
 have hk := hT.keep (Nat.le_refl _) hj0 hT.oq
 rw [w1,Int.toNat_natCast,w5] at hk
 obtain ⟨_,_,o3,o4,o5⟩ := wM (hp.qB hg w2) (hp.ends w5)
 rw [w6] at o3 o4 o5
 have hil := (List.getElem?_eq_some_iff.1 hk).1
 have hig : T[i] = t := by
  rw [List.getElem?_eq_getElem hil] at hk
  injection hk
 refine ⟨i,j',t,w1,w2,w3,hk,o5,w4,by simpa using hT.tl,?_,?_,?_⟩
 ·intro r v hr h0 hq
  have RN : (gq M v).toNat ≠ i := fun e => by
   obtain ⟨i2,_,t2,x1,x2,_,_,x5,x6⟩ := h.way h0 hq
   rw [x1,Int.toNat_natCast] at e
   subst e
   rw [w5] at x5
   injection x5 with x5
   subst x5
   have : v = at_ := x6.symm.trans w6
   subst this
   have := h.nd hq hT.oq
   omega
  rw [List.getElem?_set,if_neg (Ne.symm RN)]
  exact hT.keep (by omega) h0 hq
 ·intro i2 t2 h2
  rcases CG h2 with ⟨rfl,rfl⟩ | ⟨_,h3⟩
  ·exact o4
  ·exact hT.ends h3
 ·intro v
  rw [List.count_set hil,hig]
  have hc := hT.cnt v
  have hpos : t = v → 0 < T.count v := fun e => by
   subst e
   exact List.count_pos_iff.2 (List.mem_of_getElem? hk)
  by_cases h1 : v = t
  ·subst h1
   have := hpos rfl
   have h3 : ¬ v = at_ := fun e => o3 e.symm
   have h4 : (at_ == v) = false := by simp; exact fun e => h3 e.symm
   simp only [beq_self_eq_true,if_true,h4,Bool.false_eq_true,if_false,if_neg h3] at hc ⊢
   omega
  ·have h2 : (t == v) = false := by simp; exact fun e => h1 e.symm
   by_cases h3 : v = at_
   ·subst h3
    simp only [h2,Bool.false_eq_true,if_false,beq_self_eq_true,if_true,if_neg h1] at hc ⊢
    omega
   ·have h4 : (at_ == v) = false := by simp; exact fun e => h3 e.symm
    simp only [h2,h4,Bool.false_eq_true,if_false,if_neg h1,if_neg h3] at hc ⊢
    omega
theorem Vs (hg : GB P bars) (hp : PB P bars k m p) {g : aX} (oD : g.aH = P) (hgb : g.aC = bars) {a : Int} {q : List Int} {M : List (Int × Int)} {F : List Int} {S : List Bool} (h : BF P bars p a q M F S) {u : Int} {j : Nat} (hu : q[j]? = some u) (r1 : aY) (x2 x4 : Int) (s1 : Int × List (Int × Int) × List Int) (hM : gU s1.2.1 u s1.1 = M) :
  ∃ T,bQ (tX g p F a u r1 x2 x4) BIG (u,p.aJ) = some (((r1.Free.set u.toNat (aP (x2 - 1))).set a.toNat (aP (x4 + 1))),T,r1.aI) ∧
   bQ (qh p a s1 u x2 x4) BIG (u,p.aJ) = some (((p.Free.set u.toNat (aP (x2 - 1))).set a.toNat (aP (x4 + 1))),T) ∧ TW p bars q M u 0 a T := by
 have pG := h.len
 have h8 := hg.p8
 have hjl := (List.getElem?_eq_some_iff.1 hu).1
 obtain ⟨r,r',e1,e2,T,rfl,rfl,hT⟩ := Au (b := tX g p F a u r1 x2 x4) (b' := qh p a s1 u x2 x4) (s := (u,p.aJ)) (s' := (u,p.aJ))
  (fun n s s' => ∃ (j' : Nat) (at_ : Int) (T : List Int),s = (at_,T) ∧ s' = (at_,T) ∧ j' + n ≤ j ∧ TW p bars q M u j' at_ T)
  (fun r r' => ∃ T,r = (((r1.Free.set u.toNat (aP (x2 - 1))).set a.toNat (aP (x4 + 1))),T,r1.aI) ∧ r' = (((p.Free.set u.toNat (aP (x2 - 1))).set a.toNat (aP (x4 + 1))),T) ∧ TW p bars q M u 0 a T) (j + 1) (by omega)
  ⟨j,u,p.aJ,rfl,rfl,by omega,hu,rfl,fun _ _ _ => rfl,hp.ends,fun v => by omega⟩ (fun n s s' hn hs => by
   obtain ⟨j',at_,T,rfl,rfl,hj',hT⟩ := hs
   by_cases hat : at_ = a
   ·subst hat
    have hj0 : j' = 0 := h.nd hT.oq h.first
    subst hj0
    refine .inr ⟨_,_,?_,?_,T,rfl,rfl,hT⟩
    ·unfold tX
     simp
    ·unfold qh
     simp
   ·obtain ⟨i,j2,t,w1,w2,w3,w4,w5,w6⟩ := hT.step hg hp h hat
    have hb : (at_ != a) = true := by simp; exact hat
    obtain ⟨e,hpe,hbe,Pz⟩ := hp.bar hg w2
    have hpi : idx p.aI (i : Int) = some e := jh hpe
    have Ec := h.rng hT.oq
    have XJ := h.fl
    have PY : idx F at_ = some (i : Int) := by
     have hl : F[at_.toNat]? = some (F[at_.toNat]'(by omega)) := List.getElem?_eq_getElem (by omega)
     have := h.from_ hl (by rw [Int.toNat_of_nonneg Ec.1]; exact List.mem_of_getElem? hT.oq)
     rw [Int.toNat_of_nonneg Ec.1,w1] at this
     unfold idx
     rw [if_pos Ec.1,hl,this]
    have ni : idx T (i : Int) = some t := jh w4
    refine .inl ⟨(t,T.set i at_),(t,T.set i at_),?_,?_,j2,t,T.set i at_,rfl,rfl,by omega,w6⟩
    ·have ho : tV (fH bars p i) at_ = some t := by
      rw [Kq (P := P) _ _ h8 (hp.qB hg w2) ?_,w5]
      obtain ⟨_,_,_,o4,_⟩ := wM (hp.qB hg w2) (hT.ends w4)
      have hte := hT.ends w4
      unfold jk at w5
      by_cases hA : (fH bars p i).A = at_
      ·exact .inl hA.symm
      ·have : ((fH bars p i).A == at_) = false := by simp [hA]
       rw [this,cond_false] at w5
       -- the other end of at_ is A: at_ is B
       obtain ⟨i3,_,t3,z1,z2,_,_,z5,z6⟩ := h.way (j := j') (by
        rcases Nat.eq_zero_or_pos j' with h0 | h0
        ·subst h0
         have := h.first.symm.trans hT.oq
         injection this with this
         exact absurd this.symm hat
        ·exact h0) hT.oq
       rw [w1] at z1
       have : i3 = i := by omega
       subst this
       obtain ⟨_,_,_,KU,_⟩ := wM (hp.qB hg z2) (hp.ends z5)
       rw [z6] at KU
       exact KU
     unfold tX
     simp only [hb,cond_true,PY,hpi,hgb,hbe,ho,ni,Option.bind_some,Int.toNat_natCast]
    ·unfold qh
     simp only [hb,cond_true,hM,w1,ni,Option.bind_some,Int.toNat_natCast]) (fun s s' hs => by
   obtain ⟨j',at_,T,rfl,rfl,hj',hT⟩ := hs
   omega)
 exact ⟨T,e1,e2,hT⟩
theorem PB.moved (hg : GB P bars) (hp : PB P bars k m p) {q : List Int} {M : List (Int × Int)} {u a : Int} {T : List Int} {fu fa : Int} (hT : TW p bars q M u 0 a T) (u0 : 0 ≤ u) (a0 : 0 ≤ a) (uy : u ≠ a) (hfu : p.Free[u.toNat]? = some fu) (hfa : p.Free[a.toNat]? = some fa) (hpos : 0 < fu) :
  PB P bars k m ⟨(p.Free.set u.toNat (fu - 1)).set a.toNat (fa + 1),T,p.aI⟩ := by
 refine ⟨hp.k1,hp.k3,by simpa using hp.fl,hT.tl.trans hp.tl,hp.pl,hp.pr,hp.inc,hT.ends,?_⟩
 intro v f hv
 change 0 ≤ f ∧ f + (T.count (v : Int) : Int) = k
 have hc := hT.cnt (v : Int)
 rcases CG hv with ⟨h1,rfl⟩ | ⟨h1,h2⟩
 ·have hva : (v : Int) = a := by omega
  have hf := hp.fr hfa
  rw [Int.toNat_of_nonneg a0] at hf
  rw [hva,if_neg (Ne.symm uy),if_pos rfl] at hc
  rw [hva]
  omega
 ·rcases CG h2 with ⟨h3,rfl⟩ | ⟨h3,h4⟩
  ·have hvu : (v : Int) = u := by omega
   have hf := hp.fr hfu
   rw [Int.toNat_of_nonneg u0] at hf
   rw [hvu,if_pos rfl,if_neg uy] at hc
   rw [hvu]
   omega
  ·have hf := hp.fr h4
   rw [if_neg (show ¬ (v : Int) = u by omega),if_neg (show ¬ (v : Int) = a by omega)] at hc
   omega
end
end Go.Proofs.Ytdmlaldifbmkpaa
end
section
set_option linter.unusedVariables false
set_option linter.unusedSimpArgs false
set_option linter.unnecessarySimpa false
open Go Go.Fw
namespace Go.Proofs.Ytdmlaldifbmkpaa
section
variable {P : Int} {bars : List aK} {k : Int} {m : Nat} {p : aY}
theorem FD (hg : GB P bars) (hp : PB P bars k m p) (hm : m ≤ 1000) : pz p = some p := by
 have h1 := hp.fl
 have h2 := hp.tl
 have h3 := hp.pl
 have h8 := hg.p8
 unfold pz
 rw [iM (by simp; omega),iM (by simp; omega),iM (by simp; omega)]
 rfl
theorem Ou (hg : GB P bars) (hp : PB P bars k m p) (hm : m ≤ 1000) : yL p = some p := by
 have h1 := hp.fl
 have h2 := hp.tl
 have h3 := hp.pl
 have h8 := hg.p8
 unfold yL
 rw [Df _ (by omega),Df _ (by omega),Df _ (by omega)]
 rfl
theorem PB.jy (hp : PB P bars k m p) {v : Int} (v0 : 0 ≤ v) (v1 : v < P) : ∃ f,p.Free[v.toNat]? = some f ∧ idx p.Free v = some f ∧ 0 ≤ f ∧ f ≤ k := by
 have h1 := hp.fl
 have h2 : p.Free[v.toNat]? = some (p.Free[v.toNat]'(by omega)) := List.getElem?_eq_getElem (by omega)
 have h3 := hp.fr h2
 refine ⟨_,h2,?_,h3.1,by omega⟩
 unfold idx
 rw [if_pos v0,h2]
structure Moved (P : Int) (bars : List aK) (k : Int) (m : Nat) (p : aY) (a b : Int) (p' : aY) : Prop where
 pb : PB P bars k m p'
 placed : p'.aI = p.aI
 fa : ∀ {f : Int},p.Free[a.toNat]? = some f → p'.Free[a.toNat]? = some (f + 1)
 fb : p'.Free[b.toNat]? = p.Free[b.toNat]?
theorem PU {g : aX} (h0 : 0 ≤ g.aH) (h8 : g.aH ≤ 8) : bQ (wH g) BIG (0,List.replicate g.aH.toNat 0) = some (List.replicate g.aH.toNat (-1)) := by
 refine mQ (fun n => ((n : Int),List.replicate n (-1) ++ List.replicate (g.aH.toNat - n) 0)) g.aH.toNat (by omega) (by simp) (fun n hn => ?_) ?_
 ·have hs := VI (List.replicate n (-1 : Int)) 0 (-1) n g.aH.toNat (by simp) hn
  have hi : idx (List.replicate n (-1 : Int) ++ List.replicate (g.aH.toNat - n) 0) (n : Int) = some 0 := jh (by rw [List.getElem?_append_right (by simp),List.length_replicate,Nat.sub_self,List.getElem?_replicate,if_pos (by omega)])
  unfold wH
  simp only [hi,Option.bind_some,Int.toNat_natCast,hs,gm (show n ≤ 1099511627776 by omega)]
  rw [decide_eq_true (by omega),cond_true,← List.replicate_succ']
 ·unfold wH
  simp only [Nat.sub_self,List.replicate_zero,List.append_nil]
  rw [decide_eq_false (by omega)]
  rfl
theorem VP (hg : GB P bars) (hp : PB P bars k m p) (hm : m ≤ 1000) {g : aX} (oD : g.aH = P) (hgb : g.aC = bars) {a b : Int} (a0 : 0 ≤ a) (a1 : a < P) {q : List Int} {M : List (Int × Int)} {F : List Int} {S : List Bool} {u : Int} {j : Nat} (s1 : Int × List (Int × Int) × List Int) (hM : gU s1.2.1 u s1.1 = M) (h : BF P bars p a q M F S) (hu : q[j]? = some u) (uy : u ≠ a) (hub : u ≠ b) (hab : a ≠ b) (b0 : 0 ≤ b)
  {fu : Int} (hfu : p.Free[u.toNat]? = some fu) (hpos : 0 < fu) :
  ∃ p' fa,idx p.Free a = some fa ∧ yw g p F a u = some p' ∧ bQ (qh p a s1 u fu fa) BIG (u,p.aJ) = some (p'.Free,p'.aJ) ∧ p'.aI = p.aI ∧ Moved P bars k m p a b p' := by
 obtain ⟨u0,u1⟩ := h.rng hu
 obtain ⟨fa,hfa,hia,fa0,ru⟩ := hp.jy a0 a1
 have k3 := hp.k3
 have hfk : fu ≤ k := by have := hp.fr hfu; omega
 have hiu : idx p.Free u = some fu := by unfold idx; rw [if_pos u0,hfu]
 obtain ⟨T,e1,e2,hT⟩ := Vs hg hp oD hgb h hu p fu fa s1 hM
 rw [iP (n := fu - 1) (by omega) (by omega),iP (n := fa + 1) (by omega) (by omega)] at e1 e2
 have hne : u.toNat ≠ a.toNat := by omega
 have EQ : ∀ x : Int,idx (p.Free.set u.toNat x) a = some fa := fun x => by
  unfold idx
  rw [if_pos a0,List.getElem?_set,if_neg hne,hfa]
 refine ⟨⟨(p.Free.set u.toNat (fu - 1)).set a.toNat (fa + 1),T,p.aI⟩,fa,hia,?_,e2,rfl,⟨hp.moved hg hT u0 a0 uy hfu hfa hpos,rfl,fun {f} hf => ?_,?_⟩⟩
 ·unfold yw
  rw [FD hg hp hm]
  simp only [hiu,Option.bind_some,EQ,e1,iP (n := fu - 1) (show -4611686018427387904 ≤ fu - 1 by omega) (by omega)]
 ·rw [hfa] at hf
  injection hf with hf
  subst hf
  have hl := (List.getElem?_eq_some_iff.1 hfa).1
  rw [List.getElem?_set,if_pos rfl,if_pos (by simpa using hl)]
 ·show ((p.Free.set u.toNat (fu - 1)).set a.toNat (fa + 1))[b.toNat]? = _
  rw [List.getElem?_set,if_neg (by omega),List.getElem?_set,if_neg (by omega)]
def ZO (p : aY) (a b : Int) (q : List Int) : Prop := ∀ v ∈ q,v ≠ a → v ≠ b → p.Free[v.toNat]? = some 0
def CL (bars : List aK) (p : aY) (v : Int) (m : Nat) (q : List Int) : Prop := ∀ (i : Nat) (t : Int),i < m → p.aJ[i]? = some t → t = v → jk (fH bars p i) t ∈ q
theorem CL.more {v u : Int} {m : Nat} {q : List Int} (h : CL bars p v m q) : CL bars p v m (q ++ [u]) := fun i t h1 h2 h3 => List.mem_append_left _ (h i t h1 h2 h3)
theorem CL.step {v t : Int} {j : Nat} {q : List Int} (h : CL bars p v j q) (hT : p.aJ[j]? = some t) (hx : t = v → jk (fH bars p j) t ∈ q) : CL bars p v (j + 1) q := fun i s h1 h2 h3 => by
 by_cases hij : i = j
 ·subst hij
  rw [hT] at h2
  injection h2 with h2
  subst h2
  exact hx h3
 ·exact h i s (by omega) h2 h3
structure Reach (P : Int) (bars : List aK) (p : aY) (a b : Int) (q : List Int) : Prop where
 fst : a ∈ q
 rng : ∀ v ∈ q,0 ≤ v ∧ v < P
 zero : ZO p a b q
 clo : ∀ (i : Nat) (t : Int),p.aJ[i]? = some t → t ∈ q → jk (fH bars p i) t ∈ q
theorem Ih (hg : GB P bars) (hp : PB P bars k m p) (hm : m ≤ 1000) {g : aX} (oD : g.aH = P) (hgb : g.aC = bars) {a b : Int} (a0 : 0 ≤ a) (a1 : a < P) (b0 : 0 ≤ b) (b1 : b < P) (hab : a ≠ b) :
  (qp g p a b = some (p,false) ∧ qg bars p a b = some (false,p) ∧ ∃ q,Reach P bars p a b q) ∨ ∃ p',qp g p a b = some (p',true) ∧ qg bars p a b = some (true,p') ∧ Moved P bars k m p a b p' := by
 have h8 := hg.p8
 have hp1 := hg.p1
 have hpl := hp.pl
 have XM := hp.tl
 have hstart := BF.start (bars := bars) (p := p) hg a0 a1 (F := List.replicate P.toNat (-1)) (by simp; omega) (fun {v f} hv => by
  rw [List.getElem?_replicate] at hv
  split at hv
  ·injection hv with hv; exact hv.symm
  ·cases hv)
 -- what a round over the bars gives
 have U9 : ∀ (n : Nat) (v : Int) (q : List Int) (M : List (Int × Int)) (F : List Int) (S : List Bool),BF P bars p a q M F S → q[n]? = some v → ZO p a b q → (∀ r w,r < n → q[r]? = some w → CL bars p w p.aI.length q) →
   ∃ r r',bQ (qA g p a b ((n : Int),F,q,S) v) BIG (0,F,q,S) = some r ∧ bQ (pX bars p a b ((n : Int),M,q)) BIG (0,M,q) = some r' ∧
    ((∃ q' M' F' S',r = .inl ((n : Int),F',q',S') ∧ r' = .inl ((n : Int),M',q') ∧ BF P bars p a q' M' F' S' ∧ n < q'.length ∧ ZO p a b q' ∧ (∀ r w,r < n + 1 → q'[r]? = some w → CL bars p w p.aI.length q')) ∨ ∃ p',r = .inr (p',true) ∧ r' = .inr (true,p') ∧ Moved P bars k m p a b p') := by
  intro n v q M F S hB hv hz hc
  refine Au (fun j s s' => ∃ q' M' F' S',s = ((j : Int),F',q',S') ∧ s' = ((j : Int),M',q') ∧ BF P bars p a q' M' F' S' ∧ q'[n]? = some v ∧ ZO p a b q' ∧ CL bars p v j q' ∧ (∀ r w,r < n → q'[r]? = some w → CL bars p w p.aI.length q')) _ p.aI.length (by omega) ⟨q,M,F,S,rfl,rfl,hB,hv,hz,(fun i _ h => by omega),hc⟩ (fun j s s' hj hs => ?_) (fun s s' hs => ?_)
  ·obtain ⟨q,M,F,S,rfl,rfl,hB,hv,hz,hcv,hc⟩ := hs
   obtain ⟨e,hpe,hbe,Pz⟩ := hp.bar hg hj
   have hok := hp.qB hg hj
   have hpi : idx p.aI (j : Int) = some e := jh hpe
   have hT : p.aJ[j]? = some (p.aJ[j]'(by omega)) := List.getElem?_eq_getElem (by omega)
   generalize p.aJ[j]'(by omega) = t at hT
   have ni : idx p.aJ (j : Int) = some t := jh hT
   have hqi : idx q (n : Int) = some v := jh hv
   by_cases Ef : t = v
   ·subst Ef
    have sJ := hp.ends hT
    obtain ⟨u0,u1,V3,_,_⟩ := wM hok sJ
    have Ae := Kq (P := P) (fH bars p j) t h8 hok sJ
    have Ad := Ul (fH bars p j) t
    generalize hu : jk (fH bars p j) t = u at u0 u1 V3 Ae Ad
    have hsl := hB.sl
    have hfl := hB.fl
    have Dz : S[u.toNat]? = some (S[u.toNat]'(by omega)) := List.getElem?_eq_getElem (by omega)
    generalize S[u.toNat]'(by omega) = su at Dz
    have Dy : idx S u = some su := by unfold idx; rw [if_pos u0,Dz]
    have Ah := hB.seen Dz
    rw [Int.toNat_of_nonneg u0] at Ah
    have hhas := hB.has u
    cases su with
    | true =>
     have hm1 : iU M u = true := hhas.2 (Ah.1 rfl)
     refine .inl ⟨(((j + 1 : Nat) : Int),F,q,S),(((j + 1 : Nat) : Int),M,q),?_,?_,q,M,F,S,rfl,rfl,hB,hv,hz,hcv.step hT (fun _ => by rw [hu]; exact Ah.1 rfl),hc⟩
     ·unfold qA
      simp only [ni,hpi,hgb,hbe,Ae,Dy,Option.bind_some,gm (show j ≤ 1099511627776 by omega),bne_self_eq_false,cond_false,cond_true]
      rw [decide_eq_true (by omega),cond_true]
     ·unfold pX
      simp only [ni,hpi,hqi,hbe,Ad,hm1,Option.bind_some,gm (show j ≤ 1099511627776 by omega),bne_self_eq_false,cond_false,cond_true]
      rw [decide_eq_true (by omega),cond_true]
    | false =>
     have hnq : u ∉ q := fun h => by have := Ah.2 h; cases this
     have hm1 : iU M u = false := by
      cases hb : iU M u with
      | false => rfl
      | true => exact absurd (hhas.1 hb) hnq
     have hB2 := hB.more hg hp hj hv hT hu hnq
     obtain ⟨fu,hfu,hiu,fu0,XI⟩ := hp.jy u0 u1
     have uy : u ≠ a := fun e => hnq (e ▸ List.mem_of_getElem? hB.first)
     have Io : idx F u = some ((F[u.toNat]?).getD 0) := TT 0 u0 (by omega)
     have hlast : (q ++ [u])[q.length]? = some u := by rw [List.getElem?_append_right (Nat.le_refl _),Nat.sub_self]; rfl
     have xX : (q ++ [u])[n]? = some t := by rw [List.getElem?_append_left (List.getElem?_eq_some_iff.1 hv).1]; exact hv
     have pG := hB2.len
     by_cases hfound : u ≠ b ∧ 0 < fu
     ·obtain ⟨hub,hpos⟩ := hfound
      obtain ⟨p',fa,hia,es,ei,O5,hmv⟩ := VP hg hp hm oD hgb a0 a1 ((j : Int),M,q) rfl hB2 hlast uy hub hab b0 hfu hpos
      have hne : u.toNat ≠ a.toNat := by omega
      have EQ : ∀ x : Int,idx (p.Free.set u.toNat x) a = some fa := fun x => by
       unfold idx at hia ⊢
       rw [if_pos a0] at hia ⊢
       rw [List.getElem?_set,if_neg hne,hia]
      have k3 := hp.k3
      refine .inr ⟨.inr (p',true),.inr (true,p'),?_,?_,.inr ⟨p',rfl,rfl,hmv⟩⟩
      ·unfold qA
       simp only [ni,hpi,hgb,hbe,Ae,Dy,Io,hiu,es,Option.bind_some,bne_self_eq_false,cond_false,show (u != b) = true by simp [hub],decide_eq_true hpos,cond_true]
       rw [decide_eq_true (by omega),cond_true]
      ·unfold pX
       simp only [ni,hpi,hqi,hbe,Ad,hm1,hiu,EQ,ei,Option.bind_some,bne_self_eq_false,cond_false,show (u == b) = false by simp [hub],show (fu == 0) = false by simp; omega]
       rw [decide_eq_true (by omega),cond_true,← O5]
     ·refine .inl ⟨(((j + 1 : Nat) : Int),F.set u.toNat j,q ++ [u],S.set u.toNat true),(((j + 1 : Nat) : Int),gU M u j,q ++ [u]),?_,?_,_,_,_,_,rfl,rfl,hB2,xX,?_,hcv.more.step hT (fun _ => by rw [hu]; exact List.mem_append_right _ (List.mem_singleton.2 rfl)),?_⟩
      rotate_left 2
      ·intro w hw SG hwb
       rcases List.mem_append.1 hw with h1 | h1
       ·exact hz w h1 SG hwb
       ·rw [List.mem_singleton] at h1
        subst h1
        rw [hfu]
        have : ¬ 0 < fu := fun h => hfound ⟨hwb,h⟩
        congr 1
        omega
      ·intro r w hr hw
       rw [List.getElem?_append_left (by have := (List.getElem?_eq_some_iff.1 hv).1; omega)] at hw
       exact (hc r w hr hw).more
      ·unfold qA
       simp only [ni,hpi,hgb,hbe,Ae,Dy,Io,hiu,Option.bind_some,bne_self_eq_false,cond_false,gm (show j ≤ 1099511627776 by omega),iM (show q.length + ([u] : List Int).length ≤ 2147483648 by simp at pG ⊢; omega)]
       rw [decide_eq_true (by omega),cond_true]
       by_cases hub : u = b
       ·rw [show (u != b) = false by simp [hub]]
        rfl
       ·have : ¬ 0 < fu := fun h => hfound ⟨hub,h⟩
        rw [show (u != b) = true by simp [hub],decide_eq_false this]
        rfl
      ·unfold pX
       simp only [ni,hpi,hqi,hbe,Ad,hm1,hiu,Option.bind_some,bne_self_eq_false,cond_false,gm (show j ≤ 1099511627776 by omega),iM (show q.length + ([u] : List Int).length ≤ 2147483648 by simp at pG ⊢; omega)]
       rw [decide_eq_true (by omega),cond_true]
       by_cases hub : u = b
       ·rw [show (u == b) = true by simp [hub]]
        rfl
       ·have : ¬ 0 < fu := fun h => hfound ⟨hub,h⟩
        rw [show (u == b) = false by simp [hub],show (fu == 0) = true by simp; omega]
        rfl
   ·have hne : (t != v) = true := by simp; exact Ef
    refine .inl ⟨(((j + 1 : Nat) : Int),F,q,S),(((j + 1 : Nat) : Int),M,q),?_,?_,q,M,F,S,rfl,rfl,hB,hv,hz,hcv.step hT (fun h => absurd h Ef),hc⟩
    ·unfold qA
     simp only [ni,Option.bind_some,hne,cond_true,gm (show j ≤ 1099511627776 by omega)]
     rw [decide_eq_true (by omega),cond_true]
    ·unfold pX
     simp only [ni,hpi,hqi,Option.bind_some,hne,cond_true,gm (show j ≤ 1099511627776 by omega)]
     rw [decide_eq_true (by omega),cond_true]
  ·obtain ⟨q,M,F,S,rfl,rfl,hB,hv,hz,hcv,hc⟩ := hs
   refine ⟨.inl ((n : Int),F,q,S),.inl ((n : Int),M,q),by simp [qA],by simp [pX],.inl ⟨q,M,F,S,rfl,rfl,hB,(List.getElem?_eq_some_iff.1 hv).1,hz,fun r w hr hw => ?_⟩⟩
   by_cases hrn : r = n
   ·subst hrn
    rw [hv] at hw
    injection hw with hw
    subst hw
    exact hcv
   ·exact hc r w (by omega) hw
 -- the rounds over the points met
 have outer : ∃ r r',bQ (tN g p a b) BIG (0,List.replicate P.toNat (-1),[a],(List.replicate P.toNat false).set a.toNat true) = some r ∧ bQ (sW bars p a b) BIG (0,gU [] a (-1),[a]) = some r' ∧
   ((r = .inl () ∧ r' = .inl () ∧ ∃ q,Reach P bars p a b q) ∨ ∃ p',r = .inr (p',true) ∧ r' = .inr (true,p') ∧ Moved P bars k m p a b p') := by
  refine Au (fun n s s' => ∃ q M F S,s = ((n : Int),F,q,S) ∧ s' = ((n : Int),M,q) ∧ BF P bars p a q M F S ∧ n ≤ q.length ∧ ZO p a b q ∧ (∀ r w,r < n → q[r]? = some w → CL bars p w p.aI.length q)) _ (P.toNat + 1) (by omega) ⟨[a],_,_,_,rfl,rfl,hstart,Nat.zero_le _,(fun v hv ha _ => absurd (List.mem_singleton.1 hv) ha),(fun r w h => by omega)⟩ (fun n s s' hn hs => ?_) (fun s s' hs => ?_)
  ·obtain ⟨q,M,F,S,rfl,rfl,hB,hnl,hz,hc⟩ := hs
   have pG := hB.len
   by_cases hlt : n < q.length
   ·have hv := List.getElem?_eq_getElem hlt
    obtain ⟨r,r',e1,e2,hr⟩ := U9 n q[n] q M F S hB hv hz hc
    rcases hr with ⟨q',M',F',S',rfl,rfl,hB',hn',hz',hc'⟩ | ⟨p',rfl,rfl,hmv⟩
    ·refine .inl ⟨(((n + 1 : Nat) : Int),F',q',S'),(((n + 1 : Nat) : Int),M',q'),?_,?_,q',M',F',S',rfl,rfl,hB',hn',hz',hc'⟩
     ·unfold tN
      simp only [jh hv,e1,Option.bind_some,Sum.elim_inl,gm (show n ≤ 1099511627776 by omega)]
      rw [decide_eq_true (by omega),cond_true]
     ·unfold sW
      simp only [e2,Option.bind_some,Sum.elim_inl,gm (show n ≤ 1099511627776 by omega)]
      rw [decide_eq_true (by omega),cond_true]
    ·refine .inr ⟨.inr (p',true),.inr (true,p'),?_,?_,.inr ⟨p',rfl,rfl,hmv⟩⟩
     ·unfold tN
      simp only [jh hv,e1,Option.bind_some,Sum.elim_inr]
      rw [decide_eq_true (by omega),cond_true]
     ·unfold sW
      simp only [e2,Option.bind_some,Sum.elim_inr]
      rw [decide_eq_true (by omega),cond_true]
   ·refine .inr ⟨.inl (),.inl (),?_,?_,.inl ⟨rfl,rfl,q,List.mem_of_getElem? hB.first,fun v hv => ?_,hz,fun i t ht RV => ?_⟩⟩
    rotate_left 2
    ·obtain ⟨r,hr⟩ := List.getElem?_of_mem hv
     exact hB.rng hr
    ·obtain ⟨r,hr⟩ := List.getElem?_of_mem RV
     have hrl := (List.getElem?_eq_some_iff.1 hr).1
     have hil := (List.getElem?_eq_some_iff.1 ht).1
     exact hc r t (by omega) hr i t (by omega) ht rfl
    ·unfold tN
     simp only
     rw [decide_eq_false (by omega),cond_false]
    ·unfold sW
     simp only
     rw [decide_eq_false (by omega),cond_false]
  ·obtain ⟨q,M,F,S,rfl,rfl,hB,hnl,_,_⟩ := hs
   have pG := hB.len
   omega
 obtain ⟨r,r',e1,e2,hr⟩ := outer
 have hS : qp g p a b = Sum.elim (fun _ => some (p,false)) (fun r => some r) r := by
  have hra : idx (List.replicate P.toNat false) a = some false := by
   unfold idx
   rw [if_pos a0,List.getElem?_replicate,if_pos (by omega)]
  have hfi := PU (g := g) (by omega) (by omega)
  rw [oD] at hfi
  unfold qp
  rw [oD,Jr (by omega) (by omega),hfi,hra]
  simp only [Option.bind_some,e1]
 have hI : qg bars p a b = Sum.elim (fun _ => some (false,p)) (fun r => some r) r' := by
  unfold qg
  rw [e2]
  rfl
 rcases hr with ⟨rfl,rfl,hq⟩ | ⟨p',rfl,rfl,hmv⟩
 ·exact .inl ⟨hS,hI,hq⟩
 ·exact .inr ⟨p',hS,hI,hmv⟩
def two (p : aY) (a b : Int) : Int := (p.Free[a.toNat]?).getD 0 + (p.Free[b.toNat]?).getD 0
theorem Dw (hg : GB P bars) (hp : PB P bars k m p) (hm : m ≤ 1000) {g : aX} (oD : g.aH = P) (hgb : g.aC = bars) {a b : Int} (a0 : 0 ≤ a) (a1 : a < P) (b0 : 0 ≤ b) (b1 : b < P) (hab : a ≠ b) {want : Int} (hw : want ≤ 1000) :
  (∃ p',qw g p a b want = some (p',true) ∧ sV bars p a b want = some (true,p') ∧ PB P bars k m p' ∧ p'.aI = p.aI ∧ want ≤ two p' a b) ∨ ∃ p',qw g p a b want = some (p',false) ∧ sV bars p a b want = some (false,p') ∧ PB P bars k m p' ∧ p'.aI = p.aI ∧ two p' a b < want ∧ (∃ q,Reach P bars p' a b q) ∧ ∃ q,Reach P bars p' b a q := by
 have hwv : ∀ x : Int,0 ≤ x → x ≤ k → aP x = x := fun x h1 h2 => by have := hp.k3; exact iP (by omega) (by omega)
 have main : ∃ r r',bQ (qx g a b want) BIG (p.Free,p.aJ,p.aI) = some r ∧ bQ (qf bars a b want) BIG (p.Free,p.aJ,p.aI) = some r' ∧
   ((∃ p',r = .inl (p'.Free,p'.aJ,p'.aI) ∧ r' = .inl (p'.Free,p'.aJ,p'.aI) ∧ PB P bars k m p' ∧ p'.aI = p.aI ∧ want ≤ two p' a b) ∨ ∃ p',r = .inr (p',false) ∧ r' = .inr (false,p') ∧ PB P bars k m p' ∧ p'.aI = p.aI ∧ two p' a b < want ∧ (∃ q,Reach P bars p' a b q) ∧ ∃ q,Reach P bars p' b a q) := by
  refine Au (fun n s s' => ∃ p',s = (p'.Free,p'.aJ,p'.aI) ∧ s' = (p'.Free,p'.aJ,p'.aI) ∧ PB P bars k m p' ∧ p'.aI = p.aI ∧ (n : Int) ≤ two p' a b) _ 1001 (by omega) ⟨p,rfl,rfl,hp,rfl,?_⟩ (fun n s s' hn hs => ?_) (fun s s' hs => ?_)
  ·obtain ⟨fa,hfa,_,fa0,_⟩ := hp.jy a0 a1
   obtain ⟨fb,hfb,_,sD,_⟩ := hp.jy b0 b1
   unfold two
   rw [hfa,hfb]
   simp only [Option.getD_some]
   omega
  ·obtain ⟨p',rfl,rfl,hp',hpl,hn2⟩ := hs
   obtain ⟨fa,hfa,hia,fa0,ru⟩ := hp'.jy a0 a1
   obtain ⟨fb,hfb,hib,sD,ug⟩ := hp'.jy b0 b1
   have k3 := hp'.k3
   have mP : two p' a b = fa + fb := by
    unfold two
    rw [hfa,hfb]
    rfl
   have hsum : aP (fa + fb) = fa + fb := iP (by omega) (by omega)
   by_cases hlt : fa + fb < want
   ·rcases Ih hg hp' hm oD hgb a0 a1 b0 b1 hab with ⟨s1,i1,hq1⟩ | ⟨p2,s1,i1,hmv⟩
    ·rcases Ih hg hp' hm oD hgb b0 b1 a0 a1 (Ne.symm hab) with ⟨s2,i2,hq2⟩ | ⟨p2,s2,i2,hmv⟩
     ·refine .inr ⟨.inr (p',false),.inr (false,p'),?_,?_,.inr ⟨p',rfl,rfl,hp',hpl,by omega,hq1,hq2⟩⟩
      ·unfold qx
       simp only [hia,hib,Option.bind_some,hsum,decide_eq_true hlt,cond_true,s1,s2,cond_false,Bool.not_false]
      ·unfold qf
       simp only [hia,hib,Option.bind_some,hsum,decide_eq_true hlt,cond_true,i1,i2,Bool.not_false]
     ·refine .inl ⟨(p2.Free,p2.aJ,p2.aI),(p2.Free,p2.aJ,p2.aI),?_,?_,p2,rfl,rfl,hmv.pb,hmv.placed.trans hpl,?_⟩
      ·unfold qx
       simp only [hia,hib,Option.bind_some,hsum,decide_eq_true hlt,cond_true,s1,s2,cond_false,Bool.not_false,Bool.not_true]
      ·unfold qf
       simp only [hia,hib,Option.bind_some,hsum,decide_eq_true hlt,cond_true,i1,i2,Bool.not_false,Bool.not_true,cond_false]
      ·have h1 := hmv.fa hfb
       have h2 := hmv.fb
       rw [hfa] at h2
       unfold two
       rw [h1,h2]
       simp only [Option.getD_some]
       omega
    ·refine .inl ⟨(p2.Free,p2.aJ,p2.aI),(p2.Free,p2.aJ,p2.aI),?_,?_,p2,rfl,rfl,hmv.pb,hmv.placed.trans hpl,?_⟩
     ·unfold qx
      simp only [hia,hib,Option.bind_some,hsum,decide_eq_true hlt,cond_true,s1,cond_false,Bool.not_true]
     ·unfold qf
      simp only [hia,hib,Option.bind_some,hsum,decide_eq_true hlt,cond_true,i1,Bool.not_true,cond_false]
     ·have h1 := hmv.fa hfa
      have h2 := hmv.fb
      rw [hfb] at h2
      unfold two
      rw [h1,h2]
      simp only [Option.getD_some]
      omega
   ·refine .inr ⟨.inl (p'.Free,p'.aJ,p'.aI),.inl (p'.Free,p'.aJ,p'.aI),?_,?_,.inl ⟨p',rfl,rfl,hp',hpl,by omega⟩⟩
    ·unfold qx
     simp only [hia,hib,Option.bind_some,hsum,decide_eq_false hlt,cond_false]
    ·unfold qf
     simp only [hia,hib,Option.bind_some,hsum,decide_eq_false hlt,cond_false]
  ·obtain ⟨p',rfl,rfl,hp',hpl,hn2⟩ := hs
   obtain ⟨fa,hfa,hia,fa0,ru⟩ := hp'.jy a0 a1
   obtain ⟨fb,hfb,hib,sD,ug⟩ := hp'.jy b0 b1
   have k3 := hp'.k3
   unfold two at hn2
   rw [hfa,hfb] at hn2
   simp only [Option.getD_some] at hn2
   omega
 obtain ⟨r,r',e1,e2,hr⟩ := main
 have hS : qw g p a b want = Sum.elim (fun b27 => some (aY.mk b27.1 b27.2.1 b27.2.2,true)) (fun r => some r) r := by
  unfold qw
  rw [FD hg hp hm]
  simp only [Option.bind_some,e1]
 have hI : sV bars p a b want = Sum.elim (fun lm => some (true,aY.mk lm.1 lm.2.1 lm.2.2)) (fun r => some r) r' := by
  unfold sV
  rw [e2]
  rfl
 rcases hr with ⟨p',rfl,rfl,h1,h2,h3⟩ | ⟨p',rfl,rfl,h1⟩
 ·exact .inl ⟨p',hS,hI,h1,h2,h3⟩
 ·exact .inr ⟨p',hS,hI,h1⟩
end
end Go.Proofs.Ytdmlaldifbmkpaa
end
section
set_option linter.unusedVariables false
set_option linter.unusedSimpArgs false
set_option linter.unnecessarySimpa false
open Go Go.Fw
namespace Go.Proofs.Ytdmlaldifbmkpaa
theorem PB.weak {P : Int} {bars : List aK} {k : Int} {m : Nat} {p : aY} (h : PB P bars k m p) : PB P bars k (m + 1) p :=
 ⟨h.k1,h.k3,h.fl,h.tl,by have := h.pl; omega,fun hx => by have := h.pr hx; omega,h.inc,h.ends,h.fr⟩
theorem Ld {α : Type} {l : List α} {x y : α} {i : Nat} (h : (l ++ [x])[i]? = some y) : (i < l.length ∧ l[i]? = some y) ∨ (i = l.length ∧ y = x) := by
 rw [List.getElem?_append] at h
 split at h
 ·exact .inl ⟨by assumption,h⟩
 ·right
  have : i - l.length = 0 := by
   rcases Nat.eq_zero_or_pos (i - l.length) with h0 | h0
   ·exact h0
   ·rw [List.getElem?_eq_none (by simp; omega)] at h
    cases h
  rw [this] at h
  simp at h
  exact ⟨by omega,h.symm⟩
theorem PB.place {P : Int} {bars : List aK} {k : Int} {m : Nat} {p : aY} (hg : GB P bars) (hp : PB P bars k m p) (hml : m < bars.length) {x : aK} (hx : bars[m]? = some x) {t f : Int} (ht : t = x.A ∨ t = x.B) (hf : p.Free[t.toNat]? = some f) (hpos : 0 < f) :
  PB P bars k (m + 1) ⟨p.Free.set t.toNat (f - 1),p.aJ ++ [t],p.aI ++ [(m : Int)]⟩ := by
 have hpl := hp.pl
 have htl := hp.tl
 have t0 : 0 ≤ t := by
  rcases ht with rfl | rfl
  ·exact hg.a0 hx
  ·exact hg.b0 hx
 have hlast : ∀ {i : Nat} {v : Int},(p.aI ++ [(m : Int)])[i]? = some v → (i < p.aI.length ∧ p.aI[i]? = some v) ∨ (i = p.aI.length ∧ v = (m : Int)) := fun h => Ld h
 refine ⟨hp.k1,hp.k3,by simpa using hp.fl,by simp [htl],by simp; omega,fun {i e} he => ?_,fun {i e e'} he he' => ?_,fun {i v} hv => ?_,fun {v w} hv => ?_⟩
 ·rcases hlast he with ⟨_,h⟩ | ⟨_,rfl⟩
  ·have := hp.pr h
   omega
  ·omega
 ·rcases hlast he' with ⟨h1,h2⟩ | ⟨h1,rfl⟩
  ·rcases hlast he with ⟨_,h3⟩ | ⟨h3,_⟩
   ·exact hp.inc h3 h2
   ·omega
  ·rcases hlast he with ⟨_,h3⟩ | ⟨h3,_⟩
   ·have := hp.pr h3
    omega
   ·omega
 ·change (p.aJ ++ [t])[i]? = some v at hv
  rcases Ld hv with ⟨h1,h2⟩ | ⟨h1,rfl⟩
  ·have := hp.ends h2
   have e : fH bars ⟨p.Free.set t.toNat (f - 1),p.aJ ++ [t],p.aI ++ [(m : Int)]⟩ i = fH bars p i := by
    unfold fH
    simp only
    rw [List.getElem?_append_left (by omega)]
   rw [e]
   exact this
  ·have e : fH bars ⟨p.Free.set v.toNat (f - 1),p.aJ ++ [v],p.aI ++ [(m : Int)]⟩ i = x := by
    unfold fH
    simp only
    rw [List.getElem?_append_right (by omega),h1,htl,Nat.sub_self]
    simp [hx]
   rw [e]
   exact ht
 ·change 0 ≤ w ∧ w + ((p.aJ ++ [t]).count (v : Int) : Int) = k
  rw [List.count_append]
  rcases CG hv with ⟨h1,rfl⟩ | ⟨h1,h2⟩
  ·have hvt : (v : Int) = t := by omega
   have := hp.fr hf
   rw [Int.toNat_of_nonneg t0] at this
   rw [hvt]
   simp
   omega
  ·have := hp.fr h2
   have h3 : ([t] : List Int).count (v : Int) = 0 := by
    rw [List.count_eq_zero]
    simp
    omega
   rw [h3]
   omega
theorem Tn (k l : Int) : yH k l = some ((decide (1 ≤ k) && decide (k ≤ 3)) && (decide (0 ≤ l) && decide (l ≤ 2 * k - 1))) := by
 unfold yH
 rw [zN,zN]
 cases h : decide (1 ≤ k) && decide (k ≤ 3)
 ·rfl
 ·simp only [Bool.and_eq_true,decide_eq_true_eq] at h
  rw [iP (n := 2 * k) (by omega) (by omega),iP (by omega) (by omega)]
  rfl
theorem Je (k l : Int) : sZ k l = some ((decide (1 ≤ k) && decide (k ≤ 3)) && (decide (0 ≤ l) && decide (l ≤ 2 * k - 1))) := by
 unfold sZ
 rw [Ap]
 cases h : decide (1 ≤ k) && decide (k ≤ 3)
 ·rfl
 ·simp only [Bool.and_eq_true,decide_eq_true_eq] at h
  rw [iP (n := 2 * k) (by omega) (by omega)]
  have : decide (l < 2 * k) = decide (l ≤ 2 * k - 1) := by rw [decide_eq_decide]; omega
  rw [this]
  cases decide (0 ≤ l) <;> rfl
def jr (bars : List aK) (l : Int) (p : aY) (m : Nat) : aY := match lC bars l p (m : Int) with
 | some (true,q) => q
 | _ => p
theorem Fe {P : Int} {bars : List aK} {k l : Int} {m : Nat} {p : aY} (hg : GB P bars) (hp : PB P bars k m p) (hml : m < bars.length) (hl : 0 ≤ l ∧ l ≤ 2 * k - 1) {g : aX} (oD : g.aH = P) (hgb : g.aC = bars) :
  PB P bars k (m + 1) (jr bars l p m) ∧ (∃ ok q,lC bars l p (m : Int) = some (ok,q) ∧ jr bars l p m = bif ok then q else p) ∧
   (qm g k p = some true → tJ g k l p (m : Int) = some (jr bars l p m,true) ∨ tJ g k l p (m : Int) = some (jr bars l p m,false)) := by
 have hlen := hg.len
 have k3 := hp.k3
 have k1 := hp.k1
 have hx := List.getElem?_eq_getElem hml
 have hxi := jh (k := m) hx
 generalize bars[m] = x at hx hxi
 have hw : aP (l + 1) = l + 1 := iP (by omega) (by omega)
 have hpre : qm g k p = some true → ∀ M : Option (aY × Bool),(((qm g k p).bind fun r10 => bif (!r10) then some true else (sZ k l).bind fun r12 => bif (!r12) then some true else bif decide ((m : Int) < 0) then some true else bif decide ((g.aC.length : Int) ≤ (m : Int)) then some true
   else bif decide (0 < (p.aI.length : Int)) then (idx p.aI (aP ((p.aI.length : Int) - 1))).bind fun x17 => some (decide ((m : Int) ≤ x17)) else some false : Option Bool).bind fun j9 => bif j9 then (pz p).bind fun iD => some (iD,false) else M) = M := by
  intro h M
  have hpl := hp.pl
  rw [h,Je,decide_eq_true k1,decide_eq_true k3,decide_eq_true hl.1,decide_eq_true hl.2,decide_eq_false (show ¬ (m : Int) < 0 by omega),hgb,decide_eq_false (show ¬ (bars.length : Int) ≤ (m : Int) by omega)]
  simp only [Option.bind_some,Bool.and_self,Bool.not_true,cond_false]
  by_cases h0 : 0 < p.aI.length
  ·have hi : p.aI[p.aI.length - 1]? = some (p.aI[p.aI.length - 1]'(by omega)) := List.getElem?_eq_getElem (by omega)
   have hlt := hp.pr hi
   have e : aP ((p.aI.length : Int) - 1) = ((p.aI.length - 1 : Nat) : Int) := by rw [iP (by omega) (by omega)]; omega
   rw [decide_eq_true (show 0 < (p.aI.length : Int) by omega),e,jh hi]
   simp only [Option.bind_some,cond_true]
   rw [decide_eq_false (by omega)]
   rfl
  ·rw [decide_eq_false (show ¬ 0 < (p.aI.length : Int) by omega)]
   rfl
 rcases Dw hg hp (by omega) oD hgb (hg.a0 hx) (hg.ap hx) (hg.b0 hx) (hg.bp hx) (hg.ab hx) (want := l + 1) (by omega) with ⟨p',s1,i1,hp',hpl,mP⟩ | ⟨p'',s1,i1,_⟩
 ·obtain ⟨fa,hfa,hia,fa0,ru⟩ := hp'.jy (hg.a0 hx) (hg.ap hx)
  obtain ⟨fb,hfb,hib,sD,ug⟩ := hp'.jy (hg.b0 hx) (hg.bp hx)
  unfold two at mP
  rw [hfa,hfb] at mP
  simp only [Option.getD_some] at mP
  have I4 := hp'.pl
  have htl := hp'.tl
  -- the tail and its pebbles
  obtain ⟨t,f,hte,htf,hti,hpos,hfk,htail⟩ : ∃ t f,(t = x.A ∨ t = x.B) ∧ p'.Free[t.toNat]? = some f ∧ idx p'.Free t = some f ∧ 0 < f ∧ f ≤ k ∧ (bif fa == 0 then some x.B else some x.A : Option Int) = some t := by
   by_cases h0 : fa = 0
   ·exact ⟨x.B,fb,.inr rfl,hfb,hib,by omega,ug,by simp [h0]⟩
   ·have : (fa == 0) = false := by simp [h0]
    exact ⟨x.A,fa,.inl rfl,hfa,hia,by omega,ru,by simp [this]⟩
  have hI : lC bars l p (m : Int) = some (true,⟨p'.Free.set t.toNat (f - 1),p'.aJ ++ [t],p'.aI ++ [(m : Int)]⟩) := by
   unfold lC
   simp only [hxi,hw,i1,hia,htail,hti,Option.bind_some,Bool.not_true,cond_false,iM (show p'.aJ.length + ([t] : List Int).length ≤ 2147483648 by simp; omega),iM (show p'.aI.length + ([(m : Int)] : List Int).length ≤ 2147483648 by simp; omega),iP (n := f - 1) (show -4611686018427387904 ≤ f - 1 by omega) (by omega)]
  have l7 : jr bars l p m = ⟨p'.Free.set t.toNat (f - 1),p'.aJ ++ [t],p'.aI ++ [(m : Int)]⟩ := by
   unfold jr
   rw [hI]
  refine ⟨by rw [l7]; exact hp'.place hg hml hx hte htf hpos,⟨true,_,hI,l7⟩,fun h => .inl ?_⟩
  rw [l7]
  unfold tJ
  rw [hpre h]
  simp only [hgb,hxi,hw,s1,hia,htail,hti,Option.bind_some,Bool.not_true,cond_false,iM (show p'.aJ.length + ([t] : List Int).length ≤ 2147483648 by simp; omega),iM (show p'.aI.length + ([(m : Int)] : List Int).length ≤ 2147483648 by simp; omega),iP (n := f - 1) (show -4611686018427387904 ≤ f - 1 by omega) (by omega)]
 ·have hI : lC bars l p (m : Int) = some (false,p'') := by
   unfold lC
   simp only [hxi,hw,i1,Option.bind_some,Bool.not_false,cond_true]
  have l7 : jr bars l p m = p := by
   unfold jr
   rw [hI]
  refine ⟨by rw [l7]; exact hp.weak,⟨false,_,hI,l7⟩,fun h => .inr ?_⟩
  rw [l7]
  unfold tJ
  rw [hpre h]
  simp only [hgb,hxi,hw,s1,Option.bind_some,Bool.not_false,cond_true,FD hg hp (by omega)]
def mX (P : Int) (bars : List aK) (k l : Int) (n : Nat) : aY := iter (fun m p => jr bars l p m) n ⟨List.replicate P.toNat k,[],[]⟩
theorem wP {P : Int} {bars : List aK} {k l : Int} (hg : GB P bars) (k1 : 1 ≤ k) (k3 : k ≤ 3) (hl : 0 ≤ l ∧ l ≤ 2 * k - 1) : ∀ n,n ≤ bars.length → PB P bars k n (mX P bars k l n)
 | 0,_ => by
  have := hg.p1
  refine ⟨k1,k3,by show ((List.replicate P.toNat k).length : Int) = P; simp; omega,rfl,Nat.le_refl _,(fun h => by cases h),(fun h => by cases h),(fun h => by cases h),fun {v f} hv => ?_⟩
  change (List.replicate P.toNat k)[v]? = some f at hv
  rw [List.getElem?_replicate] at hv
  split at hv
  ·injection hv with hv
   subst hv
   show 0 ≤ k ∧ k + ((([] : List Int).count (v : Int) : Nat) : Int) = k
   simp
   omega
  ·cases hv
 | n + 1,h => (Fe hg (wP hg k1 k3 hl n (by omega)) (by omega) hl (g := ⟨P,bars⟩) rfl rfl).1
theorem Kz {P : Int} {bars : List aK} {k l : Int} (hg : GB P bars) (k1 : 1 ≤ k) (k3 : k ≤ 3) (hl : 0 ≤ l ∧ l ≤ 2 * k - 1) : vV P bars k l = some (mX P bars k l bars.length) := by
 have h1 := hg.p1
 have h8 := hg.p8
 have hlen := hg.len
 have e1 : bQ (vW P k) BIG (0,[]) = some (List.replicate P.toNat k) := by
  refine mQ (fun n => ((n : Int),List.replicate n k)) P.toNat (by omega) rfl (fun n hn => ?_) ?_
  ·unfold vW
   simp only [gm (show n ≤ 1099511627776 by omega)]
   rw [decide_eq_true (by omega),cond_true,iM (by simp; omega),Option.bind_some,← List.replicate_succ']
  ·unfold vW
   simp only
   rw [decide_eq_false (by omega)]
   rfl
 have e2 := AY (b := vX bars l) (s := (0,List.replicate P.toNat k,[],[])) (fun n (p : aY) => ((n : Int),p.Free,p.aJ,p.aI)) (fun m p => jr bars l p m) (fun n p => n ≤ bars.length ∧ PB P bars k n p) (fun p => (p.Free,p.aJ,p.aI)) bars.length ⟨List.replicate P.toNat k,[],[]⟩ (by omega) rfl ⟨Nat.zero_le _,wP hg k1 k3 hl 0 (Nat.zero_le _)⟩ (fun n p hn hp => by
  obtain ⟨hpb,⟨ok,q,hI,l7⟩,_⟩ := Fe hg hp.2 hn hl (g := ⟨P,bars⟩) rfl rfl
  refine ⟨?_,by omega,hpb⟩
  unfold vX
  simp only [Ou hg hp.2 (by omega),hI,Option.bind_some,gm (show n ≤ 1099511627776 by omega)]
  rw [decide_eq_true (by omega),cond_true,l7]
  cases ok <;> rfl) (fun p hp => by simp [vX])
 unfold vV
 rw [e1,Option.bind_some,e2.1]
 rfl
theorem UE {P : Int} {bars : List aK} {k : Int} {m : Nat} {p : aY} (hg : GB P bars) (hp : PB P bars k m p) (hm : m ≤ 1000) (v : Int) : yx p v = some (p.aJ.count v : Int) := by
 have htl := hp.tl
 have hpl := hp.pl
 have := AY (b := wI p v) (s := (0,0)) (fun n (c : Int) => (c,(n : Int))) (fun n c => match p.aJ[n]? with | some t => bif t == v then c + 1 else c | none => c) (fun n c => c = ((p.aJ.take n).count v : Int)) id p.aJ.length 0 (by omega) rfl (by simp) (fun n c hn hc => by
  have ht := List.getElem?_eq_getElem hn
  have htk : p.aJ.take (n + 1) = p.aJ.take n ++ [p.aJ[n]] := by rw [List.take_add_one,ht]; rfl
  have hcl := List.count_le_length (a := v) (l := p.aJ.take n)
  have hlt : (p.aJ.take n).length = n := by simp; omega
  rw [ht]
  constructor
  ·unfold wI
   simp only [jh ht,Option.bind_some,gm (show n ≤ 1099511627776 by omega)]
   rw [decide_eq_true (by omega),cond_true,iP (n := c + 1) (by omega) (by omega)]
   cases p.aJ[n] == v <;> rfl
  ·show (bif p.aJ[n] == v then c + 1 else c) = _
   rw [htk,List.count_append,List.count_singleton]
   cases p.aJ[n] == v
   ·simp [hc]
   ·simp [hc]) (fun c hc => by simp [wI])
 unfold yx
 rw [this.1,Option.bind_some]
 have h2 := this.2
 rw [List.take_length] at h2
 rw [← h2]
 rfl
theorem Tm {g : aX} {k : Int} {m : Nat} {p : aY} (hv : vG g = true) (hp : PB g.aH g.aC k m p) (hm : m ≤ 1000) : qm g k p = some true := by
 have hV := nJ hv
 have hg := hV.gb
 have k1 := hp.k1
 have k3 := hp.k3
 have hfl := hp.fl
 have htl := hp.tl
 have hpl := hp.pl
 have h1 := hV.p1
 have h8 := hV.p8
 have e1 : bQ (vz g p) BIG 0 = some (.inl ()) := by
  refine Di p.aI.length (by omega) (fun i hi => ?_) (by simp [vz])
  obtain ⟨e,hpe,hbe,_⟩ := hp.bar hg hi
  obtain ⟨e0,e1,_⟩ := hp.pr hpe
  have hT : p.aJ[i]? = some (p.aJ[i]'(by omega)) := List.getElem?_eq_getElem (by omega)
  have sJ := hp.ends hT
  generalize p.aJ[i]'(by omega) = t at hT sJ
  unfold vz
  simp only [jh hpe,jh hT,hbe,Option.bind_some]
  rw [decide_eq_true (show (i : Int) < (p.aI.length : Int) by omega),decide_eq_false (show ¬ e < 0 by omega),decide_eq_false (show ¬ (g.aC.length : Int) ≤ e by omega)]
  have hne : ((bif t != (fH g.aC p i).A then some (t != (fH g.aC p i).B) else some false) : Option Bool) = some false := by
   rcases sJ with h | h
   ·rw [h]; simp
   ·by_cases h2 : t = (fH g.aC p i).A
    ·rw [h2]; simp
    ·have : (t != (fH g.aC p i).A) = true := by simp [h2]
     rw [this,← h]
     simp
  by_cases h0 : 0 < i
  ·have Iz : p.aI[i - 1]? = some (p.aI[i - 1]'(by omega)) := List.getElem?_eq_getElem (by omega)
   have hinc := hp.inc Iz (by rw [Nat.sub_add_cancel h0]; exact hpe)
   have ew : aP ((i : Int) - 1) = ((i - 1 : Nat) : Int) := by rw [iP (by omega) (by omega)]; omega
   rw [decide_eq_true (show (0 : Int) < (i : Int) by omega),ew,jh Iz]
   simp only [Option.bind_some,cond_true,cond_false]
   rw [decide_eq_false (show ¬ e ≤ p.aI[i - 1]'(by omega) by omega),cond_false,hne]
   rfl
  ·rw [decide_eq_false (show ¬ (0 : Int) < (i : Int) by omega)]
   simp only [Option.bind_some,cond_true,cond_false]
   rw [hne]
   rfl
 have e2 : bQ (wB g k p) BIG 0 = some (.inl ()) := by
  refine Di g.aH.toNat (by omega) (fun i hi => ?_) (by
   unfold wB
   rw [decide_eq_false (by omega)]
   rfl)
  obtain ⟨f,hf,hif,f0,fk⟩ := hp.jy (v := (i : Int)) (by omega) (by omega)
  rw [Int.toNat_natCast] at hf
  have hfr := hp.fr hf
  unfold wB
  simp only [hif,UE hg hp hm,Option.bind_some]
  rw [decide_eq_true (show (i : Int) < g.aH by omega),decide_eq_false (show ¬ f < 0 by omega),iP (by omega) (by omega),hfr.2]
  simp
 unfold qm
 rw [vI g hV.sm,hv,Ap,decide_eq_true k1,decide_eq_true k3,e1,e2]
 have q1 : ((p.Free.length : Int) != g.aH) = false := by simp [hfl]
 have q2 : ((p.aJ.length : Int) != (p.aI.length : Int)) = false := by simp [htl]
 rw [q1,q2]
 rfl
def rD (g : aX) (k l : Int) : aY × Bool := bif vG g && ((decide (1 ≤ k) && decide (k ≤ 3)) && (decide (0 ≤ l) && decide (l ≤ 2 * k - 1))) then (mX g.aH g.aC k l g.aC.length,true) else (⟨[],[],[]⟩,false)
theorem VA (g : aX) (h : SM g.aC.length) (k l : Int) : yK g k l = some (rD g k l) := by
 unfold yK rD
 rw [qU g h,Tn]
 cases hv : vG g
 ·rfl
 ·cases hr : (decide (1 ≤ k) && decide (k ≤ 3)) && (decide (0 ≤ l) && decide (l ≤ 2 * k - 1))
  ·rfl
  ·simp only [Bool.and_eq_true,decide_eq_true_eq] at hr
   simp only [Option.bind_some,Bool.not_true,cond_false,Bool.and_self,cond_true,Kz (nJ hv).gb hr.1.1 hr.1.2 hr.2]
theorem KH (g : aX) (h : SM g.aC.length) (k : Int) : wC g k = some (bif vG g && (decide (1 ≤ k) && decide (k ≤ 3)) then (⟨List.replicate g.aH.toNat k,[],[]⟩,true) else (⟨[],[],[]⟩,false)) := by
 unfold wC
 rw [vI g h,Ap]
 cases hv : vG g
 ·rfl
 ·cases hr : decide (1 ≤ k) && decide (k ≤ 3)
  ·rfl
  ·have h1 := (nJ hv).p1
   have h8 := (nJ hv).p8
   have e1 : bQ (wE g k) BIG (0,[]) = some (List.replicate g.aH.toNat k) := by
    refine mQ (fun n => ((n : Int),List.replicate n k)) g.aH.toNat (by omega) rfl (fun n hn => ?_) ?_
    ·unfold wE
     simp only [gm (show n ≤ 1099511627776 by omega)]
     rw [decide_eq_true (by omega),cond_true,iM (by simp; omega),Option.bind_some,← List.replicate_succ']
    ·unfold wE
     simp only
     rw [decide_eq_false (by omega)]
     rfl
   rw [e1]
   rfl
theorem VB (g : aX) (h : SM g.aC.length) (k l : Int) : yt g k l = some (rD g k l) := by
 unfold yt rD
 rw [KH g h,Je]
 cases hv : vG g
 ·rfl
 ·have hV := nJ hv
  have hg := hV.gb
  have hlen := hg.len
  cases hk : decide (1 ≤ k) && decide (k ≤ 3)
  ·rfl
  ·cases hl : decide (0 ≤ l) && decide (l ≤ 2 * k - 1)
   ·rfl
   ·simp only [Bool.and_eq_true,decide_eq_true_eq] at hk hl
    have e2 := AY (b := wF g k l) (s := (0,List.replicate g.aH.toNat k,[],[])) (fun n (p : aY) => ((n : Int),p.Free,p.aJ,p.aI)) (fun m p => jr g.aC l p m) (fun n p => n ≤ g.aC.length ∧ PB g.aH g.aC k n p) (fun p => (p.Free,p.aJ,p.aI)) g.aC.length ⟨List.replicate g.aH.toNat k,[],[]⟩ (by omega) rfl ⟨Nat.zero_le _,wP hg hk.1 hk.2 hl 0 (Nat.zero_le _)⟩ (fun n p hn hp => by
     obtain ⟨hpb,_,hS⟩ := Fe hg hp.2 hn hl (g := g) rfl rfl
     refine ⟨?_,by omega,hpb⟩
     have hS := hS (Tm hv hp.2 (by omega))
     unfold wF
     rw [decide_eq_true (show ((n : Int),p.Free,p.aJ,p.aI).1 < (g.aC.length : Int) by simp only; omega),cond_true]
     simp only [gm (show n ≤ 1099511627776 by omega)]
     rcases hS with hS | hS
     ·rw [show aY.mk p.Free p.aJ p.aI = p from rfl,hS]
      rfl
     ·rw [show aY.mk p.Free p.aJ p.aI = p from rfl,hS]
      rfl) (fun p hp => by simp [wF])
    simp only [Option.bind_some,Bool.and_self,Bool.not_true,cond_false,cond_true,e2.1]
    rfl
def rk (g : aX) (k l : Int) : Int := bif (rD g k l).2 then ((rD g k l).1.aI.length : Int) else -1
theorem Uy (g : aX) (h : SM g.aC.length) (k l : Int) : yJ g k l = some (rk g k l) := by
 unfold yJ rk
 rw [VA g h]
 simp only [Option.bind_some]
 cases (rD g k l).2 <;> rfl
theorem Uz (g : aX) (h : SM g.aC.length) (k l : Int) : yj g k l = some (rk g k l) := by
 unfold yj rk
 rw [VB g h]
 simp only [Option.bind_some]
 cases (rD g k l).2 <;> rfl
def xJ (g : aX) : Int := bif vG g then aP ((if 0 < aP (aP (2 * g.aH) - 3) then aP (aP (2 * g.aH) - 3) else 0) - rk g 2 3) else -1
theorem PO (g : aX) (h : SM g.aC.length) : yF g = some (xJ g) := by
 unfold yF xJ
 rw [qU g h,Uy g h]
 cases vG g <;> rfl
theorem PS (g : aX) (h : SM g.aC.length) : yY g = some (xJ g) := by
 unfold yY xJ
 rw [vI g h,Uz g h]
 cases vG g <;> rfl
def rigid (g : aX) : Bool := xJ g == 0
theorem U7 (g : aX) (h : SM g.aC.length) : yI g = some (rigid g) := by unfold yI; rw [PO g h]; rfl
theorem U8 (g : aX) (h : SM g.aC.length) : yg g = some (rigid g) := by unfold yg; rw [PS g h]; rfl
def only (g : aX) (keep : List Int) : aX := ⟨g.aH,pieces (fun k => match g.aC[k]? with | some x => bif Iq keep k then [x] else [] | none => []) g.aC.length⟩
end Go.Proofs.Ytdmlaldifbmkpaa
end
