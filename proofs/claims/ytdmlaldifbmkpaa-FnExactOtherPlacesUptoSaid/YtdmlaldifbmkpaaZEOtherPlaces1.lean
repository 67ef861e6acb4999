/- Parts of a proof that a law of the program holds: what the program computes, and why that is right. -/
import Derived.KernelRfl
import Derived.MapKept
import Derived.Carry
import Derived.ChangeMaps5
import Derived.Test.YtdmlaldifbmkpaaZEOtherPlaces0
set_option linter.unusedVariables false
set_option linter.unusedSimpArgs false
set_option linter.unnecessarySimpa false
set_option maxRecDepth 100000
set_option maxHeartbeats 8000000
section
namespace Go.Fw
section
def idx {α:Type} (l:List α) (i:Int):Option α:=if 0 ≤ i then l[i.toNat]? else none
def lim (n:Nat):Option Unit:=if n ≤ lD then some () else none
def uJ (n:Int):Option Unit:=if 0 ≤ n ∧ n ≤ 2147483648 then some () else none
def same (a b:Nat):Option Unit:=if a = b then some () else none
def BIG:Nat:=18446744073709551616
theorem uG {α:Type} {l:List α} {i:Int} {x:α} (h:idx l i = some x):0 ≤ i:=by
 unfold idx at h; split at h
 ·assumption
 ·cases h
theorem pF {α:Type} {l:List α} {i:Int} {x:α} (h:idx l i = some x):l[i.toNat]? = some x:=by
 unfold idx at h; split at h
 ·assumption
 ·cases h
theorem Hq {α:Type} {l:List α} {i:Int} {x:α} (h:idx l i = some x):i < l.length:=by
 have h0:=uG h
 have h1:=(List.getElem?_eq_some_iff.1 (pF h)).1
 omega
theorem qN {n:Nat} {u:Unit} (h:lim n = some u):n ≤ lD:=by
 unfold lim at h; split at h
 ·assumption
 ·cases h
theorem IA {n:Int} {u:Unit} (h:uJ n = some u):0 ≤ n ∧ n ≤ lD:=by
 unfold uJ at h; split at h
 ·assumption
 ·cases h
theorem same_eq {a b:Nat} {u:Unit} (h:same a b = some u):a = b:=by
 unfold same at h; split at h
 ·assumption
 ·cases h
section
variable {P:Program} {C:Ctx} {σ σ':Slots} {m m':Mem} {is:List It} {τ υ:Type} {M:Option τ} {K:τ → Post}
def oU (σ' σ:Slots):Prop:=match σ' with
 | [] => True
 | (t,v) :: r => lk σ t = some v ∧ oU r σ
def oQ (m' m:Mem):Prop:=match m' with
 | [] => True
 | (n,o) :: r => lk m n = some o ∧ oQ r m
theorem oU.spec:∀ {σ':Slots},oU σ' σ → ∀ t v,lk σ' t = some v → lk σ t = some v
 | [],_,_,_,h => by cases h
 | (k,x) :: r,hs,t,v,h => by
  change (bif Nat.beq k t then some x else lk r t) = some v at h
  cases hb:Nat.beq k t with
  | true =>
   rw [hb,cond_true] at h
   injection h with h
   have:=Nat.eq_of_beq_eq_true hb
   subst this
   subst h
   exact hs.1
  | false =>
   rw [hb,cond_false] at h
   exact oU.spec hs.2 t v h
theorem oQ.spec:∀ {m':Mem},oQ m' m → ∀ t v,lk m' t = some v → lk m t = some v
 | [],_,_,_,h => by cases h
 | (k,x) :: r,hs,t,v,h => by
  change (bif Nat.beq k t then some x else lk r t) = some v at h
  cases hb:Nat.beq k t with
  | true =>
   rw [hb,cond_true] at h
   injection h with h
   have:=Nat.eq_of_beq_eq_true hb
   subst this
   subst h
   exact hs.1
  | false =>
   rw [hb,cond_false] at h
   exact oQ.spec hs.2 t v h
theorem aU.of (h1:oU σ' σ) (h2:oQ m' m):aU P C σ m σ' m':=fun R B g _ _ hs => ⟨R,B,g,hs.weak (oU.spec h1) (oQ.spec h2)⟩
theorem aU.refl:aU P C σ m σ m:=fun R B g _ _ hs => ⟨R,B,g,hs⟩
theorem aU.trans {σ2:Slots} {m2:Mem} (h:aU P C σ m σ' m') (k:aU P C σ' m' σ2 m2):aU P C σ m σ2 m2:=fun R B g a w hs => by
 obtain ⟨R',B',g',hs'⟩:=h R B g a w hs
 exact k R' B' g' a w hs'
theorem aS.ent {ops:Array Oper} {rest:List Oper} (h:aU P C σ m σ' m') (k:aS P C ops rest is σ' m' M K):aS P C ops rest is σ m M K:=fun t ht R B g a w hs => by
 obtain ⟨R',B',g',hs'⟩:=h R B g a w hs
 exact k t ht R' B' g' a w hs'
def KL {σs β ρ:Type} (P:Program) (C:Ctx) (id:Nat) (S:σs → Slots × Mem) (Sb:β → Slots × Mem) (Kr:ρ → Post):σs ⊕ (β ⊕ ρ) → Post:=fun o e σ m => match o with
 | .inl s => e = .normal ∧ aU P C σ m (S s).1 (S s).2
 | .inr (.inl b) => e = .exit id ∧ aU P C σ m (Sb b).1 (Sb b).2
 | .inr (.inr r) => e = .ret ∧ Kr r .ret σ m
theorem aA.kU {σs β ρ:Type} {body:Code} {id:Nat} (bm:σs → Option (σs ⊕ (β ⊕ ρ))) (S:σs → Slots × Mem) (Sb:β → Slots × Mem) (Kr:ρ → Post) {f:β → Option τ} {gr:ρ → Option τ} {n:Nat} {s:σs}
  (hb:∀ s,aA P C [.code body] (S s).1 (S s).2 (bm s) (KL P C id S Sb Kr)) (h0:aU P C σ m (S s).1 (S s).2) (hid:nK id is = true)
  (hl:∀ b,bY bm n s = some (.inl b) → aA P C (rH id is) (Sb b).1 (Sb b).2 (f b) K) (hr:∀ r t σ m,gr r = some t → Kr r .ret σ m → K t .ret σ m) :
  aA P C (.code (.loop body) :: is) σ m ((bY bm n s).bind (Sum.elim f gr)) K :=
 aA.loop (Lv:=fun o e σ m => match o with | .inl b => e = .exit id ∧ aU P C σ m (Sb b).1 (Sb b).2 | .inr r => e = .ret ∧ Kr r .ret σ m) bm S
  (fun s t ht R B g a w hs => wp_mono (hb s t ht R B g a w hs) fun e a w he => by
   obtain ⟨σ',m',R',B',g',hs',hp⟩:=he
   refine ⟨σ',m',R',B',g',hs',?_⟩
   rcases t with s' | b | r
   ·exact hp
   ·obtain ⟨rfl,hp⟩:=hp
    exact ⟨by simp,rfl,hp⟩
   ·obtain ⟨rfl,hp⟩:=hp
    exact ⟨by simp,rfl,hp⟩) h0 (fun u e σ' m' hu hlv t ht => by
   rcases u with b | r
   ·obtain ⟨rfl,hp⟩:=hlv
    exact dJ.wQ hid (dJ.ent hp (hl b hu t ht))
   ·obtain ⟨rfl,hp⟩:=hlv
    exact dJ.Az (hr r t σ' m' ht hp))
def KT {σs β:Type} (P:Program) (C:Ctx) (id:Nat) (S:σs → Slots × Mem) (Sb:β → Slots × Mem):σs ⊕ β → Post:=fun o e σ m => match o with
 | .inl s => e = .normal ∧ aU P C σ m (S s).1 (S s).2
 | .inr b => e = .exit id ∧ aU P C σ m (Sb b).1 (Sb b).2
theorem aA.mJ {σs β:Type} {body:Code} {id:Nat} (bm:σs → Option (σs ⊕ β)) (S:σs → Slots × Mem) (Sb:β → Slots × Mem) {f:β → Option τ} {n:Nat} {s:σs}
  (hb:∀ s,aA P C [.code body] (S s).1 (S s).2 (bm s) (KT P C id S Sb)) (h0:aU P C σ m (S s).1 (S s).2) (hid:nK id is = true)
  (hl:∀ b,bY bm n s = some b → aA P C (rH id is) (Sb b).1 (Sb b).2 (f b) K):aA P C (.code (.loop body) :: is) σ m ((bY bm n s).bind f) K :=
 aA.loop (Lv:=fun b e σ m => e = .exit id ∧ aU P C σ m (Sb b).1 (Sb b).2) bm S
  (fun s t ht R B g a w hs => wp_mono (hb s t ht R B g a w hs) fun e a w he => by
   obtain ⟨σ',m',R',B',g',hs',hp⟩:=he
   refine ⟨σ',m',R',B',g',hs',?_⟩
   rcases t with s' | b
   ·exact hp
   ·obtain ⟨rfl,hp⟩:=hp
    exact ⟨by simp,rfl,hp⟩) h0 (fun u e σ' m' hu hlv t ht => by
   obtain ⟨rfl,hp⟩:=hlv
   exact dJ.wQ hid (dJ.ent hp (hl u hu t ht)))
def KJ (P:Program) (C:Ctx) (S:υ → Slots × Mem):υ → Post:=fun u e σ m => e = .normal ∧ aU P C σ m (S u).1 (S u).2
theorem aA.iU {c:Code} {M1:Option υ} {f:υ → Option τ} (S:υ → Slots × Mem) (h1:aA P C [.code c] σ m M1 (KJ P C S)) (h2:∀ t,M1 = some t → aA P C is (S t).1 (S t).2 (f t) K):aA P C (.code c :: is) σ m (M1.bind f) K :=
 aA.join S h1 h2
theorem dJ.qL {id:Nat} {Q:Post}:∀ {is:List It},nK id is = false → Q (.exit id) σ m → dJ P C is (.exit id) σ m Q
 | [],_,h => dJ.nil h
 | .code c :: is,hb,h => dJ.GZ (dJ.qL (is:=is) hb h)
 | .blk i :: is,hb,h => by
  unfold nK at hb
  rw [Bool.or_eq_false_iff] at hb
  exact dJ.Gf (Ne.symm (Nat.ne_of_beq_eq_false hb.1)) (dJ.qL (is:=is) hb.2 h)
theorem aA.qL {id:Nat} {t:τ} (hb:nK id is = false) (h:K t (.exit id) σ m):aA P C (.code (.exit id) :: is) σ m (some t) K:=aA.NK (dJ.qL hb h)
def dm {ρ:Type} (P:Program) (res:List ResultVar) (us:Mem) (X:List Nat) (rs:ρ → List SV) (dL:ρ → Mem):ρ → Post:=fun t e σ m =>
 (e = .normal ∨ e = .ret) ∧ lT P σ m res (rs t) ∧ iq m (dL t) ∧ bP (keys us) (keys (dL t)) = true ∧ bP X (keys (dL t)) = true ∧ zJ (jv (rs t)) ∧ (∀ p ∈ dL t,dB p.2) ∧ okA (keys us ++ X) (jv (rs t)) = true ∧
  (dL t).all (fun p => (keys us ++ X).elem p.1 && okO (keys us ++ X) p.2) = true
def nI:List PV → Prop
 | [] => True
 | p :: r => aX p ∧ nI r
theorem nI.spec:∀ {l:List PV},nI l → ∀ p ∈ l,aX p
 | [],_,p,hp => by cases hp
 | q :: r,h,p,hp => by
  cases hp with
  | head => exact h.1
  | tail _ hp => exact nI.spec h.2 p hp
def qx:List CV → Prop
 | [] => True
 | p :: r => qF p ∧ qx r
theorem qx.spec:∀ {l:List CV},qx l → ∀ p ∈ l,qF p
 | [],_,p,hp => by cases hp
 | q :: r,h,p,hp => by
  cases hp with
  | head => exact h.1
  | tail _ hp => exact qx.spec h.2 p hp
def BU:SV → Prop
 | .c x => qF x
 | .agg cs => qx cs
theorem BU.spec {x:SV} (h:BU x):wG x:=by
 cases x with
 | c x => exact h
 | agg cs => exact qx.spec h
def ng:List SV → Prop
 | [] => True
 | x :: r => BU x ∧ ng r
theorem ng.spec:∀ {l:List SV},ng l → ∀ p ∈ l,wG p
 | [],_,p,hp => by cases hp
 | q :: r,h,p,hp => by
  cases hp with
  | head => exact h.1.spec
  | tail _ hp => exact ng.spec h.2 p hp
theorem ng.res {l:List SV} (h:ng l):zJ (jv l):=by
 match l,h with
 | [],_ => intro x hx; cases hx
 | [x],h => exact h.1.spec
 | x :: y :: r,h => exact ng.spec h
def qy:Mem → Prop
 | [] => True
 | (_,o) :: r => dB o ∧ qy r
theorem qy.spec:∀ {df:Mem},qy df → ∀ p ∈ df,dB p.2
 | [],_,p,hp => by cases hp
 | (n,o) :: r,h,p,hp => by
  cases hp with
  | head => exact h.1
  | tail _ hp => exact qy.spec h.2 p hp
theorem dB.gG {α:Type} {enc:α → List PV} {e:TypeId} {xs:List α} (h:∀ a,nI (enc a)):dB (.bZ e (xs.map enc)):=fun cs hcs p hp => by
 obtain ⟨a,_,rfl⟩:=List.mem_map.1 hcs
 exact (h a).spec p hp
theorem gB {t:TypeId} (h:(P.info? t).isSome = true):P.info? t = some ((P.info? t).get h):=(Option.some_get h).symm
theorem dm.mk {ρ:Type} {res:List ResultVar} {us:Mem} {X:List Nat} {rs:ρ → List SV} {dL:ρ → Mem} {t:ρ} {e:Exit} (he:e = .normal ∨ e = .ret) (h1:lT P σ m res (rs t)) (h2:iq m (dL t))
  (hside:(bP (keys us) (keys (dL t)) && bP X (keys (dL t)) && okA (keys us ++ X) (jv (rs t)) && (dL t).all (fun p => (keys us ++ X).elem p.1 && okO (keys us ++ X) p.2)) = true) (h3:ng (rs t)) (h4:qy (dL t)) :
  dm P res us X rs dL t e σ m:=by
 simp only [Bool.and_eq_true] at hside
 obtain ⟨⟨⟨a1,a2⟩,a3⟩,a4⟩:=hside
 exact ⟨he,h1,h2,a1,a2,h3.res,h4.spec,a3,a4⟩
theorem dm.ret {ρ:Type} {res:List ResultVar} {us:Mem} {X:List Nat} {rs:ρ → List SV} {dL:ρ → Mem} {t:ρ} {e:Exit} {σ:Slots} {m:Mem} (h:dm P res us X rs dL t .ret σ m):dm P res us X rs dL t .ret σ m:=h
theorem Fn.of {f:FuncId} {fn:Func} {c:Code} {args:List SV} {us:Mem} {pn X:List Nat} {N:Nat} {ρ:Type} {M:Option ρ} {rs:ρ → List SV} {dL:ρ → Mem} (hf:P.funcs[f]? = some fn) (hb:fn.body = some c) (hN:fn.ntmps = N)
  (hargs:args.length ≤ N) (hside:(bP (keys us) (pn ++ X) && gu X pn && bP pn (keys us)) = true)
  (h:∀ w0 U0 R0 g0,aA P ⟨w0,U0,R0,g0,N,pn⟩ [.code c] (oV 0 args) us M (dm P fn.results.toList us X rs dL)):∀ t,M = some t → Fn P f args us (jv (rs t)) (dL t) (keys us) X :=
 Fn.Iy (df:=[]) hf hb hN hargs hside fun w0 U0 R0 g0 _ => h w0 U0 R0 g0
theorem Fn.EJ {f:FuncId} {fn:Func} {c:Code} {args:List SV} {us:Mem} {pn X:List Nat} {N:Nat} {ρ:Type} {M:Option ρ} {rs:ρ → List SV} {dL:ρ → Mem} (hf:P.funcs[f]? = some fn) (hb:fn.body = some c) (hN:fn.ntmps = N)
  (hargs:args.length ≤ N) (hside:(bP (keys us) (pn ++ X) && gu X pn && bP pn (keys us)) = true)
  (h:∀ w0 U0 R0 g0,(∀ b,U0 b → ∃ n ∈ keys us,(g0 n).has b) → aA P ⟨w0,U0,R0,g0,N,pn⟩ [.code c] (oV 0 args) us M (dm P fn.results.toList us X rs dL)):∀ t,M = some t → Fn P f args us (jv (rs t)) (dL t) (keys us) X :=
 Fn.Iy (df:=[]) hf hb hN hargs hside h
end
def rn (ρ:List (Nat × Nat)) (n:Nat):Nat:=(lk ρ n).getD 0
def jl (ρ:List (Nat × Nat)):CV → CV
 | .loc n o l => .loc (rn ρ n) o l
 | .pl n o => .pl (rn ρ n) o
 | .fn f caps => .fn f (caps.map (rn ρ))
 | .mref n => .mref (rn ρ n)
 | .tl p k o l => .tl (rn ρ p) k o l
 | .tpl p k o => .tpl (rn ρ p) k o
 | x => x
def vX (ρ:List (Nat × Nat)):SV → SV
 | .c x => .c (jl ρ x)
 | .agg cs => .agg (cs.map (jl ρ))
def JQ (ρ:List (Nat × Nat)):AV → AV
 | .s x => .s (vX ρ x)
 | .bV xs => .bV (xs.map (vX ρ))
def A7 (ρ:List (Nat × Nat)):Ob → Ob
 | .row e els => .row e (els.map (·.map (jl ρ)))
 | .bZ e els => .bZ e els
 | .mp es => .mp es
 | .pool e rows => .pool e rows
 | .fM e p lens => .fM e (rn ρ p) lens
 | .ax e p q fs => .ax e (rn ρ p) (rn ρ q) fs
 | .unk => .unk
def JR (ρ:List (Nat × Nat)) (m:Mem):Mem:=m.map fun p => (rn ρ p.1,A7 ρ p.2)
section
variable {P:Program} {w:World} {R B:Nat → Prop} {g g':Nat → GS} {ρ:List (Nat × Nat)}
theorem RC.rn {x:CV} {v:Value} (hz:jg (keys ρ) x = true) (hg:∀ n ∈ keys ρ,g' (rn ρ n) = g n) (h:RC P w R B g x v):RC P w R B g' (jl ρ x) v:=by
 refine ⟨h.1,?_⟩
 have h2:=h.2
 cases x with
 | pv p => exact h2
 | px q cells => exact h2
 | loc n off len =>
  have hn:=hg n (List.mem_of_elem_eq_true hz)
  rcases h2 with ⟨h3,h4⟩ | h3 | ⟨b,cap,cur,e,h3,h4⟩
  ·exact .inl ⟨hn.trans h3,h4⟩
  ·exact .inr (.inl h3)
  ·exact .inr (.inr ⟨b,cap,cur,e,hn.trans h3,h4⟩)
 | pl n off =>
  obtain ⟨b,h3,h4⟩:=h2
  exact ⟨b,(hg n (List.mem_of_elem_eq_true hz)).trans h3,h4⟩
 | fn f caps =>
  obtain ⟨vs,h3,h4,h5⟩:=h2
  refine ⟨vs,h3,by simpa using h4,fun k n hk => ?_⟩
  rw [List.getElem?_map] at hk
  cases hc:caps[k]? with
  | none => rw [hc] at hk; cases hk
  | some n0 =>
   rw [hc] at hk
   injection hk with hk
   subst hk
   obtain ⟨b,h6,h7⟩:=h5 k n0 hc
   exact ⟨b,(hg n0 (List.mem_of_elem_eq_true (List.all_eq_true.1 hz n0 (List.mem_of_getElem? hc)))).trans h6,h7⟩
 | mref n =>
  obtain ⟨b,h3,h4⟩:=h2
  exact ⟨b,(hg n (List.mem_of_elem_eq_true hz)).trans h3,h4⟩
 | tl p k off len =>
  have hn:=hg p (List.mem_of_elem_eq_true hz)
  rcases h2 with ⟨h3,h4⟩ | h3 | ⟨b,cap,cur,e,h3,h4⟩
  ·exact .inl ⟨by rw [hn]; exact h3,h4⟩
  ·exact .inr (.inl h3)
  ·exact .inr (.inr ⟨b,cap,cur,e,by rw [hn]; exact h3,h4⟩)
 | tpl p k off =>
  obtain ⟨b,h3,h4⟩:=h2
  exact ⟨b,by rw [hg p (List.mem_of_elem_eq_true hz)]; exact h3,h4⟩
 | junk => trivial
theorem ML {xs:List CV} {vs:List Value} (hz:xs.all (jg (keys ρ)) = true) (hg:∀ n ∈ keys ρ,g' (Fw.rn ρ n) = g n) (h:∀ (k:Nat) x,xs[k]? = some x → ∃ u,vs[k]? = some u ∧ RC P w R B g x u) :
  ∀ (k:Nat) x,(xs.map (jl ρ))[k]? = some x → ∃ u,vs[k]? = some u ∧ RC P w R B g' x u:=fun k x hk => by
 rw [List.getElem?_map] at hk
 cases hc:xs[k]? with
 | none => rw [hc] at hk; cases hk
 | some y =>
  rw [hc] at hk
  injection hk with hk
  subst hk
  obtain ⟨u,h4,h5⟩:=h k y hc
  exact ⟨u,h4,h5.rn (List.all_eq_true.1 hz y (List.mem_of_getElem? hc)) hg⟩
theorem RS.rn {x:SV} {v:Value} (hz:okS (keys ρ) x = true) (hg:∀ n ∈ keys ρ,g' (Fw.rn ρ n) = g n) (h:RS P w R B g x v):RS P w R B g' (vX ρ x) v:=by
 cases x with
 | c x => exact RC.rn hz hg h
 | agg cs =>
  obtain ⟨vs,h1,h2,h3⟩:=h
  exact ⟨vs,h1,by simpa using h2,ML hz hg h3⟩
theorem RA.rn {x:AV} {v:Value} (hz:okA (keys ρ) x = true) (hg:∀ n ∈ keys ρ,g' (Fw.rn ρ n) = g n) (h:RA P w R B g x v):RA P w R B g' (JQ ρ x) v:=by
 cases x with
 | s x => exact RS.rn hz hg h
 | bV xs =>
  obtain ⟨vs,h1,h2,h3⟩:=h
  refine ⟨vs,h1,by simpa using h2,fun k x hk => ?_⟩
  rw [List.getElem?_map] at hk
  cases hc:xs[k]? with
  | none => rw [hc] at hk; cases hk
  | some y =>
   rw [hc] at hk
   injection hk with hk
   subst hk
   obtain ⟨u,h4,h5⟩:=h3 k y hc
   exact ⟨u,h4,h5.rn (List.all_eq_true.1 hz y (List.mem_of_getElem? hc)) hg⟩
theorem JO (ρ:List (Nat × Nat)) (els:List (List PV)):(bf els).map (·.map (jl ρ)) = bf els:=by simp [bf,jl,Function.comp_def]
theorem Jt (ρ:List (Nat × Nat)) (p:Nat) (lens:List Nat):(jK p lens).map (·.map (jl ρ)) = jK (Fw.rn ρ p) lens:=by
 refine List.ext_getElem? fun j => ?_
 simp only [jK,List.getElem?_map,List.getElem?_mapIdx,Option.map_map]
 cases lens[j]? <;> simp [jl]
theorem Gi (ρ:List (Nat × Nat)) (p q:Nat) (fs:List (Int × Nat × Nat)):(dU p q fs).map (·.map (jl ρ)) = dU (Fw.rn ρ p) (Fw.rn ρ q) fs:=by
 refine List.ext_getElem? fun j => ?_
 simp only [dU,List.getElem?_map,List.getElem?_mapIdx,Option.map_map]
 cases fs[j]? <;> simp [jl]
theorem Gh {zs:List Nat} {e:TypeId} {p q:Nat} {fs:List (Int × Nat × Nat)} (hz:okO zs (.ax e p q fs) = true):(dU p q fs).all (·.all (jg zs)) = true :=
 List.all_eq_true.2 fun cs hcs => by
  obtain ⟨j,i,a,b,rfl⟩:=yj hcs
  simpa [jg,okO] using hz
theorem Js {zs:List Nat} {e:TypeId} {p:Nat} {lens:List Nat} (hz:okO zs (.fM e p lens) = true):(jK p lens).all (·.all (jg zs)) = true :=
 List.all_eq_true.2 fun cs hcs => by
  obtain ⟨j,l,rfl⟩:=Ad hcs
  simpa [jg,okO] using hz
theorem bJ.rn {n:Nat} {e:TypeId} {els:List (List CV)} (hn:n ∈ keys ρ) (hz:els.all (·.all (jg (keys ρ))) = true) (hg:∀ n ∈ keys ρ,g' (Fw.rn ρ n) = g n) (h:bJ P w R B g n e els):bJ P w R B g' (Fw.rn ρ n) e (els.map (·.map (jl ρ))):=by
 rcases h with ⟨h1,h2⟩ | ⟨b,cur,h1,h2,h3,h4,h5⟩
 ·exact .inl ⟨(hg n hn).trans h1,by simp [h2]⟩
 ·refine .inr ⟨b,cur,(hg n hn).trans h1,h2,fun cs hcs => ?_,by simpa using h4,fun j k cs x hj hk => ?_⟩
  ·obtain ⟨c0,hc0,rfl⟩:=List.mem_map.1 hcs
   simpa using h3 c0 hc0
  ·rw [List.getElem?_map] at hj
   cases hc:els[j]? with
   | none => rw [hc] at hj; cases hj
   | some cs0 =>
    rw [hc] at hj
    injection hj with hj
    subst hj
    rw [List.getElem?_map] at hk
    cases hc2:cs0[k]? with
    | none => rw [hc2] at hk; cases hk
    | some y =>
     rw [hc2] at hk
     injection hk with hk
     subst hk
     obtain ⟨u,h6,h7⟩:=h5 j k cs0 y hc hc2
     exact ⟨u,h6,h7.rn (List.all_eq_true.1 (List.all_eq_true.1 hz cs0 (List.mem_of_getElem? hc)) y (List.mem_of_getElem? hc2)) hg⟩
theorem RO.rn {n:Nat} {o:Ob} (hn:n ∈ keys ρ) (hz:okO (keys ρ) o = true) (hg:∀ n ∈ keys ρ,g' (Fw.rn ρ n) = g n) (h:RO P w R B g n o):RO P w R B g' (Fw.rn ρ n) (A7 ρ o):=by
 cases o with
 | row e els => exact bJ.rn hn hz hg h
 | bZ e els =>
  have:=bJ.rn hn (by simp [bf,List.all_eq_true,jg]) hg (els:=bf els) h
  rwa [JO] at this
 | mp es =>
  obtain ⟨b,kQ,clock,h1,h2⟩:=h
  exact ⟨b,kQ,clock,(hg n hn).trans h1,h2⟩
 | pool e rows =>
  obtain ⟨⟨bs,h1,h2⟩,h3⟩:=h
  exact ⟨⟨bs,(hg n hn).trans h1,h2⟩,by rw [hg n hn]; exact h3⟩
 | fM e p lens =>
  have:=bJ.rn hn (Js hz) hg (els:=jK p lens) h
  rwa [Jt] at this
 | ax e p q fs =>
  have:=bJ.rn hn (Gh hz) hg (els:=dU p q fs) h
  rwa [Gi] at this
 | unk => trivial
theorem JU {n:Nat} (h:n ∈ keys ρ):∃ k,lk ρ n = some k ∧ (n,k) ∈ ρ:=by
 induction ρ with
 | nil => simp [keys] at h
 | cons p r ih =>
  obtain ⟨a,b⟩:=p
  show ∃ k,(bif Nat.beq a n then some b else lk r n) = some k ∧ _
  cases hb:Nat.beq a n with
  | true => have:=Nat.eq_of_beq_eq_true hb; subst this; exact ⟨b,rfl,List.mem_cons_self⟩
  | false =>
   have hne:=Nat.ne_of_beq_eq_false hb
   have:n ∈ keys r:=by
    simp [keys] at h
    rcases h with h | h
    ·exact absurd h.symm hne
    ·exact List.mem_map.2 (by simpa using h)
   obtain ⟨k,h1,h2⟩:=ih this
   exact ⟨k,h1,List.mem_cons_of_mem _ h2⟩
def nodup:List Nat → Bool
 | [] => true
 | n :: r => !r.elem n && nodup r
theorem Ig:∀ {ρ:List (Nat × Nat)},nodup (ρ.map (·.2)) = true → ∀ p q,p ∈ ρ → q ∈ ρ → p.2 = q.2 → p = q
 | [],_,_,_,h,_,_ => by cases h
 | x :: r,hn,p,q,hp,hq,he => by
  unfold nodup at hn
  simp only [List.map_cons,Bool.and_eq_true,Bool.not_eq_true'] at hn
  have hx:=iE hn.1
  cases hp with
  | head =>
   cases hq with
   | head => rfl
   | tail _ hq => exact absurd (List.mem_map.2 ⟨q,hq,he.symm⟩) hx
  | tail _ hp =>
   cases hq with
   | head => exact absurd (List.mem_map.2 ⟨p,hp,he⟩) hx
   | tail _ hq => exact Ig hn.2 p q hp hq he
theorem JS (hn:nodup (ρ.map (·.2)) = true) {n k:Nat} (h1:n ∈ keys ρ) (h2:k ∈ keys ρ) (h:rn ρ n = rn ρ k):n = k:=by
 obtain ⟨a,ha,hma⟩:=JU h1
 obtain ⟨b,hb,hmb⟩:=JU h2
 unfold rn at h
 rw [ha,hb] at h
 have:=Ig hn _ _ hma hmb h
 injection this
theorem RC.un {x:CV} {v:Value} (hz:jg (keys ρ) x = true) (hg:∀ n ∈ keys ρ,g' n = g (Fw.rn ρ n)) (h:RC P w R B g (jl ρ x) v):RC P w R B g' x v:=by
 refine ⟨h.1,?_⟩
 have h2:=h.2
 cases x with
 | pv p => exact h2
 | px q cells => exact h2
 | loc n off len =>
  have hn:=hg n (List.mem_of_elem_eq_true hz)
  rcases h2 with ⟨h3,h4⟩ | h3 | ⟨b,cap,cur,e,h3,h4⟩
  ·exact .inl ⟨hn.trans h3,h4⟩
  ·exact .inr (.inl h3)
  ·exact .inr (.inr ⟨b,cap,cur,e,hn.trans h3,h4⟩)
 | pl n off =>
  obtain ⟨b,h3,h4⟩:=h2
  exact ⟨b,(hg n (List.mem_of_elem_eq_true hz)).trans h3,h4⟩
 | fn f caps =>
  obtain ⟨vs,h3,h4,h5⟩:=h2
  refine ⟨vs,h3,by simpa using h4,fun k n hk => ?_⟩
  obtain ⟨b,h6,h7⟩:=h5 k (Fw.rn ρ n) (by rw [List.getElem?_map,hk]; rfl)
  exact ⟨b,(hg n (List.mem_of_elem_eq_true (List.all_eq_true.1 hz n (List.mem_of_getElem? hk)))).trans h6,h7⟩
 | mref n =>
  obtain ⟨b,h3,h4⟩:=h2
  exact ⟨b,(hg n (List.mem_of_elem_eq_true hz)).trans h3,h4⟩
 | tl p k off len =>
  have hn:=hg p (List.mem_of_elem_eq_true hz)
  rcases h2 with ⟨h3,h4⟩ | h3 | ⟨b,cap,cur,e,h3,h4⟩
  ·exact .inl ⟨by rw [hn]; exact h3,h4⟩
  ·exact .inr (.inl h3)
  ·exact .inr (.inr ⟨b,cap,cur,e,by rw [hn]; exact h3,h4⟩)
 | tpl p k off =>
  obtain ⟨b,h3,h4⟩:=h2
  exact ⟨b,by rw [hg p (List.mem_of_elem_eq_true hz)]; exact h3,h4⟩
 | junk => trivial
theorem MN {xs:List CV} {vs:List Value} (hz:xs.all (jg (keys ρ)) = true) (hg:∀ n ∈ keys ρ,g' n = g (Fw.rn ρ n)) (h:∀ (k:Nat) x,(xs.map (jl ρ))[k]? = some x → ∃ u,vs[k]? = some u ∧ RC P w R B g x u) :
  ∀ (k:Nat) x,xs[k]? = some x → ∃ u,vs[k]? = some u ∧ RC P w R B g' x u:=fun k x hk => by
 obtain ⟨u,h4,h5⟩:=h k (jl ρ x) (by rw [List.getElem?_map,hk]; rfl)
 exact ⟨u,h4,h5.un (List.all_eq_true.1 hz x (List.mem_of_getElem? hk)) hg⟩
theorem RS.un {x:SV} {v:Value} (hz:okS (keys ρ) x = true) (hg:∀ n ∈ keys ρ,g' n = g (Fw.rn ρ n)) (h:RS P w R B g (vX ρ x) v):RS P w R B g' x v:=by
 cases x with
 | c x => exact RC.un hz hg h
 | agg cs =>
  obtain ⟨vs,h1,h2,h3⟩:=h
  exact ⟨vs,h1,by simpa using h2,MN hz hg h3⟩
theorem bJ.un {n:Nat} {e:TypeId} {els:List (List CV)} (hn:n ∈ keys ρ) (hz:els.all (·.all (jg (keys ρ))) = true) (hg:∀ n ∈ keys ρ,g' n = g (Fw.rn ρ n)) (h:bJ P w R B g (Fw.rn ρ n) e (els.map (·.map (jl ρ)))):bJ P w R B g' n e els:=by
 rcases h with ⟨h1,h2⟩ | ⟨b,cur,h1,h2,h3,h4,h5⟩
 ·exact .inl ⟨(hg n hn).trans h1,by simpa using h2⟩
 ·refine .inr ⟨b,cur,(hg n hn).trans h1,h2,fun cs hcs => ?_,by simpa using h4,fun j k cs x hj hk => ?_⟩
  ·have:=h3 (cs.map (jl ρ)) (List.mem_map.2 ⟨cs,hcs,rfl⟩)
   simpa using this
  ·obtain ⟨u,h6,h7⟩:=h5 j k (cs.map (jl ρ)) (jl ρ x) (by rw [List.getElem?_map,hj]; rfl) (by rw [List.getElem?_map,hk]; rfl)
   exact ⟨u,h6,h7.un (List.all_eq_true.1 (List.all_eq_true.1 hz cs (List.mem_of_getElem? hj)) x (List.mem_of_getElem? hk)) hg⟩
theorem RO.un {n:Nat} {o:Ob} (hn:n ∈ keys ρ) (hz:okO (keys ρ) o = true) (hg:∀ n ∈ keys ρ,g' n = g (Fw.rn ρ n)) (h:RO P w R B g (Fw.rn ρ n) (A7 ρ o)):RO P w R B g' n o:=by
 cases o with
 | row e els => exact bJ.un hn hz hg h
 | bZ e els => exact bJ.un hn (by simp [bf,List.all_eq_true,jg]) hg (els:=bf els) (by rw [JO]; exact h)
 | mp es =>
  obtain ⟨b,kQ,clock,h1,h2⟩:=h
  exact ⟨b,kQ,clock,(hg n hn).trans h1,h2⟩
 | pool e rows =>
  obtain ⟨⟨bs,h1,h2⟩,h3⟩:=h
  exact ⟨⟨bs,(hg n hn).trans h1,h2⟩,by rw [hg n hn]; exact h3⟩
 | fM e p lens => exact bJ.un hn (Js hz) hg (els:=jK p lens) (by rw [Jt]; exact h)
 | ax e p q fs => exact bJ.un hn (Gh hz) hg (els:=dU p q fs) (by rw [Gi]; exact h)
 | unk => trivial
theorem Fn.ren {f:FuncId} {args:List SV} {us df:Mem} {v:AV} {W X:List Nat} (ρ:List (Nat × Nat)) (h:Fn P f args us v df W X)
  (hc:(nodup (ρ.map (·.2)) && args.all (okS (keys ρ)) && us.all (fun p => (keys ρ).elem p.1 && okO (keys ρ) p.2) && okA (keys ρ) v && df.all (fun p => (keys ρ).elem p.1 && okO (keys ρ) p.2) && bP W (keys ρ) && bP X (keys ρ)) = true) :
  Fn P f (args.map (vX ρ)) (JR ρ us) (JQ ρ v) (JR ρ df) (W.map (rn ρ)) (X.map (rn ρ)):=by
 simp only [Bool.and_eq_true] at hc
 obtain ⟨⟨⟨⟨⟨⟨hnd,hargs⟩,hus⟩,hv⟩,hdf⟩,hW⟩,hX⟩:=hc
 have wX:=lu hW
 have Nv:=lu hX
 intro R B g w vs hw hlen hvs PX
 classical
 let gc:Nat → GS:=fun n => if n ∈ keys ρ then g (rn ρ n) else .dead
 have hgc:∀ n ∈ keys ρ,gc n = g (rn ρ n):=fun n hn => if_pos hn
 have hgd:∀ n,gc n ≠ .dead → n ∈ keys ρ:=fun n h => by
  by_cases hn:n ∈ keys ρ
  ·exact hn
  ·exact absurd (if_neg hn) h
 have hgk:∀ n b,(gc n).has b → n ∈ keys ρ:=fun n b h => hgd n fun e => by rw [e] at h; exact h
 have hwc:WF R B gc w:=⟨hw.rb,hw.lt,fun n b hg => by
  have hn:=hgk n b hg
  rw [hgc n hn] at hg
  exact hw.eP _ b hg,fun n k b h1 h2 => by
  have hn:=hgk n b h1
  have hk:=hgk k b h2
  rw [hgc n hn] at h1
  rw [hgc k hk] at h2
  exact JS hnd hn hk (hw.fC _ _ b h1 h2),fun n j k b h1 h2 => by
  have hn:=hgd n fun e => by rw [e] at h1; cases h1
  rw [hgc n hn] at h1 h2
  exact hw.nd _ j k b h1 h2⟩
 refine (h R B gc w vs hwc (by simpa using hlen) (fun k x hk => ?_) (fun p hp => ?_)).mono fun e w' hp => ?_
 ·obtain ⟨u,h1,h2⟩:=hvs k (vX ρ x) (by rw [List.getElem?_map,hk]; rfl)
  exact ⟨u,h1,h2.un (List.all_eq_true.1 hargs x (List.mem_of_getElem? hk)) hgc⟩
 ·have h1:=List.all_eq_true.1 hus p hp
  simp only [Bool.and_eq_true] at h1
  exact RO.un (List.mem_of_elem_eq_true h1.1) h1.2 hgc (PX (rn ρ p.1,A7 ρ p.2) (List.mem_map.2 ⟨p,hp,rfl⟩))
 ·obtain ⟨u,R',B',g',rfl,had,hR,hvv,OY⟩:=hp
  let g2:Nat → GS:=fun n => if h:∃ k,k ∈ keys ρ ∧ rn ρ k = n then g' h.choose else g n
  have hin:∀ k ∈ keys ρ,g2 (rn ρ k) = g' k:=fun k hk => by
   have hex:∃ j,j ∈ keys ρ ∧ rn ρ j = rn ρ k:=⟨k,hk,rfl⟩
   show (if h:∃ j,j ∈ keys ρ ∧ rn ρ j = rn ρ k then g' h.choose else g (rn ρ k)) = g' k
   rw [dif_pos hex]
   have:=hex.choose_spec
   rw [JS hnd this.1 hk this.2]
  have hout:∀ n,(¬ ∃ k,k ∈ keys ρ ∧ rn ρ k = n) → g2 n = g n:=fun n hn => dif_neg hn
  have Ns:∀ b,R' b → b < w'.heap.size:=fun b hb => had.wf.lt b (had.wf.rb b hb)
  have wu:∀ n k b,(¬ ∃ k,k ∈ keys ρ ∧ rn ρ k = n) → k ∈ keys ρ → (g n).has b → (g' k).has b → False:=fun n k b hn hk h1 h2 => by
   by_cases hkX:k ∈ X
   ·rcases had.fresh k hkX b h2 with h3 | ⟨m,hm,h3⟩
    ·exact absurd (hw.eP n b h1).2 (by omega)
    ·rw [hgc m (wX m hm)] at h3
     exact hn ⟨m,wX m hm,hw.fC _ _ b h3 h1⟩
   ·rw [had.names k hkX,hgc k hk] at h2
    exact hn ⟨k,hk,hw.fC _ _ b h2 h1⟩
  have hwf:WF R' (fun b => B b ∨ R' b) g2 w':=by
   refine ⟨fun b hb => .inr hb,fun b hb => hb.elim (fun hb => Nat.lt_of_lt_of_le (hw.lt b hb) had.size) (Ns b),fun n b hg => ?_,fun n k b hn hk => ?_,fun n i j b hi hj => ?_⟩
   ·by_cases hn:∃ k,k ∈ keys ρ ∧ rn ρ k = n
    ·obtain ⟨k,hk,rfl⟩:=hn
     rw [hin k hk] at hg
     have h1:=had.wf.eP k b hg
     exact ⟨fun hB => h1.1 (hB.elim (had.b b) (had.wf.rb b)),h1.2⟩
    ·rw [hout n hn] at hg
     have h1:=hw.eP n b hg
     refine ⟨fun hB => ?_,Nat.lt_of_lt_of_le h1.2 had.size⟩
     rcases hB with hB | hB
     ·exact h1.1 hB
     ·rcases hR b hB with h2 | h2
      ·exact h1.1 (hw.rb b h2)
      ·exact absurd h1.2 (by omega)
   ·by_cases h1:∃ j,j ∈ keys ρ ∧ rn ρ j = n <;> by_cases h2:∃ j,j ∈ keys ρ ∧ rn ρ j = k
    ·obtain ⟨n0,hn0,rfl⟩:=h1
     obtain ⟨k0,hk0,rfl⟩:=h2
     rw [hin n0 hn0] at hn
     rw [hin k0 hk0] at hk
     rw [had.wf.fC n0 k0 b hn hk]
    ·obtain ⟨n0,hn0,rfl⟩:=h1
     rw [hin n0 hn0] at hn
     rw [hout k h2] at hk
     exact (wu k n0 b h2 hn0 hk hn).elim
    ·obtain ⟨k0,hk0,rfl⟩:=h2
     rw [hin k0 hk0] at hk
     rw [hout n h1] at hn
     exact (wu n k0 b h1 hk0 hn hk).elim
    ·rw [hout n h1] at hn
     rw [hout k h2] at hk
     exact hw.fC n k b hn hk
   ·by_cases hn:∃ k,k ∈ keys ρ ∧ rn ρ k = n
    ·obtain ⟨k,hk,rfl⟩:=hn
     rw [hin k hk] at hi hj
     exact had.wf.nd k i j b hi hj
    ·rw [hout n hn] at hi hj
     exact hw.nd n i j b hi hj
  have wY:dK R B g w (W.map (rn ρ)) (X.map (rn ρ)) R' (fun b => B b ∨ R' b) g2 w':=by
   refine ⟨hwf,had.r,fun b hb => .inl hb,had.os,had.tape,had.output,had.size,fun b hb iD => had.heap b hb fun n hn => ?_,fun n hn => ?_,fun n hn b hb => ?_,fun n iD lI b cur e hg hh => ?_⟩
   ·rw [hgc n (wX n hn)]
    exact iD _ (List.mem_map.2 ⟨n,hn,rfl⟩)
   ·by_cases h1:∃ k,k ∈ keys ρ ∧ rn ρ k = n
    ·obtain ⟨k,hk,rfl⟩:=h1
     rw [hin k hk,had.names k fun hkX => hn (List.mem_map.2 ⟨k,hkX,rfl⟩),hgc k hk]
    ·exact hout n h1
   ·obtain ⟨k,hkX,rfl⟩:=List.mem_map.1 hn
    rw [hin k (Nv k hkX)] at hb
    rcases had.fresh k hkX b hb with h3 | ⟨m,hm,h3⟩
    ·exact .inl h3
    ·rw [hgc m (wX m hm)] at h3
     exact .inr ⟨rn ρ m,List.mem_map.2 ⟨m,hm,rfl⟩,h3⟩
   ·obtain ⟨k,hkW,rfl⟩:=List.mem_map.1 iD
    exact had.shape k hkW (fun hkX => lI (List.mem_map.2 ⟨k,hkX,rfl⟩)) b cur e (by rw [hgc k (wX k hkW)]; exact hg) hh
  refine ⟨u,R',_,g2,rfl,wY,hR,hvv.rn hv hin,fun p hp => ?_⟩
  obtain ⟨q,hq,rfl⟩:=List.mem_map.1 hp
  have h1:=List.all_eq_true.1 hdf q hq
  simp only [Bool.and_eq_true] at h1
  exact RO.rn (List.mem_of_elem_eq_true h1.1) h1.2 hin (OY q hq)
end
end
section
section
variable {P:Program} {o:Oper} {α:Type} {enc:α → List PV}
theorem LT.dn {x:Operand} {t e:TypeId} {q:Bool} {xs:List α} (ho:o.op = .call { callee:=.builtin .len,args:=#[x],argTypes:=#[t] }) (ht:P.underlying t = some (.slice e)) :
  LT P o [(x,Cc (.pv (.xs q (xs.map enc))))] [] (Iv xs.length) [] [] []:=by
 have:=LT.QX (P:=P) (o:=o) (q:=q) (els:=xs.map enc) ho ht
 rwa [List.length_map] at this
theorem LT.dW {x y:Operand} {t e:TypeId} {i:Int} {q:Bool} {xs:List α} {b:α} (ho:o.op = .indexAddr t x y) (h:lH P t = some e) (hi:idx xs i = some b) (hs:aW P e = (enc b).length) :
  LT P o [(x,Cc (.pv (.xs q (xs.map enc)))),(y,Iv i)] [] (Cc (.px q (enc b))) [] [] [] :=
 LT.P5 ho h (uG hi) (by rw [List.getElem?_map,pF hi]; rfl) hs.symm
theorem LT.ql {x y:Operand} {t e:TypeId} {i:Int} {n len:Nat} {xs:List α} {b:α} (hl:len = xs.length) (ho:o.op = .indexAddr t x y) (h:lH P t = some e) (hi:idx xs i = some b) :
  LT P o [(x,Cc (.loc n 0 len)),(y,Iv i)] [(n,.bZ e (xs.map enc))] (Cc (.pl n (i.toNat * aW P e))) [] [] []:=by
 subst hl
 exact LT.J5 (LT.Hr ho h (uG hi) (Hq hi))
theorem RQ {xs:List α} {i:Int} {b:α} (hi:idx xs i = some b):(bf (xs.map enc))[i.toNat]? = some ((enc b).map .pv):=by
 simp [bf,List.getElem?_map,pF hi]
theorem LT.l9 {x:Operand} {t e:TypeId} {n off:Nat} {cs:List CV} {c:CV} (ho:o.op = .load t x) (h:fP P t = some false) (hk:cs[off]? = some c):LT P o [(x,Cc (.pl n off))] [(n,.row e [cs])] (Cc c) [] [] [] :=
 LT.IV (j:=0) ho h rfl hk (by rw [Nat.zero_mul,Nat.zero_add])
theorem LT.kV {x:Operand} {t e:TypeId} {n off s:Nat} {cs out:List CV} {it:TypeInfo} (ho:o.op = .load t x) (h:fP P t = some true) (hit:P.info? t = some it) (hs:aW P t = s) (ho2:(cs.drop off).take s = out) (hl:out.length = s) :
  LT P o [(x,Cc (.pl n off))] [(n,.row e [cs])] (Ag out) [] [] []:=by
 have hd:((cs.drop off).take (aW P t)) = out:=by rw [hs,ho2]
 have:=LT.QZ (P:=P) (o:=o) (n:=n) (off:=off) (e:=e) (els:=[cs]) (j:=0) (k:=off) ho h hit rfl (by rw [Nat.zero_mul,Nat.zero_add]) (by rw [hd,hl,hs])
 rwa [hd] at this
theorem LT.tX {t e:TypeId} {n off s:Nat} {x y:Operand} {cs out:List CV} {v:SV} {it:TypeInfo} (ho:o.op = .store t x y) (hd:o.dst = none) (hit:P.info? t = some it) (hs:aW P t = s) (hl:(fK v).length = s) (hk:off + s ≤ cs.length)
  (hout:ow cs off (fK v) = out):LT P o [(x,Cc (.pl n off)),(y,.s v)] [(n,.row e [cs])] (.bV []) [(n,.row e [out])] [n] []:=by
 have:=LT.store (P:=P) (o:=o) (n:=n) (off:=off) (e:=e) (els:=[cs]) (j:=0) (k:=off) ho hd hit hs hl rfl (by rw [Nat.zero_mul,Nat.zero_add]) hk
 subst hout
 exact this
theorem LT.Jy {t e:TypeId} {n off k s:Nat} {x y:Operand} {i:Int} {xs:List α} {b b':α} {v:SV} {it:TypeInfo} (ho:o.op = .store t x y) (hd:o.dst = none) (hit:P.info? t = some it) (hs:aW P t = s) (hl:(fK v).length = s) (hi:idx xs i = some b)
  (ha:off = i.toNat * aW P e + k) (hk:k + s ≤ (enc b).length) (hb:ow ((enc b).map .pv) k (fK v) = (enc b').map .pv) :
  LT P o [(x,Cc (.pl n off)),(y,.s v)] [(n,.bZ e (xs.map enc))] (.bV []) [(n,.bZ e ((xs.set i.toNat b').map enc))] [n] []:=by
 have:=LT.store (P:=P) (o:=o) (n:=n) (off:=off) (e:=e) (els:=bf (xs.map enc)) ho hd hit hs hl (RQ hi) ha (by simpa using hk)
 have e1:(bf (xs.map enc)).set i.toNat (ow ((enc b).map .pv) k (fK v)) = bf ((xs.set i.toNat b').map enc):=by
  rw [hb]
  simp [bf,List.map_set]
 rw [e1] at this
 exact LT.wM (Y:=[]) (LT.J5 (by rw [zD]; exact this))
section
variable {t e:TypeId} {x y:Operand} {n n2 len mG:Nat} {xs ys:List α} {z:Value} {s jB:Nat} {q:Bool}
theorem GL (h:∀ a,(enc a).length = s):∀ cs ∈ ys.map enc,cs.length = s:=fun cs hcs => by
 obtain ⟨a,_,rfl⟩:=List.mem_map.1 hcs
 exact h a
theorem LT.BI (hl:len = xs.length) (ho:o.op = .call { callee:=.builtin .append,args:=#[x,y],argTypes:=#[t,t] }) (ht:P.underlying t = some (.slice e)) (hz:TI P e z s jB) (hzs:z.cells.size = s) (hs:0 < s) (hb:jB ≤ 65536)
  (hl2:∀ a,(enc a).length = s) (hlim:xs.length + ys.length ≤ lD) :
  LT P o [(x,Cc (.loc n 0 len)),(y,Cc (.pv (.xs q (ys.map enc))))] [(n,.bZ e (xs.map enc))] (Cc (.loc n 0 (xs ++ ys).length)) [(n,.bZ e ((xs ++ ys).map enc))] [n] [n]:=by
 subst hl
 have:=LT.Ku (P:=P) (o:=o) (n:=n) (q:=q) (fH:=xs.map enc) (iP:=ys.map enc) ho ht hz hzs hs hb (GL hl2) (by simpa using hlim)
 rwa [List.length_map,List.length_map,← List.map_append,← List.length_append] at this
theorem LT.Eg (hl:len = xs.length) (hl2:mG = ys.length) (ho:o.op = .call { callee:=.builtin .append,args:=#[x,y],argTypes:=#[t,t] }) (ht:P.underlying t = some (.slice e)) (hz:TI P e z s jB) (hzs:z.cells.size = s) (hs:0 < s) (hb:jB ≤ 65536)
  (hel:∀ a,(enc a).length = s) (hlim:xs.length + ys.length ≤ lD) :
  LT P o [(x,Cc (.loc n 0 len)),(y,Cc (.loc n2 0 mG))] [(n,.bZ e (xs.map enc)),(n2,.bZ e (ys.map enc))] (Cc (.loc n 0 (xs ++ ys).length)) [(n,.bZ e ((xs ++ ys).map enc))] [n] [n]:=by
 subst hl; subst hl2
 have:=LT.Kt (P:=P) (o:=o) (n:=n) (n2:=n2) (fH:=xs.map enc) (iP:=ys.map enc) ho ht hz hzs hs hb (GL hel) (by simpa using hlim)
 rwa [List.length_map,List.length_map,← List.map_append,← List.length_append] at this
end
theorem LT.Eh {t e:TypeId} {len n:Nat} {parts:Array (Nat × Operand)} (ps:Parts) {z:Value} {s b:Nat} {zc:List CV} (xs:List α) (ho:o.op = .buildSlice t len parts) (hps:parts.toList = Parts.ops ps) (he:P.underlying t = some (.slice e)) (hz:TI P e z s b)
  (hzc:z.cells.toList.map sC = zc) (h1:z.cells.toList.all (·.oneCell') = true) (hsz:zc.length = s) (hlen:xs.length = len) (hmax:len * s ≤ 16777216 ∧ 0 < s) (hel:∀ a,(enc a).length = s)
  (hf:rM (fun i => some (i * s,s)) ((List.range (len * s)).map fun i => zc.getD (i % s) .junk) (Parts.vals ps) = some (bf (xs.map enc)).flatten) :
  LT P o (Parts.ins ps) [] (Cc (.loc n 0 xs.length)) [(n,.bZ e (xs.map enc))] [] [n]:=by
 have hlen':(bf (xs.map enc)).length = xs.length:=by simp [bf]
 have:=LT.buildSlice (P:=P) (o:=o) (n:=n) ps (els:=bf (xs.map enc)) ho hps he hz hzc h1 hsz (hlen'.trans hlen) hmax (by
  refine List.all_eq_true.2 fun cs hcs => ?_
  obtain ⟨c,hc,rfl⟩:=List.mem_map.1 hcs
  obtain ⟨a,_,rfl⟩:=List.mem_map.1 hc
  rw [List.length_map,hel a]
  exact Nat.beq_refl s) hf
 rw [hlen'] at this
 exact this.wM
theorem LT.Jv {t e:TypeId} {n:Nat} {x y:Operand} {len:Int} {z:Value} {s b:Nat} {zc:List CV} (a:α) (ho:o.op = .makeSlice t x y) (he:P.underlying t = some (.slice e)) (hz:TI P e z s b)
  (hzc:z.cells.toList.map sC = zc) (h1:z.cells.toList.all (·.oneCell') = true) (hsz:zc.length = s) (hs:0 < s) (hb:b ≤ 65536) (hl:0 ≤ len ∧ len ≤ lD) (ha:(enc a).map .pv = zc) :
  LT P o [(x,Iv len),(y,Iv len)] [] (Cc (.loc n 0 (List.replicate len.toNat a).length)) [(n,.bZ e ((List.replicate len.toNat a).map enc))] [] [n]:=by
 have:=LT.makeSlice (P:=P) (o:=o) (n:=n) (x:=x) (y:=y) ho he hz hzc h1 hsz hs hb hl
 have e1:List.replicate len.toNat zc = bf ((List.replicate len.toNat a).map enc):=by simp [bf,List.map_replicate,ha]
 have e2:(List.replicate len.toNat zc).length = (List.replicate len.toNat a).length:=by simp
 rw [e2,e1] at this
 exact this.wM
theorem gW.iZ {sh:Mem} {n len:Nat} {e:TypeId} {xs:List α} (hl:len = xs.length) (h:lk sh n = some (.bZ e (xs.map enc))):gW sh (.loc n 0 len) (.pv (.xs false (xs.map enc))):=by
 subst hl
 have:=gW.loc h
 rwa [List.length_map] at this
def qE (X:List Nat):Mem → Prop
 | [] => True
 | (_,o) :: r => fQ X o = o ∧ qE X r
theorem qE.spec {X:List Nat}:∀ {us:Mem},qE X us → ∀ p ∈ us,fQ X p.2 = p.2
 | [],_,p,hp => by cases hp
 | (n,o) :: r,h,p,hp => by
  cases hp with
  | head => exact h.1
  | tail _ hp => exact qE.spec h.2 p hp
theorem LT.iR {cf:Operand} {f:FuncId} {ops:Array Operand} {ts:Array TypeId} {xs ys:List SV} {us sh df:Mem} {v:AV} {W X:List Nat} (hf:Fn P f ys us v df W X)
  (ho:o.op = .call { callee:=.value cf,args:=ops,argTypes:=ts }) (hb:cZ P f = true) (hsh:jZ sh xs ys) (hlen:ops.size = xs.length)
  (hside:(gu (keys sh) (W ++ X ++ keys us ++ keys df ++ []) && bP W (keys us)) = true) (hus:qE (keys sh) us):LT P o ((cf,Cc (.fn f [])) :: qB ops.toList xs) (us ++ sh) v df W X :=
 LT.call (caps:=[]) (by rw [List.map_nil,List.append_nil]; exact hf) ho hb hlen hsh hside hus.spec
end
section
variable {P:Program} {C:Ctx} {σ:Slots} {m:Mem}
end
end
section
def jf (n k j:Nat):Nat:=bif Nat.beq j n then k else j
def mP (n k:Nat):CV → CV
 | .loc j o l => .loc (jf n k j) o l
 | .pl j o => .pl (jf n k j) o
 | .fn f caps => .fn f (caps.map (jf n k))
 | .mref j => .mref (jf n k j)
 | .tl j i o l => .tl (jf n k j) i o l
 | .tpl j i o => .tpl (jf n k j) i o
 | x => x
def D9 (n k:Nat):SV → SV
 | .c x => .c (mP n k x)
 | .agg cs => .agg (cs.map (mP n k))
def yt (n k:Nat):AV → AV
 | .s x => .s (D9 n k x)
 | .bV xs => .bV (xs.map (D9 n k))
def yu (n k:Nat):Ob → Ob
 | .row e els => .row e (els.map (·.map (mP n k)))
 | .bZ e els => .bZ e els
 | .mp es => .mp es
 | .pool e rows => .pool e rows
 | .fM e p lens => .fM e (jf n k p) lens
 | .ax e p q fs => .ax e (jf n k p) (jf n k q) fs
 | .unk => .unk
def EC (n k:Nat) (σ:Slots):Slots:=σ.map fun p => (p.1,yt n k p.2)
def Ib (n k:Nat) (m:Mem):Mem:=m.map fun p => (jf n k p.1,yu n k p.2)
def jy (n k:Nat) (g:Nat → GS):Nat → GS:=fun j => if j = k then g n else if j = n then .dead else g j
theorem qY {n k j:Nat} (g:Nat → GS) (hj:j ≠ k):jy n k g (jf n k j) = g j:=by
 unfold jf
 cases hb:Nat.beq j n with
 | true =>
  have:=Nat.eq_of_beq_eq_true hb
  subst this
  simp [jy]
 | false =>
  have:=Nat.ne_of_beq_eq_false hb
  simp [jy,hj,this]
section
variable {P:Program} {w:World} {R B:Nat → Prop} {g:Nat → GS} {n k:Nat}
theorem sD {j k:Nat} (h:[k].elem j = false):j ≠ k:=by
 have:=iE h
 simpa using this
theorem RC.mv {x:CV} {v:Value} (hz:dS [k] x = true) (h:RC P w R B g x v):RC P w R B (jy n k g) (mP n k x) v:=by
 refine ⟨h.1,?_⟩
 have h2:=h.2
 cases x with
 | pv p => exact h2
 | px q cells => exact h2
 | loc j off len =>
  have hn:=qY (n:=n) g (sD (by simpa [dS] using hz))
  rcases h2 with ⟨h3,h4⟩ | h3 | ⟨b,cap,cur,e,h3,h4⟩
  ·exact .inl ⟨hn.trans h3,h4⟩
  ·exact .inr (.inl h3)
  ·exact .inr (.inr ⟨b,cap,cur,e,hn.trans h3,h4⟩)
 | pl j off =>
  obtain ⟨b,h3,h4⟩:=h2
  exact ⟨b,(qY g (sD (by simpa [dS] using hz))).trans h3,h4⟩
 | fn f caps =>
  obtain ⟨vs,h3,h4,h5⟩:=h2
  refine ⟨vs,h3,by simpa using h4,fun i j hk => ?_⟩
  rw [List.getElem?_map] at hk
  cases hc:caps[i]? with
  | none => rw [hc] at hk; cases hk
  | some n0 =>
   rw [hc] at hk
   injection hk with hk
   subst hk
   obtain ⟨b,h6,h7⟩:=h5 i n0 hc
   have hz':caps.any [k].elem = false:=by simpa [dS] using hz
   have hne:[k].elem n0 = false:=by
    cases hx:[k].elem n0 with
    | false => rfl
    | true =>
     have:caps.any [k].elem = true:=List.any_eq_true.2 ⟨n0,List.mem_of_getElem? hc,hx⟩
     rw [hz'] at this
     cases this
   exact ⟨b,(qY g (sD hne)).trans h6,h7⟩
 | mref j =>
  obtain ⟨b,h3,h4⟩:=h2
  exact ⟨b,(qY g (sD (by simpa [dS] using hz))).trans h3,h4⟩
 | tl j i off len =>
  have hn:=qY (n:=n) g (sD (by simpa [dS] using hz))
  rcases h2 with ⟨h3,h4⟩ | h3 | ⟨b,cap,cur,e,h3,h4⟩
  ·exact .inl ⟨by rw [hn]; exact h3,h4⟩
  ·exact .inr (.inl h3)
  ·exact .inr (.inr ⟨b,cap,cur,e,by rw [hn]; exact h3,h4⟩)
 | tpl j i off =>
  obtain ⟨b,h3,h4⟩:=h2
  exact ⟨b,by rw [qY (n:=n) g (sD (by simpa [dS] using hz))]; exact h3,h4⟩
 | junk => trivial
theorem Ik (X:List Nat) (x:CV):dS X (aZ X x) = true:=by
 cases x with
 | loc j o l => cases hx:X.elem j <;> simp only [dS,aZ,hx,cond_true,cond_false,Bool.not_false]
 | pl j o => cases hx:X.elem j <;> simp only [dS,aZ,hx,cond_true,cond_false,Bool.not_false]
 | fn f caps => cases hx:caps.any X.elem <;> simp only [dS,aZ,hx,cond_true,cond_false,Bool.not_false]
 | mref j => cases hx:X.elem j <;> simp only [dS,aZ,hx,cond_true,cond_false,Bool.not_false]
 | tl j i o l => cases hx:X.elem j <;> simp only [dS,aZ,hx,cond_true,cond_false,Bool.not_false]
 | tpl j i o => cases hx:X.elem j <;> simp only [dS,aZ,hx,cond_true,cond_false,Bool.not_false]
 | _ => rfl
theorem Fz {xs:List CV} {us:Nat → Option Value} (h:∀ (i:Nat) x,(xs.map (aZ [k]))[i]? = some x → ∃ u,us i = some u ∧ RC P w R B g x u) :
  ∀ (i:Nat) x,((xs.map (aZ [k])).map (mP n k))[i]? = some x → ∃ u,us i = some u ∧ RC P w R B (jy n k g) x u:=fun i x hi => by
 rw [List.getElem?_map] at hi
 cases hc:(xs.map (aZ [k]))[i]? with
 | none => rw [hc] at hi; cases hi
 | some y =>
  rw [hc] at hi
  injection hi with hi
  subst hi
  obtain ⟨u,h1,h2⟩:=h i y hc
  refine ⟨u,h1,h2.mv ?_⟩
  rw [List.getElem?_map] at hc
  cases hx:xs[i]? with
  | none => rw [hx] at hc; cases hc
  | some z =>
   rw [hx] at hc
   injection hc with hc
   subst hc
   exact Ik _ _
theorem RS.mv {x:SV} {v:Value} (h:RS P w R B g (je [k] x) v):RS P w R B (jy n k g) (D9 n k (je [k] x)) v:=by
 cases x with
 | c x => exact RC.mv (Ik _ _) h
 | agg cs =>
  obtain ⟨vs,h1,h2,h3⟩:=h
  exact ⟨vs,h1,by simpa using h2,Fz (us:=fun i => vs[i]?) h3⟩
theorem RA.mv {x:AV} {v:Value} (h:RA P w R B g (jG [k] x) v):RA P w R B (jy n k g) (yt n k (jG [k] x)) v:=by
 cases x with
 | s x => exact RS.mv h
 | bV xs =>
  obtain ⟨vs,h1,h2,h3⟩:=h
  refine ⟨vs,h1,by simpa using h2,fun i x hi => ?_⟩
  rw [List.getElem?_map,List.getElem?_map] at hi
  cases hx:xs[i]? with
  | none => rw [hx] at hi; cases hi
  | some z =>
   rw [hx] at hi
   injection hi with hi
   subst hi
   obtain ⟨u,h4,h5⟩:=h3 i (je [k] z) (by rw [List.getElem?_map,hx]; rfl)
   exact ⟨u,h4,h5.mv⟩
theorem RO.mv {j:Nat} {o:Ob} (hj:j ≠ k) (h:RO P w R B g j (fQ [k] o)):RO P w R B (jy n k g) (jf n k j) (yu n k (fQ [k] o)):=by
 have hg:=qY (n:=n) g hj
 have hrow:∀ {e:TypeId} {els:List (List CV)},bJ P w R B g j e (els.map (·.map (aZ [k]))) → bJ P w R B (jy n k g) (jf n k j) e ((els.map (·.map (aZ [k]))).map (·.map (mP n k))):=fun {e els} h => by
  rcases h with ⟨h1,h2⟩ | ⟨b,cur,h1,h2,h3,h4,h5⟩
  ·exact .inl ⟨hg.trans h1,by rw [h2]; rfl⟩
  ·refine .inr ⟨b,cur,hg.trans h1,h2,fun cs hcs => ?_,by simpa using h4,fun i q cs x hi hq => ?_⟩
   ·obtain ⟨c0,hc0,rfl⟩:=List.mem_map.1 hcs
    simpa using h3 c0 hc0
   ·rw [List.getElem?_map,List.getElem?_map] at hi
    cases hc:els[i]? with
    | none => rw [hc] at hi; cases hi
    | some c0 =>
     rw [hc] at hi
     injection hi with hi
     subst hi
     exact Fz (us:=fun q => cur[i * aW P e + q]?) (fun q y hq => h5 i q _ y (by rw [List.getElem?_map,hc]; rfl) hq) q x hq
 cases o with
 | row e els => exact hrow h
 | bZ e els =>
  have h':bJ P w R B g j e ((bf els).map (·.map (aZ [k]))):=by rw [zD]; exact h
  have:=hrow h'
  rw [zD] at this
  have e1:(bf els).map (·.map (mP n k)) = bf els:=by simp [bf,mP,Function.comp_def]
  rw [e1] at this
  exact this
 | mp es =>
  obtain ⟨b,kQ,clock,h1,h2⟩:=h
  exact ⟨b,kQ,clock,hg.trans h1,h2⟩
 | pool e rows =>
  obtain ⟨⟨bs,h1,h2⟩,h3⟩:=h
  exact ⟨⟨bs,hg.trans h1,h2⟩,by rw [hg]; exact h3⟩
 | fM e p lens =>
  change RO P w R B g j (bif [k].elem p then .unk else .fM e p lens) at h
  show RO P w R B (jy n k g) (jf n k j) (yu n k (bif [k].elem p then .unk else .fM e p lens))
  cases hx:[k].elem p with
  | true => trivial
  | false =>
   rw [hx] at h
   have h':bJ P w R B g j e ((jK p lens).map (·.map (aZ [k]))):=by
    rw [Ei hx]
    exact h
   have:=hrow h'
   rw [Ei hx] at this
   have e1:(jK p lens).map (·.map (mP n k)) = jK (jf n k p) lens:=by
    refine List.ext_getElem? fun i => ?_
    simp only [jK,List.getElem?_map,List.getElem?_mapIdx,Option.map_map]
    cases lens[i]? <;> simp [mP]
   rw [e1] at this
   exact this
 | ax e p q fs =>
  change RO P w R B g j (bif [k].elem p then .unk else bif [k].elem q then .unk else .ax e p q fs) at h
  show RO P w R B (jy n k g) (jf n k j) (yu n k (bif [k].elem p then .unk else bif [k].elem q then .unk else .ax e p q fs))
  cases hx:[k].elem p with
  | true => trivial
  | false =>
   cases hy:[k].elem q with
   | true => trivial
   | false =>
    rw [hx,hy] at h
    have h':bJ P w R B g j e ((dU p q fs).map (·.map (aZ [k]))):=by
     rw [Bq hx hy]
     exact h
    have:=hrow h'
    rw [Bq hx hy] at this
    have e1:(dU p q fs).map (·.map (mP n k)) = dU (jf n k p) (jf n k q) fs:=by
     refine List.ext_getElem? fun i => ?_
     simp only [dU,List.getElem?_map,List.getElem?_mapIdx,Option.map_map]
     cases fs[i]? <;> simp [mP]
    rw [e1] at this
    exact this
 | unk => trivial
end
section
variable {P:Program} {C:Ctx} {σ:Slots} {m:Mem} {n k:Nat}
theorem IQ (n k:Nat):∀ (σ:Slots) (t:Nat),lk (EC n k σ) t = (lk σ t).map (yt n k)
 | [],_ => rfl
 | (j,v) :: r,t => by
  show (bif Nat.beq j t then some (yt n k v) else lk (EC n k r) t) = Option.map (yt n k) (bif Nat.beq j t then some v else lk r t)
  cases Nat.beq j t
  ·exact IQ n k r t
  ·rfl
theorem Ia {m:Mem} {j:Nat} {o:Ob} (h:lk (Ib n k m) j = some o):∃ j0 o0,(j0,o0) ∈ m ∧ j = jf n k j0 ∧ o = yu n k o0:=by
 obtain ⟨p,hp,he⟩:=List.mem_map.1 (pJ h)
 injection he with h1 h2
 exact ⟨p.1,p.2,hp,h1.symm,h2.symm⟩
def BJ:Mem → Bool
 | [] => true
 | (n,_) :: r => !(keys r).elem n && BJ r
theorem J3:∀ {m:Mem} {n:Nat} {o:Ob},BJ m = true → (n,o) ∈ m → lk m n = some o
 | [],_,_,_,h => by cases h
 | (j,x) :: r,n,o,hu,h => by
  unfold BJ at hu
  simp only [Bool.and_eq_true,Bool.not_eq_true'] at hu
  show (bif Nat.beq j n then some x else lk r n) = some o
  cases h with
  | head => rw [Nat.beq_refl]; rfl
  | tail _ h =>
   have hne:j ≠ n:=fun e => iE hu.1 (e ▸ List.mem_map.2 ⟨_,h,rfl⟩)
   cases hb:Nat.beq j n with
   | true => exact absurd (Nat.eq_of_beq_eq_true hb) hne
   | false => exact J3 hu.2 h
theorem aU.mv (n k:Nat) (hp:(!C.pn.elem n && !C.pn.elem k) = true) (hu:BJ m = true):aU P C σ m (EC n k (iI [k] σ)) (Ib n k (fE [k] m)):=fun R B g a w hs => by
 simp only [Bool.and_eq_true,Bool.not_eq_true'] at hp
 have hpn:=iE hp.1
 have hpk:=iE hp.2
 -- forget k first
 have had:dK R B g w [] [k] R B (upd g k .dead) w:=by
  refine ⟨hs.wf.upd k _ (Nat.le_refl _) (fun b hb => hb.elim) (fun i j b hi => by cases hi),fun _ h => h,fun _ h => h,rfl,rfl,rfl,Nat.le_refl _,fun _ _ _ => rfl,fun i hi => upd_ne g _ (by simpa using hi),fun i hi b hb => ?_,fun i hi => by cases hi⟩
  ·have:i = k:=by simpa using hi
   subst this
   rw [upd_same] at hb; exact hb.elim
 have h1:St P C (iI [k] σ) (fE [k] m) R B (upd g k .dead) a w :=
  hs.step (us:=[]) (df:=[]) (W:=[]) (X:=[k]) (d:=none) (v:=.bV []) (u:=undef) trivial (fun _ h => by cases h) (fun p hp => by cases hp) rfl (fun j hj => by
   have:j = k:=by simpa using hj
   subst this; exact hpk) had (fun b hb => .inl hb) (fun h => by cases h) (fun p hp => by cases hp)
 have hjm:∀ (m0:Mem) (j:Nat) (o:Ob),(j,o) ∈ fE [k] m0 → j ≠ k ∧ ∃ o0,(j,o0) ∈ m0 ∧ o = fQ [k] o0:=by
  intro m0
  induction m0 with
  | nil => intro j o h; cases h
  | cons p r ih =>
   intro j o h
   obtain ⟨i,x⟩:=p
   unfold fE at h
   cases hi:[k].elem i with
   | true =>
    rw [hi,cond_true] at h
    obtain ⟨h1,o0,h2,h3⟩:=ih j o h
    exact ⟨h1,o0,List.mem_cons_of_mem _ h2,h3⟩
   | false =>
    rw [hi,cond_false] at h
    cases h with
    | head => exact ⟨sD hi,x,List.mem_cons_self,rfl⟩
    | tail _ h =>
     obtain ⟨h1,o0,h2,h3⟩:=ih j o h
     exact ⟨h1,o0,List.mem_cons_of_mem _ h2,h3⟩
 have hlk:∀ j o,(j,o) ∈ fE [k] m → lk (fE [k] m) j = some o:=fun j o hm => by
  obtain ⟨h2,o0,h3,rfl⟩:=hjm m j o hm
  rw [D5,if_neg (by simpa using h2),J3 hu h3]
  rfl
 generalize upd g k .dead = g1 at h1
 refine ⟨R,B,jy n k g1,{ h1 with wf:=⟨h1.wf.rb,h1.wf.lt,fun j b hj => ?_,fun i j b hi hj => ?_,fun q i j b hi hj => ?_⟩,sl:=fun t v ht => ?_,ob:=fun j o hj => ?_,ow:=fun j o b hj hb => ?_,pin:=fun j hj => ?_ }⟩
 ·unfold jy at hj
  split at hj
  ·exact h1.wf.eP n b hj
  ·split at hj
   ·exact hj.elim
   ·exact h1.wf.eP j b hj
 ·unfold jy at hi hj
  split at hi
  ·rename_i e1
   split at hj
   ·rename_i e2; rw [e1,e2]
   ·split at hj
    ·exact hj.elim
    ·rename_i e3; exact absurd (h1.wf.fC n j b hi hj).symm e3
  ·split at hi
   ·exact hi.elim
   ·rename_i e1 e2
    split at hj
    ·exact absurd (h1.wf.fC i n b hi hj) e2
    ·split at hj
     ·exact hj.elim
     ·exact h1.wf.fC i j b hi hj
 ·unfold jy at hi hj
  split at hi
  ·rename_i e1
   rw [if_pos e1] at hj
   exact h1.wf.nd n i j b hi hj
  ·rename_i e1
   rw [if_neg e1] at hj
   split at hi
   ·cases hi
   ·rename_i e2
    rw [if_neg e2] at hj
    exact h1.wf.nd q i j b hi hj
 ·rw [IQ,uO] at ht
  cases hl:lk σ t with
  | none => rw [hl] at ht; cases ht
  | some x =>
   rw [hl] at ht
   injection ht with ht
   subst ht
   exact RA.mv (h1.sl t _ (by rw [uO,hl]; rfl))
 ·obtain ⟨j0,o0,hm,rfl,rfl⟩:=Ia hj
  obtain ⟨h2,o1,h3,rfl⟩:=hjm m j0 o0 hm
  exact RO.mv h2 (h1.ob j0 _ (hlk j0 _ hm))
 ·obtain ⟨j0,o0,hm,rfl,rfl⟩:=Ia hj
  obtain ⟨h2,_⟩:=hjm m j0 o0 hm
  rw [qY g1 h2] at hb
  exact h1.ow j0 o0 b (hlk j0 o0 hm) hb
 ·have e1:j ≠ k:=fun e => hpk (e ▸ hj)
  have e2:j ≠ n:=fun e => hpn (e ▸ hj)
  have:jy n k g1 j = g1 j:=by simp [jy,e1,e2]
  rw [this]
  exact h1.pin j hj
end
end
section
def gY:List Int → List Int → Bool
 | [],[] => true
 | a :: r,b :: s => (a == b) && gY r s
 | _,_ => false
def AP (P:Program):Nat → List Field → Bool
 | _,[] => true
 | k,f :: r => (f.name != "_") && Nat.beq f.offset k && (match P.underlying f.type with | some (.int _) => true | _ => false) && AP P (k + 1) r
def uH (P:Program) (t:TypeId):Option Nat:=match P.underlying t with
 | some (.struct fs) => if (AP P 0 fs.toList && !P.stoodInHeld t && !P.eqGuardType P.depth t) = true then some fs.size else none
 | _ => none
section
variable {P:Program} {o:Oper}
def pG (l:List Int):Array Value:=(l.map fun n => Value.int .i64 n).toArray
theorem Ja (w:World) (d:Nat):∀ (fs:List Field) (k:Nat) (xs ys:List Int),AP P k fs = true → xs.length = k + fs.length → ys.length = k + fs.length →
  (Op.eqFields (d + 1) (pG xs) (pG ys) fs).run P w = .ok (gY (xs.drop k) (ys.drop k)) w
 | [],k,xs,ys,_,hx,hy => by
  rw [List.drop_eq_nil_of_le (by simp at hx; omega),List.drop_eq_nil_of_le (by simp at hy; omega)]
  rfl
 | f :: r,k,xs,ys,h,hx,hy => by
  unfold AP at h
  simp only [Bool.and_eq_true] at h
  obtain ⟨⟨⟨h1,h2⟩,h3⟩,h4⟩:=h
  have hoff:f.offset = k:=Nat.eq_of_beq_eq_true h2
  have hname:f.name ≠ "_" := by simpa using h1
  have hkx:k < xs.length:=by simp at hx; omega
  have hky:k < ys.length:=by simp at hy; omega
  have hkind:∃ kd,P.underlying f.type = some (.int kd):=by
   split at h3
   ·exact ⟨_,by assumption⟩
   ·cases h3
  obtain ⟨kd,hk⟩:=hkind
  have hpx:(part f.type (pG xs) f.offset).run P w = .ok (.int .i64 xs[k]) w:=by simp [part,isAgg,run_underlying hk,hoff,pG,List.getElem?_map,hkx]
  have hpy:(part f.type (pG ys) f.offset).run P w = .ok (.int .i64 ys[k]) w:=by simp [part,isAgg,run_underlying hk,hoff,pG,List.getElem?_map,hky]
  have ih:=Ja w d r (k + 1) xs ys h4 (by simp at hx ⊢; omega) (by simp at hy ⊢; omega)
  rw [List.drop_eq_getElem_cons hkx,List.drop_eq_getElem_cons hky]
  unfold Op.eqFields
  rw [if_pos hname]
  simp only [Sem.run_bind,hpx,hpy,Result.andThen_ok,run_equalIn_int w d f.type .i64 kd _ _ hk]
  cases hb:(xs[k] == ys[k]) with
  | true => simp [ih,gY,hb]
  | false => simp [gY,hb]
theorem Jb {t:TypeId} {n:Nat} (h:uH P t = some n) (xs ys:List Int) (hx:xs.length = n) (hy:ys.length = n) (w:World) :
  (Op.equalIn 10000 t (.agg (pG xs)) (.agg (pG ys))).run P w = .ok (gY xs ys) w ∧ P.eqGuardType P.depth t = false:=by
 unfold uH at h
 split at h
 ·rename_i fs hfs
  split at h
  ·rename_i hc
   simp only [Bool.and_eq_true,Bool.not_eq_true'] at hc
   injection h with h
   subst h
   have hf:P.fieldsOf t = fs:=by simp [Program.fieldsOf,hfs]
   refine ⟨?_,hc.2⟩
   rw [show (10000:Nat) = 9999 + 1 from rfl,run_equalIn_agg w 9999 t _ _ (by rw [hf]; exact hfs) hc.1.2,hf]
   have:=Ja (P:=P) w 9998 fs.toList 0 xs ys hc.1.1 (by simpa using hx) (by simpa using hy)
   simpa using this
  ·cases h
 ·cases h
theorem zM {w:World} {R B:Nat → Prop} {g:Nat → GS} {xs:List Int} {v:Value} (h:RA P w R B g (Ag (xs.map iC)) v):v = .agg (pG xs):=by
 obtain ⟨vs,rfl,hl,hc⟩:=h
 have:vs = xs.map fun n => Value.int .i64 n:=by
  refine List.ext_getElem (by simpa using hl) fun i h1 h2 => ?_
  have hi:i < xs.length:=by simpa using h2
  obtain ⟨u,h3,h4⟩:=hc i (iC xs[i]) (by rw [List.getElem?_map,List.getElem?_eq_getElem hi]; rfl)
  obtain ⟨_,h4⟩:=h4
  cases h4
  rw [List.getElem?_eq_getElem h1] at h3
  injection h3 with h3
  rw [h3]
  simp
 rw [this]
 rfl
theorem LT.wP {t t':TypeId} {x y:Operand} {n:Nat} (xs ys:List Int) (ho:o.op = .binOp .eql t x y t') (h:uH P t = some n) (hx:xs.length = n) (hy:ys.length = n) :
  LT P o [(x,Ag (xs.map iC)),(y,Ag (ys.map iC))] [] (Bv (gY xs ys)) [] [] []:=.calm fun R B g w a _ hi _ => by
 obtain ⟨h1,h2⟩:=Jb h xs ys hx hy w
 refine ⟨.bool (gY xs ys),?_,oN rfl⟩
 simp only [execOp,ho,zM (in1 hi),zM (in2 hi),Sem.run_bind,run_eqGuard_agg w .eql t x y _ _ h2,Result.andThen_ok,run_eql_struct,h1,Sem.run_pure]
theorem LT.Ie {t t':TypeId} {x y:Operand} {n:Nat} (xs ys:List Int) (ho:o.op = .binOp .neq t x y t') (h:uH P t = some n) (hx:xs.length = n) (hy:ys.length = n) :
  LT P o [(x,Ag (xs.map iC)),(y,Ag (ys.map iC))] [] (Bv (!gY xs ys)) [] [] []:=.calm fun R B g w a _ hi _ => by
 obtain ⟨h1,h2⟩:=Jb h xs ys hx hy w
 refine ⟨.bool (!gY xs ys),?_,oN rfl⟩
 simp only [execOp,ho,zM (in1 hi),zM (in2 hi),Sem.run_bind,run_eqGuard_agg w .neq t x y _ _ h2,Result.andThen_ok,run_neq_struct,h1,Sem.run_pure]
end
end
theorem BQ {n:Nat} (h:n ≤ 1099511627776):n < BIG:=by unfold BIG; omega
theorem jA {n:Int} (h1:-4611686018427387904 ≤ n) (h2:n ≤ 4611686018427387904):aJ n = n:=Sz (by omega) (by omega)
theorem IW {σ τ:Type} {b:σ → Option (σ ⊕ τ)} {r:τ} (st:Nat → σ) (n:Nat) (h:∀ k,k < n → b (st k) = some (.inl (st (k + 1)))) (hr:b (st n) = some (.inr r)):∀ (j k f:Nat),k + j = n → j < f → bY b f (st k) = some r
 | 0,k,f,hk,hf => by
  obtain ⟨f,rfl⟩:∃ g,f = g + 1:=⟨f - 1,by omega⟩
  have:k = n:=by omega
  subst this
  unfold bY
  rw [hr]
 | j + 1,k,f,hk,hf => by
  obtain ⟨f,rfl⟩:∃ g,f = g + 1:=⟨f - 1,by omega⟩
  unfold bY
  rw [h k (by omega)]
  exact IW st n h hr j (k + 1) f (by omega) (by omega)
theorem lg {σ τ:Type} {b:σ → Option (σ ⊕ τ)} {r:τ} {s:σ} (st:Nat → σ) (n:Nat) (hn:n ≤ 1099511627776) (h0:st 0 = s) (h:∀ k,k < n → b (st k) = some (.inl (st (k + 1)))) (hr:b (st n) = some (.inr r)):bY b BIG s = some r:=by
 subst h0
 exact IW st n h hr n 0 BIG (by omega) (BQ hn)
theorem lZ {α:Type} {l:List α} {k:Nat} (h:k < l.length):idx l (k:Int) = some l[k]:=by
 unfold idx
 rw [if_pos (by omega),Int.toNat_natCast,List.getElem?_eq_getElem h]
theorem jP {α:Type} {l:List α} {k:Nat} {x:α} (h:l[k]? = some x):idx l (k:Int) = some x:=by
 unfold idx
 rw [if_pos (by omega),Int.toNat_natCast,h]
theorem lC {k:Nat} (h:k ≤ 1099511627776):aJ ((k:Int) + 1) = ((k + 1:Nat):Int):=by
 rw [jA (by omega) (by omega)]; omega
theorem Bf {τ:Type} {b:Int → Option (Int ⊕ τ)} {r:τ} (n:Nat) (hn:n ≤ 1099511627776) (h:∀ k:Nat,k < n → b k = some (.inl (aJ ((k:Int) + 1)))) (hr:b n = some (.inr r)):bY b BIG 0 = some r :=
 lg (fun k => (k:Int)) n hn rfl (fun k hk => by rw [h k hk,lC (by omega)]) hr
theorem Ko {γ:Type} {b:Int → Option (Int ⊕ (Unit ⊕ γ))} (bad:Nat → Bool) (c:γ) (k0 n:Nat) (hn:n ≤ 1099511627776) (h0:k0 ≤ n) (h:∀ k:Nat,k0 ≤ k → k < n → b k = bif bad k then some (.inr (.inr c)) else some (.inl (aJ ((k:Int) + 1)))) (hr:b n = some (.inr (.inl ()))) :
  bY b BIG k0 = some (bif (List.range' k0 (n - k0)).any bad then .inr c else .inl ()):=by
 have go:∀ (j k f:Nat),k + j = n → k0 ≤ k → j < f → bY b f (k:Int) = some (bif (List.range' k j).any bad then .inr c else .inl ()):=by
  intro j
  induction j with
  | zero =>
   intro k f hk _ hf
   obtain ⟨f,rfl⟩:∃ g,f = g + 1:=⟨f - 1,by omega⟩
   have:k = n:=by omega
   subst this
   unfold bY
   rw [hr]
   rfl
  | succ j ih =>
   intro k f hk hk0 hf
   obtain ⟨f,rfl⟩:∃ g,f = g + 1:=⟨f - 1,by omega⟩
   have h1:=h k hk0 (by omega)
   unfold bY
   cases hb:bad k with
   | true =>
    rw [hb,cond_true] at h1
    rw [h1,List.range'_succ,List.any_cons,hb]
    rfl
   | false =>
    rw [hb,cond_false,lC (by omega)] at h1
    rw [h1,List.range'_succ,List.any_cons,hb,Bool.false_or]
    exact ih (k + 1) f (by omega) (by omega) (by omega)
 exact go (n - k0) k0 BIG (by omega) (Nat.le_refl _) (by have:=BQ hn; omega)
theorem IX {σ τ:Type} {b:σ → Option (σ ⊕ τ)} {s:σ} (I:Nat → σ → Prop) (Q:τ → Prop) (n:Nat) (hn:n ≤ 1099511627776) (h0:I 0 s)
  (h:∀ k s,k < n → I k s → (∃ s',b s = some (.inl s') ∧ I (k + 1) s') ∨ ∃ r,b s = some (.inr r) ∧ Q r) (hr:∀ s,I n s → ∃ r,b s = some (.inr r) ∧ Q r):∃ r,bY b BIG s = some r ∧ Q r:=by
 have go:∀ (j k f:Nat) (s:σ),k + j = n → j < f → I k s → ∃ r,bY b f s = some r ∧ Q r:=by
  intro j
  induction j with
  | zero =>
   intro k f s hk hf hi
   obtain ⟨f,rfl⟩:∃ g,f = g + 1:=⟨f - 1,by omega⟩
   have:k = n:=by omega
   subst this
   obtain ⟨r,h1,h2⟩:=hr s hi
   exact ⟨r,by unfold bY; rw [h1],h2⟩
  | succ j ih =>
   intro k f s hk hf hi
   obtain ⟨f,rfl⟩:∃ g,f = g + 1:=⟨f - 1,by omega⟩
   rcases h k s (by omega) hi with ⟨s',h1,h2⟩ | ⟨r,h1,h2⟩
   ·obtain ⟨r,h3,h4⟩:=ih (k + 1) f s' (by omega) (by omega) h2
    exact ⟨r,by unfold bY; rw [h1]; exact h3,h4⟩
   ·exact ⟨r,by unfold bY; rw [h1],h2⟩
 exact go n 0 BIG s (by omega) (BQ hn) h0
theorem F7 {α:Type} {b:Int × List α → Option ((Int × List α) ⊕ List α)} (a:List α) (z:α) (ha:a.length ≤ 1099511627776)
  (h:∀ (k:Nat) (l:List α) x y,a[k]? = some x → l[k]? = some y → b (k,l) = some (.inl (aJ ((k:Int) + 1),l.set k x))) (hr:∀ l,b ((a.length:Int),l) = some (.inr l)) :
  bY b BIG (0,List.replicate a.length z) = some a:=by
 refine lg (fun k => ((k:Int),a.take k ++ List.replicate (a.length - k) z)) a.length ha (by simp) (fun k hk => ?_) (by simp [hr])
 have h1:(a.take k ++ List.replicate (a.length - k) z)[k]? = some z:=by
  have hl:(a.take k).length = k:=by simp; omega
  rw [List.getElem?_append_right (by omega),hl,Nat.sub_self,List.getElem?_replicate,if_pos (by omega)]
 rw [h k _ a[k] z (List.getElem?_eq_getElem hk) h1,lC (by omega)]
 congr 3
 obtain ⟨m,hm⟩:∃ m,a.length - k = m + 1:=⟨a.length - k - 1,by omega⟩
 have hm2:a.length - (k + 1) = m:=by omega
 rw [hm,hm2,List.set_append_right _ _ (by simp; omega)]
 have:k - (a.take k).length = 0:=by simp; omega
 rw [this,List.replicate_succ,List.set_cons_zero]
 have ht:a.take (k + 1) = a.take k ++ [a[k]]:=by rw [List.take_add_one,List.getElem?_eq_getElem hk]; rfl
 rw [ht,List.append_assoc]
 rfl
theorem pI {n:Nat} (h:n ≤ 2147483648):lim n = some ():=by unfold lim lD; rw [if_pos h]
theorem IB {n:Int} (h0:0 ≤ n) (h:n ≤ 2147483648):uJ n = some ():=by unfold uJ; rw [if_pos ⟨h0,h⟩]
theorem EW {a b:Nat} (h:a = b):same a b = some ():=by unfold same; rw [if_pos h]
def iter {β:Type} (f:Nat → β → β):Nat → β → β
 | 0,a => a
 | n + 1,a => f n (iter f n a)
def pieces {α:Type} (f:Nat → List α):Nat → List α
 | 0 => []
 | n + 1 => pieces f n ++ f n
theorem pieces_len {α:Type} {f:Nat → List α} {c:Nat}:∀ n,(∀ k,k < n → (f k).length ≤ c) → (pieces f n).length ≤ c * n
 | 0,_ => by simp [pieces]
 | n + 1,h => by
  have h1:=pieces_len n fun k hk => h k (by omega)
  have h2:=h n (by omega)
  show (pieces f n ++ f n).length ≤ _
  rw [List.length_append,Nat.mul_add,Nat.mul_one]
  omega
theorem Am {α:Type} {f g:Nat → List α}:∀ n,(∀ k,k < n → f k = g k) → pieces f n = pieces g n
 | 0,_ => rfl
 | n + 1,h => by
  show pieces f n ++ f n = pieces g n ++ g n
  rw [Am n fun k hk => h k (by omega),h n (by omega)]
theorem BX {α τ σ:Type} {b:σ → Option (σ ⊕ τ)} {s:σ} (mk:Nat → List α → σ) (f:Nat → List α) (fin:List α → τ) (c n:Nat) (Ae:List α) (hn:n ≤ 1099511627776) (hs:s = mk 0 Ae) (hc:∀ k,k < n → (f k).length ≤ c)
  (h:∀ k out,k < n → out.length ≤ Ae.length + c * k → b (mk k out) = some (.inl (mk (k + 1) (out ++ f k)))) (hr:∀ out,b (mk n out) = some (.inr (fin out))) :
  bY b BIG s = some (fin (Ae ++ pieces f n)):=by
 subst hs
 refine lg (fun k => mk k (Ae ++ pieces f k)) n hn (by simp [pieces]) (fun k hk => ?_) (hr _)
 have h1:=pieces_len (f:=f) (c:=c) k fun j hj => hc j (by omega)
 rw [h k _ hk (by rw [List.length_append]; omega),List.append_assoc]
 rfl
theorem Kq {p:Nat → Bool} {k0 n:Nat}:(List.range' k0 n).any p = true ↔ ∃ k,k0 ≤ k ∧ k < k0 + n ∧ p k = true:=by
 rw [List.any_eq_true]
 constructor
 ·rintro ⟨k,hk,h⟩
  rw [List.mem_range'_1] at hk
  exact ⟨k,hk.1,hk.2,h⟩
 ·rintro ⟨k,h1,h2,h⟩
  exact ⟨k,List.mem_range'_1.2 ⟨h1,h2⟩,h⟩
theorem zN {p:Nat → Bool} {k0 n:Nat}:(List.range' k0 n).any p = false ↔ ∀ k,k0 ≤ k → k < k0 + n → p k = false:=by
 rw [← Bool.not_eq_true,Kq]
 constructor
 ·intro h k h1 h2
  cases hp:p k
  ·rfl
  ·exact absurd ⟨k,h1,h2,hp⟩ h
 ·rintro h ⟨k,h1,h2,h3⟩
  rw [h k h1 h2] at h3
  cases h3
theorem rC {γ:Type} {b:Int → Option (Int ⊕ (Unit ⊕ γ))} (bad:Nat → Bool) (c:γ) (n:Nat) (hn:n ≤ 1099511627776) (h:∀ k:Nat,k < n → b k = bif bad k then some (.inr (.inr c)) else some (.inl (aJ ((k:Int) + 1)))) (hr:b n = some (.inr (.inl ()))) :
  bY b BIG 0 = some (bif (List.range' 0 n).any bad then .inr c else .inl ()):=by
 have:=Ko (b:=b) bad c 0 n hn (by omega) (fun k _ hk => h k hk) hr
 rwa [Nat.sub_zero] at this
end Go.Fw
end
section
namespace Go.Fw
open Go.ChangeMaps
def mO:List (Int × Int) → Int → Int
 | [],_ => 0
 | e :: r,k => bif k == e.1 then e.2 else mO r k
def ru:List (Int × Int) → Int → Bool
 | [],_ => false
 | e :: r,k => bif k == e.1 then true else ru r k
def qX:List (Int × Int) → Int → Int → List (Int × Int)
 | [],k,v => [(k,v)]
 | e :: r,k,v => bif k == e.1 then (k,v) :: r else e :: qX r k v
section
variable {P:Program} {o:Oper} {w:World} {R B:Nat → Prop} {g:Nat → GS}
variable {α:Type} {enc:α → List PV}
theorem dB.vY {e:TypeId} {cs:List CV} (h:qx cs):dB (.row e [cs]):=fun c hc x hx => by
 have:c = cs:=by simpa using hc
 subst this
 exact h.spec x hx
end
end Go.Fw
end
section
namespace Go.Fw
section
section
variable {P:Program} {C:Ctx} {σ:Slots} {m:Mem}
theorem RC.junk {w:World} {R B:Nat → Prop} {g:Nat → GS} {x:CV} {v:Value} (h:RC P w R B g x v):RC P w R B g .junk v:=⟨h.1,trivial⟩
theorem St.slot {R B:Nat → Prop} {g:Nat → GS} {a:Act} {w:World} (hs:St P C σ m R B g a w) {t:Nat} {v:AV} (h:RA P w R B g v (a.tmps.getD t undef)):St P C ((t,v) :: σ) m R B g a w:=by
 refine { hs with sl:=?_ }
 intro t' v' hl
 change (bif Nat.beq t t' then some v else lk σ t') = some v' at hl
 cases hb:Nat.beq t t' with
 | true =>
  rw [hb,cond_true] at hl
  injection hl with hl
  subst hl
  rw [← Nat.eq_of_beq_eq_true hb]
  exact h
 | false =>
  rw [hb,cond_false] at hl
  exact hs.sl t' v' hl
theorem St.obj {R B:Nat → Prop} {g:Nat → GS} {a:Act} {w:World} (hs:St P C σ m R B g a w) {n:Nat} {o0 o:Ob} (h0:lk m n = some o0) (h:RO P w R B g n o):St P C σ ((n,o) :: m) R B g a w:=by
 refine { hs with ob:=?_,ow:=?_ }
 ·intro n' o' hl
  change (bif Nat.beq n n' then some o else lk m n') = some o' at hl
  cases hb:Nat.beq n n' with
  | true =>
   rw [hb,cond_true] at hl
   injection hl with hl
   subst hl
   rw [← Nat.eq_of_beq_eq_true hb]
   exact h
  | false =>
   rw [hb,cond_false] at hl
   exact hs.ob n' o' hl
 ·intro n' o' b hl hg
  change (bif Nat.beq n n' then some o else lk m n') = some o' at hl
  cases hb:Nat.beq n n' with
  | true =>
   have:=Nat.eq_of_beq_eq_true hb
   subst this
   exact hs.ow n o0 b h0 hg
  | false =>
   rw [hb,cond_false] at hl
   exact hs.ow n' o' b hl hg
theorem aU.je (t:Nat) {x:CV} (h:lk σ t = some (Cc x)):aU P C σ m ((t,Cc .junk) :: σ) m:=fun R B g a w hs =>
 ⟨R,B,g,hs.slot (v:=Cc .junk) (RC.junk (x:=x) (hs.sl t _ h))⟩
def qG:List PV → List PV → Prop
 | [],[] => True
 | p :: r,p' :: r' => QW p p' ∧ qG r r'
 | _,_ => False
theorem qG.get:∀ {l l':List PV},qG l l' → l'.length = l.length ∧ ∀ (k:Nat) p p',l[k]? = some p → l'[k]? = some p' → QW p p'
 | [],[],_ => ⟨rfl,fun k p p' h => by simp at h⟩
 | p :: r,p' :: r',h => by
  obtain ⟨h1,h2⟩:=qG.get h.2
  refine ⟨by simp [h1],fun k x x' hx hx' => ?_⟩
  cases k with
  | zero =>
   simp at hx hx'
   subst hx
   subst hx'
   exact h.1
  | succ k => exact h2 k x x' (by simpa using hx) (by simpa using hx')
 | [],_ :: _,h => h.elim
 | _ :: _,[],h => h.elim
theorem QW.zI {α:Type} {enc enc':α → List PV} (h:∀ a,qG (enc a) (enc' a)) {q q':Bool} (hq:q' = true → q = true) (xs:List α):QW (.xs q (xs.map enc)) (.xs q' (xs.map enc')):=by
 refine .xs hq (by simp) (fun j cs cs' h1 h2 => ?_) (fun j k cs cs' p p' h1 h2 h3 h4 => ?_)
 ·rw [List.getElem?_map] at h1 h2
  cases hx:xs[j]? with
  | none => rw [hx] at h1; cases h1
  | some a =>
   rw [hx] at h1 h2
   injection h1 with h1
   injection h2 with h2
   subst h1
   subst h2
   exact (h a).get.1
 ·rw [List.getElem?_map] at h1 h2
  cases hx:xs[j]? with
  | none => rw [hx] at h1; cases h1
  | some a =>
   rw [hx] at h1 h2
   injection h1 with h1
   injection h2 with h2
   subst h1
   subst h2
   exact (h a).get.2 k p p' h3 h4
theorem JE {α:Type} {enc:α → List PV} (h:∀ a,nI (enc a)) (xs:List α):aX (.xs true (xs.map enc)):=.xs fun cs hcs p hp => by
 obtain ⟨a,_,rfl⟩:=List.mem_map.1 hcs
 exact (h a).spec p hp
theorem St.freeze {R B:Nat → Prop} {g:Nat → GS} {a:Act} {w:World} (hs:St P C σ m R B g a w) {n:Nat} {e:TypeId} {els:List (List PV)} (ho:lk m n = some (.bZ e els)) (hn:n ∉ C.pn) (hU:∀ b,C.U0 b → ∃ k ∈ C.pn,(C.g0 k).has b) :
  ∃ R' B' g',dK R B g w [] [n] R' B' g' w ∧ St P C (iI [n] σ) (fE [n] m) R' B' g' a w ∧ ∀ v,RC P w R B g (.loc n 0 els.length) v → eH w R' B' (.xs true els) v:=by
 have hro:bJ P w R B g n e (bf els):=hs.ob n _ ho
 have hw:=hs.wf
 let R':Nat → Prop:=fun b => R b ∨ (g n).has b
 let B':Nat → Prop:=fun b => B b ∨ (g n).has b
 have hne:∀ k,k ≠ n → upd g n .dead k = g k:=fun k hk => upd_ne g _ hk
 have hwf:WF R' B' (upd g n .dead) w:=by
  have h0:=hw.upd n .dead (w':=w) (Nat.le_refl _) (fun b hb => hb.elim) (fun i j b hi => by cases hi)
  refine ⟨fun b hb => hb.imp (hw.rb b) id,fun b hb => hb.elim (hw.lt b) fun h => (hw.eP n b h).2,fun k b hk => ⟨fun hB => ?_,(h0.eP k b hk).2⟩,h0.fC,h0.nd⟩
  rcases hB with hB | hB
  ·exact (h0.eP k b hk).1 hB
  ·by_cases hkn:k = n
   ·subst hkn; rw [upd_same] at hk; exact hk.elim
   ·rw [hne k hkn] at hk
    exact hkn (hw.fC k n b hk hB)
 have had:dK R B g w [] [n] R' B' (upd g n .dead) w:=by
  refine ⟨hwf,fun _ h => .inl h,fun _ h => .inl h,rfl,rfl,rfl,Nat.le_refl _,fun _ _ _ => rfl,fun k hk => hne k (by simpa using hk),fun k hk b hb => ?_,fun k hk => by cases hk⟩
  have:k = n:=by simpa using hk
  subst this
  rw [upd_same] at hb
  exact hb.elim
 refine ⟨R',B',upd g n .dead,had,?_,fun v hv => ?_⟩
 ·refine { hs with wf:=hwf,sl:=?_,ob:=?_,ow:=?_,perm:=?_,r0:=?_,pin:=?_ }
  ·intro t v hl
   rw [uO] at hl
   cases hv:lk σ t with
   | none => rw [hv] at hl; cases hl
   | some u =>
    rw [hv] at hl
    injection hl with hl
    subst hl
    exact had.ra hw (hs.sl t u hv)
  ·intro k o hl
   obtain ⟨hk,o0,h0,rfl⟩:=uN [n] m k o hl
   exact had.ro hw hk (by simp) (hs.ob k o0 h0)
  ·intro k o b hl hg
   obtain ⟨hk,o0,h0,_⟩:=uN [n] m k o hl
   rw [hne k (by simpa using hk)] at hg
   exact hs.ow k o0 b h0 hg
  ·intro b hb
   rcases hb with hb | hb
   ·exact hs.perm b hb
   ·rcases hs.ow n _ b ho hb with h | h
    ·exact .inr h
    ·obtain ⟨k,hk,hg⟩:=hU b h
     have:=hw.fC k n b (by rw [hs.pin k hk]; exact hg) hb
     subst this
     exact absurd hk hn
  ·intro b hb
   exact .inl (hs.r0 b hb)
  ·intro k hk
   rw [hne k (fun h => hn (h ▸ hk))]
   exact hs.pin k hk
 ·obtain ⟨_,hv⟩:=hv
  rcases hv with ⟨h1,_,h3,h4⟩ | ⟨_,h2,_⟩ | ⟨b,cap,cur,e',k1,k2,k3,k4,k5,k6⟩
  ·have:els = []:=List.eq_nil_of_length_eq_zero h3
   subst this
   subst h4
   exact .emp
  ·exact absurd rfl h2
  ·rcases hro with ⟨h1,_⟩ | ⟨b',cur',h1,h2,h3,h4,h5⟩
   ·rw [k1] at h1; cases h1
   ·rw [k1] at h1
    injection h1 with h1
    subst h1
    rw [k2] at h2
    injection h2 with h2
    injection h2 with h2 h6 h7
    subst h2
    subst h6
    subst k6
    have hval:∀ j k cs p,els[j]? = some cs → cs[k]? = some p → ∃ u,cur[j * aW P e' + k]? = some u ∧ RC P w R B g (.pv p) u:=fun j k cs p hj hk => by
     have:=h5 j k (cs.map .pv) (.pv p) (by simp [bf,hj]) (by simp [hk])
     exact this
    refine .xs (s:=aW P e') (fun j k => cur.getD (j * aW P e' + k) undef) rfl (.inr (GS.lX k1)) k3 (fun cs hcs => ?_) (fun j k cs p hj hk => ?_) (fun j k cs p hj hk => ?_)
    ·have:=h3 (cs.map .pv) (List.mem_map.2 ⟨cs,hcs,rfl⟩)
     simpa using this
    ·obtain ⟨u,hu,_⟩:=hval j k cs p hj hk
     rw [Nat.zero_mul,add_lit,Nat.zero_add,sJ k2,hu]
     simp [Array.getD_eq_getD_getElem?,hu]
    ·obtain ⟨u,hu,hr⟩:=hval j k cs p hj hk
     have:cur.getD (j * aW P e' + k) undef = u:=by simp [Array.getD_eq_getD_getElem?,hu]
     rw [this]
     exact (had.rc hw (x:=.pv p) hr).2
section
variable {α:Type} {enc:α → List PV}
end
end
end
section
def oZ (p k m:Nat):CV → CV
 | .loc n o l => bif Nat.beq n m then .tl p k o l else .loc n o l
 | .pl n o => bif Nat.beq n m then .tpl p k o else .pl n o
 | x => x
def wL (p k m:Nat):SV → SV
 | .c x => .c (oZ p k m x)
 | .agg cs => .agg (cs.map (oZ p k m))
def rE (p k m:Nat):AV → AV
 | .s x => .s (wL p k m x)
 | .bV xs => .bV (xs.map (wL p k m))
def qM (p m:Nat):CV → Bool
 | .loc n _ _ => Nat.beq n m || ![m,p].elem n
 | .pl n _ => Nat.beq n m || ![m,p].elem n
 | x => dS [m,p] x
def zn (p m:Nat):SV → Bool
 | .c x => qM p m x
 | .agg cs => cs.all (qM p m)
def zi (p m:Nat):AV → Bool
 | .s x => zn p m x
 | .bV xs => xs.all (zn p m)
section
variable {P:Program} {w:World} {R B:Nat → Prop} {g g':Nat → GS} {X:List Nat} {p k m:Nat}
theorem RC.av {x:CV} {v:Value} (hz:dS X x = true) (hg:∀ n,n ∉ X → g' n = g n) (h:RC P w R B g x v):RC P w R B g' x v:=by
 refine ⟨h.1,?_⟩
 have h2:=h.2
 cases x with
 | pv p => exact h2
 | px q cells => exact h2
 | loc n off len =>
  have hn:=hg n (iE (by simpa [dS] using hz))
  rcases h2 with ⟨h3,h4⟩ | h3 | ⟨b,cap,cur,e,h3,h4⟩
  ·exact .inl ⟨hn.trans h3,h4⟩
  ·exact .inr (.inl h3)
  ·exact .inr (.inr ⟨b,cap,cur,e,hn.trans h3,h4⟩)
 | pl n off =>
  obtain ⟨b,h3,h4⟩:=h2
  exact ⟨b,(hg n (iE (by simpa [dS] using hz))).trans h3,h4⟩
 | fn f caps =>
  obtain ⟨vs,h3,h4,h5⟩:=h2
  exact ⟨vs,h3,h4,fun k n hk => by
   obtain ⟨b,h6,h7⟩:=h5 k n hk
   have hc:caps.any X.elem = false:=by simpa [dS] using hz
   have hn:X.elem n = false:=by
    have:=List.any_eq_false.1 hc n (List.mem_of_getElem? hk)
    simpa using this
   exact ⟨b,(hg n (iE hn)).trans h6,h7⟩⟩
 | mref n =>
  obtain ⟨b,h3,h4⟩:=h2
  exact ⟨b,(hg n (iE (by simpa [dS] using hz))).trans h3,h4⟩
 | tl q j off len =>
  have hn:=hg q (iE (by simpa [dS] using hz))
  rcases h2 with ⟨h3,h4⟩ | h3 | ⟨b,cap,cur,e,h3,h4⟩
  ·exact .inl ⟨by rw [hn]; exact h3,h4⟩
  ·exact .inr (.inl h3)
  ·exact .inr (.inr ⟨b,cap,cur,e,by rw [hn]; exact h3,h4⟩)
 | tpl q j off =>
  obtain ⟨b,h3,h4⟩:=h2
  exact ⟨b,by rw [hg q (iE (by simpa [dS] using hz))]; exact h3,h4⟩
 | junk => trivial
theorem RS.av {x:SV} {v:Value} (hz:vP X x = true) (hg:∀ n,n ∉ X → g' n = g n) (h:RS P w R B g x v):RS P w R B g' x v:=by
 cases x with
 | c x => exact RC.av hz hg h
 | agg cs =>
  obtain ⟨vs,h1,h2,h3⟩:=h
  exact ⟨vs,h1,h2,fun k x hk => by
   obtain ⟨u,h4,h5⟩:=h3 k x hk
   exact ⟨u,h4,h5.av (List.all_eq_true.1 hz x (List.mem_of_getElem? hk)) hg⟩⟩
theorem bJ.av {n:Nat} {e:TypeId} {els:List (List CV)} (hn:n ∉ X) (hz:els.all (·.all (dS X)) = true) (hg:∀ n,n ∉ X → g' n = g n) (h:bJ P w R B g n e els):bJ P w R B g' n e els:=by
 rcases h with ⟨h1,h2⟩ | ⟨b,cur,h1,h2,h3,h4,h5⟩
 ·exact .inl ⟨(hg n hn).trans h1,h2⟩
 ·exact .inr ⟨b,cur,(hg n hn).trans h1,h2,h3,h4,fun j k cs x hj hk => by
   obtain ⟨u,h6,h7⟩:=h5 j k cs x hj hk
   exact ⟨u,h6,h7.av (List.all_eq_true.1 (List.all_eq_true.1 hz cs (List.mem_of_getElem? hj)) x (List.mem_of_getElem? hk)) hg⟩⟩
theorem RO.av {n:Nat} {o:Ob} (hn:n ∉ X) (hz:iV X o = true) (hg:∀ n,n ∉ X → g' n = g n) (h:RO P w R B g n o):RO P w R B g' n o:=by
 cases o with
 | row e els => exact bJ.av hn hz hg h
 | bZ e els => exact bJ.av hn (by simp [bf,List.all_eq_true,dS]) hg h
 | mp es =>
  obtain ⟨b,kQ,clock,h1,h2⟩:=h
  exact ⟨b,kQ,clock,(hg n hn).trans h1,h2⟩
 | pool e rows =>
  obtain ⟨⟨bs,h1,h2⟩,h3⟩:=h
  exact ⟨⟨bs,(hg n hn).trans h1,h2⟩,by rw [hg n hn]; exact h3⟩
 | fM e p lens => exact bJ.av hn (List.all_eq_true.2 fun cs hcs => by
   obtain ⟨j,l,rfl⟩:=Ad hcs
   simpa [dS,iV] using hz) hg h
 | ax e p q fs => exact bJ.av hn (List.all_eq_true.2 fun cs hcs => by
   obtain ⟨j,i,a,b,rfl⟩:=yj hcs
   simpa [dS,iV] using hz) hg h
 | unk => trivial
theorem RC.fo {x:CV} {v:Value} (hz:qM p m x = true) (h1:g' m = (g p).at k) (hg:∀ n,n ∉ [m,p] → g' n = g n) (h:RC P w R B g (oZ p k m x) v):RC P w R B g' x v:=by
 cases x with
 | loc n off len =>
  simp only [oZ] at h
  cases hb:Nat.beq n m with
  | true =>
   rw [hb,cond_true] at h
   have:=Nat.eq_of_beq_eq_true hb
   subst this
   refine ⟨h.1,?_⟩
   rcases h.2 with ⟨h3,h4⟩ | h3 | ⟨b,cap,cur,e,h3,h4⟩
   ·exact .inl ⟨h1.trans h3,h4⟩
   ·exact .inr (.inl h3)
   ·exact .inr (.inr ⟨b,cap,cur,e,h1.trans h3,h4⟩)
  | false =>
   rw [hb,cond_false] at h
   simp only [qM] at hz
   rw [hb,Bool.false_or] at hz
   exact RC.av (X:=[m,p]) hz hg h
 | pl n off =>
  simp only [oZ] at h
  cases hb:Nat.beq n m with
  | true =>
   rw [hb,cond_true] at h
   have:=Nat.eq_of_beq_eq_true hb
   subst this
   obtain ⟨b,h3,h4⟩:=h.2
   exact ⟨h.1,b,h1.trans h3,h4⟩
  | false =>
   rw [hb,cond_false] at h
   simp only [qM] at hz
   rw [hb,Bool.false_or] at hz
   exact RC.av (X:=[m,p]) hz hg h
 | _ => exact RC.av (X:=[m,p]) hz hg h
theorem RC.bk {x:CV} {v:Value} (hz:qM p m x = true) (h1:(g' p).at k = g m) (hg:∀ n,n ∉ [m,p] → g' n = g n) (h:RC P w R B g x v):RC P w R B g' (oZ p k m x) v:=by
 cases x with
 | loc n off len =>
  simp only [oZ]
  cases hb:Nat.beq n m with
  | true =>
   rw [cond_true]
   have:=Nat.eq_of_beq_eq_true hb
   subst this
   refine ⟨h.1,?_⟩
   rcases h.2 with ⟨h3,h4⟩ | h3 | ⟨b,cap,cur,e,h3,h4⟩
   ·exact .inl ⟨h1.trans h3,h4⟩
   ·exact .inr (.inl h3)
   ·exact .inr (.inr ⟨b,cap,cur,e,h1.trans h3,h4⟩)
  | false =>
   rw [cond_false]
   simp only [qM] at hz
   rw [hb,Bool.false_or] at hz
   exact RC.av (X:=[m,p]) hz hg h
 | pl n off =>
  simp only [oZ]
  cases hb:Nat.beq n m with
  | true =>
   rw [cond_true]
   have:=Nat.eq_of_beq_eq_true hb
   subst this
   obtain ⟨b,h3,h4⟩:=h.2
   exact ⟨h.1,b,h1.trans h3,h4⟩
  | false =>
   rw [cond_false]
   simp only [qM] at hz
   rw [hb,Bool.false_or] at hz
   exact RC.av (X:=[m,p]) hz hg h
 | _ => exact RC.av (X:=[m,p]) hz hg h
theorem RS.fo {x:SV} {v:Value} (hz:zn p m x = true) (h1:g' m = (g p).at k) (hg:∀ n,n ∉ [m,p] → g' n = g n) (h:RS P w R B g (wL p k m x) v):RS P w R B g' x v:=by
 cases x with
 | c x => exact RC.fo hz h1 hg h
 | agg cs =>
  obtain ⟨vs,h2,h3,h4⟩:=h
  refine ⟨vs,h2,by simpa using h3,fun j x hj => ?_⟩
  obtain ⟨u,h5,h6⟩:=h4 j (oZ p k m x) (by rw [List.getElem?_map,hj]; rfl)
  exact ⟨u,h5,h6.fo (List.all_eq_true.1 hz x (List.mem_of_getElem? hj)) h1 hg⟩
theorem RA.fo {x:AV} {v:Value} (hz:zi p m x = true) (h1:g' m = (g p).at k) (hg:∀ n,n ∉ [m,p] → g' n = g n) (h:RA P w R B g (rE p k m x) v):RA P w R B g' x v:=by
 cases x with
 | s x => exact RS.fo hz h1 hg h
 | bV cs =>
  obtain ⟨vs,h2,h3,h4⟩:=h
  refine ⟨vs,h2,by simpa using h3,fun j x hj => ?_⟩
  obtain ⟨u,h5,h6⟩:=h4 j (wL p k m x) (by rw [List.getElem?_map,hj]; rfl)
  exact ⟨u,h5,RS.fo (List.all_eq_true.1 hz x (List.mem_of_getElem? hj)) h1 hg h6⟩
theorem RS.bk {x:SV} {v:Value} (hz:zn p m x = true) (h1:(g' p).at k = g m) (hg:∀ n,n ∉ [m,p] → g' n = g n) (h:RS P w R B g x v):RS P w R B g' (wL p k m x) v:=by
 cases x with
 | c x => exact RC.bk hz h1 hg h
 | agg cs =>
  obtain ⟨vs,h2,h3,h4⟩:=h
  refine ⟨vs,h2,by simpa using h3,fun j x hj => ?_⟩
  rw [List.getElem?_map] at hj
  cases hc:cs[j]? with
  | none => rw [hc] at hj; cases hj
  | some y =>
   rw [hc] at hj
   injection hj with hj
   subst hj
   obtain ⟨u,h5,h6⟩:=h4 j y hc
   exact ⟨u,h5,h6.bk (List.all_eq_true.1 hz y (List.mem_of_getElem? hc)) h1 hg⟩
theorem RA.bk {x:AV} {v:Value} (hz:zi p m x = true) (h1:(g' p).at k = g m) (hg:∀ n,n ∉ [m,p] → g' n = g n) (h:RA P w R B g x v):RA P w R B g' (rE p k m x) v:=by
 cases x with
 | s x => exact RS.bk hz h1 hg h
 | bV cs =>
  obtain ⟨vs,h2,h3,h4⟩:=h
  refine ⟨vs,h2,by simpa using h3,fun j x hj => ?_⟩
  rw [List.getElem?_map] at hj
  cases hc:cs[j]? with
  | none => rw [hc] at hj; cases hj
  | some y =>
   rw [hc] at hj
   injection hj with hj
   subst hj
   obtain ⟨u,h5,h6⟩:=h4 j y hc
   exact ⟨u,h5,RS.bk (List.all_eq_true.1 hz y (List.mem_of_getElem? hc)) h1 hg h6⟩
theorem kM.of {n:Nat} {e:TypeId} {els:List (List PV)} (h:bJ P w R B g n e (bf els)):kM P w R B (g n) e els:=by
 rcases h with ⟨h1,h2⟩ | ⟨b,cur,h1,h2,h3,h4,h5⟩
 ·exact .inl ⟨h1,by simpa [bf] using h2⟩
 ·refine .inr ⟨b,cur,h1,h2,fun cs hcs => ?_,by simpa [bf] using h4,fun j k cs x hj hk => ?_⟩
  ·have:=h3 (cs.map .pv) (List.mem_map.2 ⟨cs,hcs,rfl⟩)
   simpa using this
  ·obtain ⟨u,hu,hr⟩:=h5 j k (cs.map .pv) (.pv x) (by simp [bf,hj]) (by simp [hk])
   exact ⟨u,hu,hr.2⟩
theorem kM.row {n:Nat} {s:GS} {e:TypeId} {els:List (List PV)} (h:kM P w R B s e els) (hn:g n = s):bJ P w R B g n e (bf els):=by
 rcases h with ⟨h1,h2⟩ | ⟨b,cur,h1,h2,h3,h4,h5⟩
 ·exact .inl ⟨hn.trans h1,by rw [h2]; rfl⟩
 ·refine .inr ⟨b,cur,hn.trans h1,h2,fun cs hcs => ?_,by simpa [bf] using h4,fun j k cs x hj hk => ?_⟩
  ·obtain ⟨c0,hc0,rfl⟩:=List.mem_map.1 hcs
   simpa using h3 c0 hc0
  ·simp only [bf,List.getElem?_map] at hj
   cases hc:els[j]? with
   | none => rw [hc] at hj; cases hj
   | some c0 =>
    rw [hc] at hj
    injection hj with hj
    subst hj
    rw [List.getElem?_map] at hk
    cases hc2:c0[k]? with
    | none => rw [hc2] at hk; cases hk
    | some y =>
     rw [hc2] at hk
     injection hk with hk
     subst hk
     obtain ⟨u,hu,hr⟩:=h5 j k c0 y hc hc2
     exact ⟨u,hu,hr.oneCell,hr⟩
def GS.hole (s:GS) (k:Nat):GS:=match s with
 | .pool bs => .pool (bs.set k none)
 | s => s
theorem GS.xB {s:GS} {k j:Nat} (h:j ≠ k):(s.hole k).at j = s.at j:=by
 cases s with
 | pool bs => simp only [GS.hole,GS.at,List.getElem?_set_ne (fun e => h e.symm)]
 | _ => rfl
theorem GS.DF {s:GS} {k b:Nat} (h:(s.hole k).at k = .blk b):False:=by
 cases s with
 | pool bs =>
  simp only [GS.hole,GS.at,List.getElem?_set] at h
  split at h
  ·rename_i o b2 hb
   by_cases hl:k < bs.length <;> simp [hl] at hb
  ·cases h
  ·cases h
 | _ => cases h
theorem GS.D7 {s:GS} {bs:List (Option Nat)} (hs:s = .pool bs) {b:Nat} (h:s.has b):∃ j,s.at j = .blk b:=by
 subst hs
 obtain ⟨j,hj⟩:=List.mem_iff_getElem?.1 (show some b ∈ bs from h)
 exact ⟨j,by simp only [GS.at,hj]⟩
theorem GS.Oq {s:GS} {bs:List (Option Nat)} (hs:s = .pool bs) {k b:Nat} (h:(s.hole k).has b):s.has b ∧ ∃ j,j ≠ k ∧ s.at j = .blk b:=by
 obtain ⟨j,hj⟩:=GS.D7 (s:=s.hole k) (bs:=bs.set k none) (by rw [hs]; rfl) h
 have hne:j ≠ k:=fun e => by rw [e] at hj; exact GS.DF hj
 rw [GS.xB hne] at hj
 exact ⟨GS.kS hj,j,hne,hj⟩
theorem GS.Gz {s:GS} {bs:List (Option Nat)} (hs:s = .pool bs) {k b:Nat} (h:s.has b):(s.hole k).has b ∨ s.at k = .blk b:=by
 obtain ⟨j,hj⟩:=GS.D7 hs h
 by_cases hk:j = k
 ·subst hk; exact .inr hj
 ·left
  rw [← GS.xB (k:=k) hk] at hj
  exact GS.kS hj
def mF (p k m:Nat) (g:Nat → GS):Nat → GS:=fun n => if n = m then (g p).at k else if n = p then (g p).hole k else g n
theorem rO:mF p k m g m = (g p).at k:=if_pos rfl
theorem wS (h:p ≠ m):mF p k m g p = (g p).hole k:=by unfold mF; rw [if_neg h,if_pos rfl]
theorem tZ {n:Nat} (h:n ∉ [m,p]):mF p k m g n = g n:=by
 unfold mF
 rw [if_neg fun e => h (by simp [e]),if_neg fun e => h (by simp [e])]
theorem GS.Kw {s:GS} {k b:Nat} (h:(s.at k).has b):s.at k = .blk b:=by
 cases s with
 | pool bs =>
  simp only [GS.at] at h ⊢
  cases hb:bs[k]? with
  | none => rw [hb] at h; exact h.elim
  | some o =>
   rw [hb] at h
   cases o with
   | none => exact h.elim
   | some c =>
    have:b = c:=h
    rw [this]
 | _ => exact h.elim
theorem GS.at_at {s:GS} {k j b:Nat} (h:(s.at k).at j = .blk b):False:=by
 cases s with
 | pool bs =>
  simp only [GS.at] at h
  cases hb:bs[k]? with
  | none => rw [hb] at h; cases h
  | some o => rw [hb] at h; cases o <;> cases h
 | _ => cases h
theorem zk (hw:WF R B g w) {bs:List (Option Nat)} (hs:g p = .pool bs) (hp:p ≠ m) {n b:Nat} (h:(mF p k m g n).has b):(n = m ∧ (g p).at k = .blk b) ∨ (n = p ∧ ∃ j,j ≠ k ∧ (g p).at j = .blk b) ∨ (n ∉ [m,p] ∧ (g n).has b):=by
 by_cases h1:n = m
 ·subst h1
  rw [rO] at h
  exact .inl ⟨rfl,GS.Kw h⟩
 ·by_cases h2:n = p
  ·subst h2
   rw [wS hp] at h
   exact .inr (.inl ⟨rfl,(GS.Oq hs h).2⟩)
  ·have:n ∉ [m,p]:=by simp [h1,h2]
   rw [tZ this] at h
   exact .inr (.inr ⟨this,h⟩)
theorem zl (hw:WF R B g w) {bs:List (Option Nat)} (hs:g p = .pool bs) (hp:p ≠ m):WF R B (mF p k m g) w:=by
 refine ⟨hw.rb,hw.lt,fun n b h => ?_,fun n j b h1 h2 => ?_,fun n i j b h1 h2 => ?_⟩
 ·rcases zk hw hs hp h with ⟨_,h⟩ | ⟨_,j,_,h⟩ | ⟨_,h⟩
  ·exact hw.eP p b (GS.kS h)
  ·exact hw.eP p b (GS.kS h)
  ·exact hw.eP n b h
 ·rcases zk hw hs hp h1 with ⟨rfl,h3⟩ | ⟨rfl,i,hi,h3⟩ | ⟨hn,h3⟩ <;> rcases zk hw hs hp h2 with ⟨rfl,h4⟩ | ⟨rfl,i2,hi2,h4⟩ | ⟨hj,h4⟩
  ·rfl
  ·exact absurd (hw.nd _ _ _ b h4 h3) hi2
  ·have:=hw.fC p j b (GS.kS h3) h4
   subst this
   exact absurd (by simp) hj
  ·exact absurd (hw.nd _ _ _ b h3 h4) hi
  ·rfl
  ·have:=hw.fC n j b (GS.kS h3) h4
   subst this
   exact absurd (by simp) hj
  ·have:=hw.fC p n b (GS.kS h4) h3
   subst this
   exact absurd (by simp) hn
  ·have:=hw.fC j n b (GS.kS h4) h3
   subst this
   exact absurd (by simp) hn
  ·exact hw.fC n j b h3 h4
 ·by_cases e1:n = m
  ·subst e1
   rw [rO] at h1
   exact (GS.at_at h1).elim
  ·by_cases e2:n = p
   ·subst e2
    rw [wS hp] at h1 h2
    by_cases hi:i = k
    ·subst hi; exact (GS.DF h1).elim
    ·by_cases hj:j = k
     ·subst hj; exact (GS.DF h2).elim
     ·rw [GS.xB hi] at h1
      rw [GS.xB hj] at h2
      exact hw.nd _ _ _ b h1 h2
   ·have:n ∉ [m,p]:=by simp [e1,e2]
    rw [tZ this] at h1 h2
    exact hw.nd _ _ _ b h1 h2
def qm (p m:Nat) (g g':Nat → GS):Nat → GS:=fun n => if n = m then .dead else if n = p then g p else g' n
theorem Jz:qm p m g g' m = .dead:=if_pos rfl
theorem vk (h:p ≠ m):qm p m g g' p = g p:=by unfold qm; rw [if_neg h,if_pos rfl]
theorem zG {n:Nat} (h:n ∉ [m,p]):qm p m g g' n = g' n:=by
 unfold qm
 rw [if_neg fun e => h (by simp [e]),if_neg fun e => h (by simp [e])]
def mX (m p n:Nat):Nat:=bif Nat.beq n m then p else n
theorem Sl (hw:WF R B g w) {bs:List (Option Nat)} (hs:g p = .pool bs) (hp:p ≠ m) {W X:List Nat} {R' B':Nat → Prop} {w':World} (had:dK R B (mF p k m g) w W X R' B' g' w') (zx:p ∉ W) (xC:p ∉ X) (xA:m ∉ X) :
  dK R B g w (W.map (mX m p)) (m :: X) R' B' (qm p m g g') w':=by
 have hgm:g' m = (g p).at k:=(had.names m xA).trans rO
 have C9:g' p = (g p).hole k:=(had.names p xC).trans (wS hp)
 have hcase:∀ n b,(qm p m g g' n).has b → (n = p ∧ ((g' p).has b ∨ (g' m).has b)) ∨ (n ∉ [m,p] ∧ (g' n).has b):=fun n b h => by
  by_cases e1:n = m
  ·subst e1; rw [Jz] at h; exact h.elim
  ·by_cases e2:n = p
   ·subst e2
    rw [vk hp] at h
    refine .inl ⟨rfl,?_⟩
    rcases GS.Gz (k:=k) hs h with h | h
    ·exact .inl (by rw [C9]; exact h)
    ·exact .inr (by rw [hgm,h]; rfl)
   ·have:n ∉ [m,p]:=by simp [e1,e2]
    rw [zG this] at h
    exact .inr ⟨this,h⟩
 have hW:∀ n ∈ W,∀ b,(mF p k m g n).has b → (g (mX m p n)).has b:=fun n hn b h => by
  rcases zk hw hs hp h with ⟨rfl,h'⟩ | ⟨rfl,_⟩ | ⟨hnn,h'⟩
  ·have:mX n p n = p:=by unfold mX; rw [Nat.beq_refl]; rfl
   rw [this]
   exact GS.kS h'
  ·exact absurd hn zx
  ·have:mX m p n = n:=by
    unfold mX
    have:Nat.beq n m = false:=by
     cases hb:Nat.beq n m with
     | false => rfl
     | true => exact absurd (by simp [Nat.eq_of_beq_eq_true hb]) hnn
    rw [this]; rfl
   rw [this]
   exact h'
 have Nu:∀ n ∈ W.map (mX m p),n ∉ m :: X → ∀ b,(g n).has b → ∃ j,j ∉ X ∧ (mF p k m g j).has b:=fun n hn lI b hb => by
  obtain ⟨j,hj,rfl⟩:=List.mem_map.1 hn
  by_cases e:mX m p j = p
  ·rw [e] at hb
   rcases GS.Gz (k:=k) hs hb with h | h
   ·exact ⟨p,xC,by rw [wS hp]; exact h⟩
   ·exact ⟨m,xA,by rw [rO,h]; rfl⟩
  ·have ej:mX m p j = j:=by
    unfold mX at e ⊢
    cases hb2:Nat.beq j m with
    | false => rfl
    | true => rw [hb2] at e; exact absurd rfl e
   rw [ej] at hb lI e
   have hnn:j ∉ [m,p]:=by
    simp only [List.mem_cons,List.not_mem_nil,or_false,not_or] at lI ⊢
    exact ⟨lI.1,e⟩
   exact ⟨j,fun h => lI (List.mem_cons_of_mem _ h),by rw [tZ hnn]; exact hb⟩
 have hfw:=zl (k:=k) hw hs hp
 refine ⟨⟨had.wf.rb,had.wf.lt,fun n b h => ?_,fun n j b h1 h2 => ?_,fun n i j b h1 h2 => ?_⟩,had.r,had.b,had.os,had.tape,had.output,had.size,fun b hb iD => had.heap b hb fun n hn h => iD _ (List.mem_map.2 ⟨n,hn,rfl⟩) (hW n hn b h),fun n hn => ?_,fun n hn b hb => ?_,fun n iD lI b cur e hg hh => ?_⟩
 ·rcases hcase n b h with ⟨_,h | h⟩ | ⟨_,h⟩ <;> exact had.wf.eP _ b h
 ·have key:∀ n j,n = p → j ∉ [m,p] → ((g' p).has b ∨ (g' m).has b) → (g' j).has b → False:=fun n j _ hj h1 h2 => by
   rcases h1 with h1 | h1
   ·have:=had.wf.fC _ _ b h1 h2; subst this; exact hj (by simp)
   ·have:=had.wf.fC _ _ b h1 h2; subst this; exact hj (by simp)
  rcases hcase n b h1 with ⟨e1,h3⟩ | ⟨hn,h3⟩ <;> rcases hcase j b h2 with ⟨e2,h4⟩ | ⟨hj,h4⟩
  ·rw [e1,e2]
  ·exact (key n j e1 hj h3 h4).elim
  ·exact (key j n e2 hn h4 h3).elim
  ·exact had.wf.fC n j b h3 h4
 ·by_cases e1:n = m
  ·subst e1; rw [Jz] at h1; cases h1
  ·by_cases e2:n = p
   ·subst e2
    rw [vk hp] at h1 h2
    exact hw.nd _ _ _ b h1 h2
   ·have:n ∉ [m,p]:=by simp [e1,e2]
    rw [zG this] at h1 h2
    exact had.wf.nd _ _ _ b h1 h2
 ·simp only [List.mem_cons,not_or] at hn
  by_cases e2:n = p
  ·subst e2; exact vk hp
  ·have:n ∉ [m,p]:=by simp [hn.1,e2]
   rw [zG this,had.names n hn.2,tZ this]
 ·rcases hcase n b hb with ⟨e,_⟩ | ⟨hnn,h⟩
  ·subst e
   rcases List.mem_cons.1 hn with h | h
   ·exact absurd h hp
   ·exact absurd h xC
  ·have lI:n ∈ X:=by
    rcases List.mem_cons.1 hn with h | h
    ·subst h; exact absurd (by simp) hnn
    ·exact h
   rcases had.fresh n lI b h with h | ⟨j,hj,h⟩
   ·exact .inl h
   ·exact .inr ⟨_,List.mem_map.2 ⟨j,hj,rfl⟩,hW j hj b h⟩
 ·obtain ⟨j,Ol,hj⟩:=Nu n iD lI b hg
  exact had.Ai hfw Ol hj hh
def CQ (p m:Nat) (ins:List (Operand × AV)) (pW:Mem) (v:AV) (og:Mem) (W X:List Nat):Bool :=
 !Nat.beq p m && ins.all (fun q => zi p m q.2) && pW.all (fun q => ![m,p].elem q.1 && iV [m,p] q.2) && zi p m v && og.all (fun q => ![m,p].elem q.1 && iV [m,p] q.2) && !W.elem p && !X.elem p && !X.elem m
theorem LT.focus {o:Oper} {ins:List (Operand × AV)} {pW og:Mem} {v:AV} {W X:List Nat} {e:TypeId} {els els':List (List PV)} {rows:List (List (List PV))}
  (h:LT P o ins ((m,.bZ e els) :: pW) v ((m,.bZ e els') :: og) W X) (hk:rows[k]? = some els) (hc:CQ p m ins pW v og W X = true) :
  LT P o (ins.map fun q => (q.1,rE p k m q.2)) ((p,.pool e rows) :: pW) (rE p k m v) ((p,.pool e (rows.set k els')) :: og) (W.map (mX m p)) (m :: X):=by
 simp only [CQ,Bool.and_eq_true,Bool.not_eq_true'] at hc
 obtain ⟨⟨⟨⟨⟨⟨⟨hp,hins⟩,hus⟩,hv⟩,hdf⟩,hW⟩,Ny⟩,Nw⟩:=hc
 have hp:=Nat.ne_of_beq_eq_false hp
 have zx:=iE hW
 have xC:=iE Ny
 have xA:=iE Nw
 intro R B g w a hw hi hu K Q hK
 obtain ⟨⟨bs,hs,hbl⟩,hrows⟩:=hu (p,.pool e rows) List.mem_cons_self
 refine h R B (mF p k m g) w a (zl hw hs hp) (fun q hq => ?_) (fun q hq => ?_) K Q fun u R' B' g' w' had hR hv' hob => ?_
 ·exact RA.fo (List.all_eq_true.1 hins q hq) rO (fun n hn => tZ hn) (hi (q.1,rE p k m q.2) (List.mem_map.2 ⟨q,hq,rfl⟩))
 ·cases hq with
  | head => exact (hrows k els hk).row rO
  | tail _ hq =>
   have h1:=List.all_eq_true.1 hus q hq
   simp only [Bool.and_eq_true,Bool.not_eq_true'] at h1
   exact RO.av (iE h1.1) h1.2 (fun n hn => tZ hn) (hu q (List.mem_cons_of_mem _ hq))
 ·have hgm:g' m = (g p).at k:=(had.names m xA).trans rO
  have wY:=Sl hw hs hp had zx xC xA
  refine hK u R' B' _ w' wY hR (fun hd => RA.bk hv (by rw [vk hp]; exact hgm.symm) (fun n hn => zG hn) (hv' hd)) fun q hq => ?_
  cases hq with
  | head =>
   refine ⟨⟨bs,(vk hp).trans hs,by simpa using hbl⟩,fun j dM hj => ?_⟩
   show kM P w' R' B' ((qm p m g g' p).at j) e dM
   rw [vk hp]
   rw [List.getElem?_set] at hj
   by_cases hjk:k = j
   ·subst hjk
    rw [if_pos rfl] at hj
    split at hj
    ·injection hj with hj
     subst hj
     have:=kM.of (hob (m,.bZ e els') List.mem_cons_self)
     rw [← hgm]
     exact this
    ·cases hj
   ·rw [if_neg hjk] at hj
    rcases hrows j dM hj with h1 | ⟨b,cur,h1,h2,h3,h4,h5⟩
    ·exact .inl h1
    ·have hb:(mF p k m g p).has b:=by
      rw [wS hp]
      exact GS.kS (k:=j) (by rw [GS.xB (fun e => hjk e.symm)]; exact h1)
     refine .inr ⟨b,cur,h1,(had.eP (zl hw hs hp) zx hb).trans h2,h3,h4,fun i k' cs x hi hk' => ?_⟩
     obtain ⟨u,hu1,hu2⟩:=h5 i k' cs x hi hk'
     exact ⟨u,hu1,had.pv (zl hw hs hp) hu2⟩
  | tail _ hq =>
   have h1:=List.all_eq_true.1 hdf q hq
   simp only [Bool.and_eq_true,Bool.not_eq_true'] at h1
   exact RO.av (iE h1.1) h1.2 (fun n hn => zG hn) (hob q (List.mem_cons_of_mem _ hq))
end
end
section
section
variable {P:Program} {o:Oper} {α:Type} {enc:α → List PV}
def rowsOf {α:Type} (enc:α → List PV) (rows:List (List α)):List (List (List PV)):=rows.map fun r => r.map enc
end
end
section
section
variable {P:Program} {C:Ctx} {σ:Slots} {mm:Mem}
def KW (p k m:Nat) (x x2:CV):Prop:=(∃ o l,x = .loc m o l ∧ x2 = .tl p k o l) ∨ (x2 = x ∧ ((∃ q o l,q ≠ k ∧ x = .tl p q o l) ∨ dS [m,p] x = true))
def Iu:Option Nat → GS
 | some b => .blk b
 | none => .nil
theorem aU.KX {k n m p:Nat} {e e2:TypeId} {els:List (List PV)} {rows vZ:List (List (List PV))} {cells cells2:List (List CV)}
  (hm:lk mm m = some (.bZ e2 els)) (hp:lk mm p = some (.pool e2 rows)) (hn:lk mm n = some (.row e cells))
  (hd:(!Nat.beq p m && !Nat.beq n p && !Nat.beq n m && !C.pn.elem m && !C.pn.elem p) = true)
  (hbs:∀ (bs:List (Option Nat)) ob,bs.length = rows.length → ∃ qJ:List (Option Nat),qJ.length = vZ.length ∧ ∀ j,(GS.pool qJ).at j = if j = k then Iu ob else (GS.pool bs).at j)
  (hr2:∀ (j:Nat) dM,vZ[j]? = some dM → (j = k ∧ dM = els) ∨ (j ≠ k ∧ rows[j]? = some dM))
  (hl:cells2.length = cells.length) (hc:∀ (j:Nat) cs2,cells2[j]? = some cs2 → ∃ cs,cells[j]? = some cs ∧ cs2.length = cs.length ∧ ∀ (i:Nat) x2,cs2[i]? = some x2 → ∃ x,cs[i]? = some x ∧ KW p k m x x2) :
  aU P C σ mm (iI [m,p] σ) ((p,.pool e2 vZ) :: (n,.row e cells2) :: fE [m,p] mm):=fun R B g a w hs => by
 simp only [Bool.and_eq_true,Bool.not_eq_true'] at hd
 obtain ⟨⟨⟨⟨hpm,hnp⟩,hnm⟩,hm1⟩,hp1⟩:=hd
 have hpm:=Nat.ne_of_beq_eq_false hpm
 have hnp:=Nat.ne_of_beq_eq_false hnp
 have hnm:=Nat.ne_of_beq_eq_false hnm
 have hm1:=iE hm1
 have hp1:=iE hp1
 have hw:=hs.wf
 have hrm:kM P w R B (g m) e2 els:=kM.of (hs.ob m _ hm)
 obtain ⟨⟨bs,C9,hbl⟩,hrows⟩:=hs.ob p _ hp
 have hrn:bJ P w R B g n e cells:=hs.ob n _ hn
 obtain ⟨ob,hob⟩:∃ ob,g m = Iu ob:=by
  rcases hrm with ⟨h1,_⟩ | ⟨b,_,h1,_⟩
  ·exact ⟨none,h1⟩
  ·exact ⟨some b,h1⟩
 obtain ⟨qJ,OD,hat⟩:=hbs bs ob hbl
 have hat':∀ j,(GS.pool qJ).at j = if j = k then g m else (g p).at j:=fun j => by rw [hat j,hob,C9]
 have hhas:∀ b,(GS.pool qJ).has b → (g p).has b ∨ (g m).has b:=fun b hb => by
  obtain ⟨j,hj⟩:=GS.D7 rfl hb
  rw [hat' j] at hj
  split at hj
  ·exact .inr (GS.lX hj)
  ·exact .inl (GS.kS hj)
 let g1:Nat → GS:=upd g m .dead
 have PZ:WF R B g1 w:=hw.upd m .dead (Nat.le_refl _) (fun b hb => hb.elim) (fun i j b hi => by cases hi)
 have hg1:∀ q,q ≠ m → g1 q = g q:=fun q hq => upd_ne g _ hq
 let g2:Nat → GS:=upd g1 p (.pool qJ)
 have wz:g2 p = .pool qJ:=upd_same ..
 have Oi:g2 m = .dead:=(upd_ne g1 _ (fun e => hpm e.symm)).trans (upd_same ..)
 have hg2:∀ q,q ≠ m → q ≠ p → g2 q = g q:=fun q h1 h2 => (upd_ne g1 _ h2).trans (hg1 q h1)
 have Dk:WF R B g2 w:=PZ.upd p _ (Nat.le_refl _) (fun b hb => by
  rcases hhas b hb with h | h
  ·refine ⟨(hw.eP p b h).1,(hw.eP p b h).2,fun q hq hq2 => ?_⟩
   by_cases e:q = m
   ·subst e
    have:g1 q = .dead:=upd_same ..
    rw [this] at hq2; exact hq2
   ·rw [hg1 q e] at hq2
    exact hq (hw.fC q p b hq2 h)
  ·refine ⟨(hw.eP m b h).1,(hw.eP m b h).2,fun q hq hq2 => ?_⟩
   by_cases e:q = m
   ·subst e
    have:g1 q = .dead:=upd_same ..
    rw [this] at hq2; exact hq2
   ·rw [hg1 q e] at hq2
    exact e (hw.fC q m b hq2 h)) (fun i j b hi hj => by
  rw [hat' i] at hi
  rw [hat' j] at hj
  split at hi <;> split at hj
  ·omega
  ·exact absurd (hw.fC m p b (GS.lX hi) (GS.kS hj)).symm hpm
  ·exact absurd (hw.fC m p b (GS.lX hj) (GS.kS hi)).symm hpm
  ·exact hw.nd p i j b hi hj)
 have had:dK R B g w [m,p,n] [m,p] R B g2 w:=by
  refine ⟨Dk,fun _ h => h,fun _ h => h,rfl,rfl,rfl,Nat.le_refl _,fun _ _ _ => rfl,fun q hq => ?_,fun q hq b hb => ?_,fun q hq UO b cur e' hg hh => ⟨cur,hh,rfl⟩⟩
  ·simp at hq
   exact hg2 q hq.1 hq.2
  ·have:q = m ∨ q = p:=by simpa using hq
   rcases this with rfl | rfl
   ·rw [Oi] at hb; exact hb.elim
   ·rw [wz] at hb
    rcases hhas b hb with h | h
    ·exact .inr ⟨q,by simp,h⟩
    ·exact .inr ⟨m,by simp,h⟩
 have hst:=hs.step (us:=[(m,.bZ e2 els),(p,.pool e2 rows),(n,.row e cells)]) (df:=[(p,.pool e2 vZ),(n,.row e cells2)]) (W:=[m,p,n]) (X:=[m,p]) (d:=none) (v:=.bV []) (u:=undef) ⟨hm,hp,hn,trivial⟩
  (fun q hq => by
   have:q = m ∨ q = p ∨ q = n:=by simpa using hq
   rcases this with rfl | rfl | rfl
   ·exact ⟨.inl (by simp),_,List.mem_cons_self⟩
   ·exact ⟨.inl (by simp),_,List.mem_cons_of_mem _ List.mem_cons_self⟩
   ·exact ⟨.inr (by simp),_,List.mem_cons_of_mem _ (List.mem_cons_of_mem _ List.mem_cons_self)⟩)
  (fun q hq => by
   have:q = (p,.pool e2 vZ) ∨ q = (n,.row e cells2):=by simpa using hq
   rcases this with rfl | rfl
   ·exact .inl (by simp)
   ·exact .inr (by simp)) rfl (fun q hq => by
   have:q = m ∨ q = p:=by simpa using hq
   rcases this with rfl | rfl
   ·exact hm1
   ·exact hp1) had (fun b hb => .inl hb) (fun h => by cases h) (fun q hq => by
   have:q = (p,.pool e2 vZ) ∨ q = (n,.row e cells2):=by simpa using hq
   rcases this with rfl | rfl
   ·refine ⟨⟨qJ,wz,OD⟩,fun j dM hj => ?_⟩
    show kM P w R B ((g2 p).at j) e2 dM
    rw [wz,hat' j]
    rcases hr2 j dM hj with ⟨h1,h2⟩ | ⟨h1,h2⟩
    ·rw [if_pos h1,h2]; exact hrm
    ·rw [if_neg h1]; exact hrows j dM h2
   ·show bJ P w R B g2 n e cells2
    have hgn:g2 n = g n:=hg2 n hnm hnp
    rcases hrn with ⟨h1,h2⟩ | ⟨b,cur,h1,h2,h3,h4,h5⟩
    ·exact .inl ⟨hgn.trans h1,List.eq_nil_of_length_eq_zero (by rw [hl,h2]; rfl)⟩
    ·refine .inr ⟨b,cur,hgn.trans h1,h2,fun cs2 hcs2 => ?_,by rw [hl]; exact h4,fun j i cs2 x2 hj hi => ?_⟩
     ·obtain ⟨j,hj⟩:=List.mem_iff_getElem?.1 hcs2
      obtain ⟨cs,q1,q2,_⟩:=hc j cs2 hj
      rw [q2]
      exact h3 cs (List.mem_of_getElem? q1)
     ·obtain ⟨cs,q1,_,q3⟩:=hc j cs2 hj
      obtain ⟨x,q4,q5⟩:=q3 i x2 hi
      obtain ⟨u,hu,hr⟩:=h5 j i cs x q1 q4
      refine ⟨u,hu,?_⟩
      rcases q5 with ⟨o,l,rfl,rfl⟩ | ⟨rfl,⟨q,o,l,hq,rfl⟩ | hz⟩
      ·refine ⟨hr.1,?_⟩
       have hk:(g2 p).at k = g m:=by rw [wz,hat' k,if_pos rfl]
       rcases hr.2 with ⟨z1,z2⟩ | z1 | ⟨b2,cap,Bg,e3,z1,z2⟩
       ·exact .inl ⟨hk.trans z1,z2⟩
       ·exact .inr (.inl z1)
       ·exact .inr (.inr ⟨b2,cap,Bg,e3,hk.trans z1,z2⟩)
      ·refine ⟨hr.1,?_⟩
       have hk:(g2 p).at q = (g p).at q:=by rw [wz,hat' q,if_neg hq]
       rcases hr.2 with ⟨z1,z2⟩ | z1 | ⟨b2,cap,Bg,e3,z1,z2⟩
       ·exact .inl ⟨hk.trans z1,z2⟩
       ·exact .inr (.inl z1)
       ·exact .inr (.inr ⟨b2,cap,Bg,e3,hk.trans z1,z2⟩)
      ·exact RC.av hz (fun q hq => by
        simp at hq
        exact hg2 q hq.1 hq.2) hr)
 exact ⟨R,B,g2,hst⟩
end
end
section
section
variable {P:Program} {C:Ctx} {σ:Slots} {mm:Mem} {α:Type} {enc:α → List PV}
theorem JW (enc:α → List PV) (rows:List (List α)):(rowsOf enc rows).length = rows.length:=by simp [rowsOf]
theorem JV {rows:List (List α)} {k:Nat} {r:List α} (h:rows[k]? = some r):(rowsOf enc rows)[k]? = some (r.map enc):=by simp [rowsOf,h]
theorem aU.fM {n p:Nat} {e:TypeId} {lens:List Nat} {cells:List (List CV)} (hc:cells = jK p lens) (h:lk mm n = some (.row e cells)):aU P C σ mm σ ((n,.fM e p lens) :: mm):=fun R B g a w hs => by
 subst hc
 exact ⟨R,B,g,hs.obj (o:=.fM e p lens) h (show bJ P w R B g n e (jK p lens) from hs.ob n (.row e (jK p lens)) h)⟩
end
end
section
section
variable {P:Program} {o:Oper} {α:Type} {enc:α → List PV}
theorem kM.blk {w:World} {R B:Nat → Prop} {s:GS} {e:TypeId} {els:List (List PV)} (h:kM P w R B s e els) {b:Nat} (hb:s = .blk b) {cur:Array Value} {e':TypeId} (hh:w.heap[b]? = some (.cells cur e' (0,0))) :
  e' = e ∧ (∀ cs ∈ els,cs.length = aW P e) ∧ els.length * aW P e ≤ cur.size ∧ ∀ (j k:Nat) cs x,els[j]? = some cs → cs[k]? = some x → ∃ u,cur[j * aW P e + k]? = some u ∧ eH w R B x u:=by
 rcases h with ⟨h1,_⟩ | ⟨b',cur',h1,h2,h3,h4,h5⟩
 ·rw [hb] at h1; cases h1
 ·rw [hb] at h1
  injection h1 with h1
  subst h1
  rw [hh] at h2
  injection h2 with h2
  injection h2 with h2 h6 h7
  subst h2
  subst h6
  exact ⟨rfl,h3,h4,h5⟩
end
end
section
section
variable {P:Program} {C:Ctx} {σ:Slots} {mm:Mem} {α:Type} {enc:α → List PV}
theorem dB.oJ (h:∀ a,nI (enc a)) {e:TypeId} (rows:List (List α)):dB (.pool e (rowsOf enc rows)):=fun els hels cs hcs p hp => by
 obtain ⟨r,_,rfl⟩:=List.mem_map.1 hels
 obtain ⟨a,_,rfl⟩:=List.mem_map.1 hcs
 exact (h a).spec p hp
theorem aU.lens {n p:Nat} {e:TypeId} {lens lens':List Nat} (he:lens = lens') (h:lk mm n = some (.fM e p lens)):aU P C σ mm σ ((n,.fM e p lens') :: mm):=fun R B g a w hs => by
 subst he
 exact ⟨R,B,g,hs.obj h (hs.ob n _ h)⟩
theorem gW.ttl {sh:Mem} {p k len:Nat} {e2:TypeId} {rows:List (List α)} {r:List α} (hl:len = r.length) (h:lk sh p = some (.pool e2 (rowsOf enc rows))) (hk:rows[k]? = some r):gW sh (.tl p k 0 len) (.pv (.xs false (r.map enc))):=by
 subst hl
 have:=gW.tl (k:=k) h (JV hk)
 rwa [List.length_map] at this
theorem aU.Ar (p:Nat) (e2:TypeId) (hd:C.pn.elem p = false):aU P C σ mm (iI [p] σ) ((p,.pool e2 []) :: fE [p] mm):=fun R B g a w hs => by
 have hp1:=iE hd
 have had:dK R B g w [] [p] R B (upd g p (.pool [])) w:=by
  refine ⟨hs.wf.upd p _ (Nat.le_refl _) (fun b hb => by cases hb) (fun i j b hi => by simp [GS.at] at hi),fun _ h => h,fun _ h => h,rfl,rfl,rfl,Nat.le_refl _,fun _ _ _ => rfl,fun q hq => upd_ne g _ (by simpa using hq),fun q hq b hb => ?_,fun q hq => by cases hq⟩
  have:q = p:=by simpa using hq
  subst this
  rw [upd_same] at hb
  cases hb
 exact ⟨R,B,_,hs.step (us:=[]) (df:=[(p,.pool e2 [])]) (W:=[]) (X:=[p]) (d:=none) (v:=.bV []) (u:=undef) trivial (fun _ h => by cases h) (fun q hq => by
   have:q = (p,.pool e2 []):=by simpa using hq
   subst this; exact .inl (by simp)) rfl (fun q hq => by
   have:q = p:=by simpa using hq
   subst this; exact hp1) had (fun b hb => .inl hb) (fun h => by cases h) (vS ⟨⟨[],upd_same ..,rfl⟩,fun k els hk => by simp at hk⟩)⟩
end
end
section
section
variable {P:Program} {o:Oper} {α:Type} {enc:α → List PV}
theorem LT.Ju {p k m:Nat} {ins:List (Operand × AV)} {pW og:Mem} {v:AV} {W X:List Nat} {e:TypeId} {r r':List α} {rows:List (List α)}
  (h:LT P o ins ((m,.bZ e (r.map enc)) :: pW) v ((m,.bZ e (r'.map enc)) :: og) W X) (hk:rows[k]? = some r) (hc:CQ p m ins pW v og W X = true) :
  LT P o (ins.map fun q => (q.1,rE p k m q.2)) ((p,.pool e (rowsOf enc rows)) :: pW) (rE p k m v) ((p,.pool e (rowsOf enc (rows.set k r'))) :: og) (W.map (mX m p)) (m :: X):=by
 have:=LT.focus (p:=p) (k:=k) (rows:=rowsOf enc rows) h (JV hk) hc
 have e1:(rowsOf enc rows).set k (r'.map enc) = rowsOf enc (rows.set k r'):=by simp [rowsOf,List.map_set]
 rw [e1] at this
 exact this
theorem QY {β:Type} {l:List β} {x:β}:l.length + 1 = (l ++ [x]).length:=by simp
end
end
section
section
variable {P:Program} {o:Oper}
theorem LT.Qb {f:FuncId} {ops:Array Operand} (caps:List Nat) (ho:o.op = .makeFunc (.func f) #[] ops) (hlen:ops.size = caps.length):LT P o (qB ops.toList (caps.map vU)) [] (Cc (.fn f caps)) [] [] []:=.calm fun R B g w a _ hin _ => by
 have hget:∀ (k n:Nat),caps[k]? = some n → ∃ b,g n = .blk b ∧ (ops.toList.map a.eval)[k]? = some (Value.pointer (some ⟨b,0,none⟩)):=fun k n hk => by
  have hkl:k < ops.toList.length:=by rw [Array.length_toList,hlen]; exact (List.getElem?_eq_some_iff.1 hk).1
  have hm:(ops.toList[k],AV.s (vU n)) ∈ qB ops.toList (caps.map vU):=by
   refine List.mem_map.2 ⟨(ops.toList[k],vU n),?_,rfl⟩
   refine List.mem_of_getElem? (i:=k) ?_
   rw [List.getElem?_zip_eq_some]
   exact ⟨List.getElem?_eq_getElem hkl,by rw [List.getElem?_map,hk]; rfl⟩
  obtain ⟨_,b,h1,h2⟩:=hin _ hm
  exact ⟨b,h1,by rw [List.getElem?_map,List.getElem?_eq_getElem hkl]; exact congrArg some h2⟩
 refine ⟨.func (.func f) #[] (ops.map a.eval),by simp [execOp,ho,Instr.makeFunc],rfl,ops.toList.map a.eval,?_,by rw [List.length_map,Array.length_toList,hlen],hget⟩
 congr 1
 apply Array.ext'
 simp
theorem LT.FY {cf:Operand} {f:FuncId} {ops:Array Operand} {ts:Array TypeId} (caps:List Nat) {xs:List SV} (ys:List SV) {us sh df:Mem} {v:AV} {W X:List Nat} (hf:Fn P f (ys ++ caps.map vU) us v df W X)
  (ho:o.op = .call { callee:=.value cf,args:=ops,argTypes:=ts }) (hb:cZ P f = true) (hsh:jZ sh xs ys) (hlen:ops.size = xs.length)
  (hside:(gu (keys sh) (W ++ X ++ keys us ++ keys df ++ caps) && bP W (keys us)) = true) (hus:qE (keys sh) us):LT P o ((cf,Cc (.fn f caps)) :: qB ops.toList xs) (us ++ sh) v df W X :=
 LT.call hf ho hb hlen hsh hside hus.spec
end
end
section
inductive qC (n:Nat) (els:List (List PV)):CV → CV → Prop
 | same {x y:CV} (h:aZ [n] x = y):qC n els x y
 | fr {l:Nat} (h:l = els.length):qC n els (.loc n 0 l) (.pv (.xs true els))
inductive nG (n:Nat) (els:List (List PV)):List CV → List CV → Prop
 | nil:nG n els [] []
 | cons {x y:CV} {xs ys:List CV} (h:qC n els x y) (t:nG n els xs ys):nG n els (x :: xs) (y :: ys)
inductive qp (n:Nat) (els:List (List PV)):AV → AV → Prop
 | same {x y:AV} (h:jG [n] x = y):qp n els x y
 | c {x y:CV} (h:qC n els x y):qp n els (.s (.c x)) (.s (.c y))
 | agg {xs ys:List CV} (h:nG n els xs ys):qp n els (.s (.agg xs)) (.s (.agg ys))
inductive tJ (n:Nat) (els:List (List PV)):Ob → Ob → Prop
 | same {x y:Ob} (h:fQ [n] x = y):tJ n els x y
 | row {e:TypeId} {xs ys:List CV} (h:nG n els xs ys):tJ n els (.row e [xs]) (.row e [ys])
def wF (n:Nat) (els:List (List PV)) (σ:Slots):Slots → Prop
 | [] => True
 | (t,v) :: r => (∃ x,lk σ t = some x ∧ qp n els x v) ∧ wF n els σ r
def wE (n:Nat) (els:List (List PV)) (m:Mem):Mem → Prop
 | [] => True
 | (k,o) :: r => (Nat.beq k n = false ∧ ∃ x,lk m k = some x ∧ tJ n els x o) ∧ wE n els m r
section
variable {P:Program} {C:Ctx} {σ σ':Slots} {m m':Mem} {n:Nat} {els:List (List PV)}
theorem wF.get:∀ {σ':Slots},wF n els σ σ' → ∀ t v,lk σ' t = some v → ∃ x,lk σ t = some x ∧ qp n els x v
 | [],_,t,v,h => by cases h
 | (k,v') :: r,h,t,v,hl => by
  change (bif Nat.beq k t then some v' else lk r t) = some v at hl
  cases hb:Nat.beq k t with
  | true =>
   rw [hb,cond_true] at hl
   injection hl with hl
   subst hl
   have:=Nat.eq_of_beq_eq_true hb
   subst this
   exact h.1
  | false =>
   rw [hb,cond_false] at hl
   exact wF.get h.2 t v hl
theorem wE.get:∀ {m':Mem},wE n els m m' → ∀ k o,lk m' k = some o → k ≠ n ∧ ∃ x,lk m k = some x ∧ tJ n els x o
 | [],_,t,v,h => by cases h
 | (k,v') :: r,h,t,v,hl => by
  change (bif Nat.beq k t then some v' else lk r t) = some v at hl
  cases hb:Nat.beq k t with
  | true =>
   rw [hb,cond_true] at hl
   injection hl with hl
   subst hl
   have:=Nat.eq_of_beq_eq_true hb
   subst this
   exact ⟨Nat.ne_of_beq_eq_false h.1.1,h.1.2⟩
  | false =>
   rw [hb,cond_false] at hl
   exact wE.get h.2 t v hl
theorem nG.get {xs ys:List CV} (h:nG n els xs ys):xs.length = ys.length ∧ ∀ (k:Nat) y,ys[k]? = some y → ∃ x,xs[k]? = some x ∧ qC n els x y:=by
 induction h with
 | nil => exact ⟨rfl,fun k y h => by simp at h⟩
 | cons h _ ih =>
  refine ⟨by simp [ih.1],fun k y hk => ?_⟩
  cases k with
  | zero => simp at hk; subst hk; exact ⟨_,rfl,h⟩
  | succ k => exact ih.2 k y (by simpa using hk)
section
variable {w:World} {R B R' B':Nat → Prop} {g g':Nat → GS}
theorem qC.rc (had:dK R B g w [] [n] R' B' g' w) (hw:WF R B g w) (hv:∀ v,RC P w R B g (.loc n 0 els.length) v → eH w R' B' (.xs true els) v) {x y:CV} {v:Value} (h:qC n els x y) (hx:RC P w R B g x v):RC P w R' B' g' y v:=by
 cases h with
 | same h => subst h; exact had.rc hw hx
 | fr h => subst h; exact ⟨hx.1,hv v hx⟩
theorem nG.rl (had:dK R B g w [] [n] R' B' g' w) (hw:WF R B g w) (hv:∀ v,RC P w R B g (.loc n 0 els.length) v → eH w R' B' (.xs true els) v) {xs ys:List CV} (h:nG n els xs ys) {us:Nat → Option Value} (hx:∀ (k:Nat) x,xs[k]? = some x → ∃ u,us k = some u ∧ RC P w R B g x u) :
  ∀ (k:Nat) y,ys[k]? = some y → ∃ u,us k = some u ∧ RC P w R' B' g' y u:=fun k y hk => by
 obtain ⟨x,h1,h2⟩:=h.get.2 k y hk
 obtain ⟨u,h3,h4⟩:=hx k x h1
 exact ⟨u,h3,h2.rc had hw hv h4⟩
theorem qp.ra (had:dK R B g w [] [n] R' B' g' w) (hw:WF R B g w) (hv:∀ v,RC P w R B g (.loc n 0 els.length) v → eH w R' B' (.xs true els) v) {x y:AV} {v:Value} (h:qp n els x y) (hx:RA P w R B g x v):RA P w R' B' g' y v:=by
 cases h with
 | same h => subst h; exact had.ra hw hx
 | c h => exact qC.rc had hw hv h hx
 | agg h =>
  obtain ⟨vs,h1,h2,h3⟩:=hx
  exact ⟨vs,h1,h2.trans h.get.1,nG.rl had hw hv h h3⟩
theorem tJ.ro (had:dK R B g w [] [n] R' B' g' w) (hw:WF R B g w) (hv:∀ v,RC P w R B g (.loc n 0 els.length) v → eH w R' B' (.xs true els) v) {k:Nat} (hk:k ≠ n) {x y:Ob} (h:tJ n els x y) (hx:RO P w R B g k x):RO P w R' B' g' k y:=by
 cases h with
 | same h => subst h; exact had.ro hw (by simpa using hk) (by simp) hx
 | @row e xs ys h =>
  have hg:g' k = g k:=had.names k (by simpa using hk)
  rcases hx with ⟨h1,h2⟩ | ⟨b,cur,h1,h2,h3,h4,h5⟩
  ·cases h2
  ·refine .inr ⟨b,cur,hg.trans h1,h2,fun cs hcs => ?_,h4,fun j i cs y hj hi => ?_⟩
   ·have:cs = ys:=by simpa using hcs
    subst this
    rw [← h.get.1]
    exact h3 xs (by simp)
   ·cases j with
    | succ j => simp at hj
    | zero =>
     have:ys = cs:=by simpa using hj
     subst this
     exact nG.rl had hw hv h (us:=fun i => cur[0 * aW P e + i]?) (fun i x hi => h5 0 i xs x rfl hi) i y hi
end
variable {α:Type} {enc:α → List PV}
theorem aU.Gs (n:Nat) {e:TypeId} {xs:List α} (hU:∀ b,C.U0 b → ∃ k ∈ C.pn,(C.g0 k).has b) (hn:C.pn.elem n = false) (ho:lk m n = some (.bZ e (xs.map enc)))
  (h1:wF n (xs.map enc) σ σ') (h2:wE n (xs.map enc) m m'):aU P C σ m σ' m':=fun R B g a w hs => by
 obtain ⟨R',B',g',had,hs',hv⟩:=hs.freeze ho (fun h => by rw [List.elem_eq_true_of_mem h] at hn; cases hn) hU
 refine ⟨R',B',g',{ hs' with sl:=fun t v hl => ?_,ob:=fun k o hl => ?_,ow:=fun k o b hl hg => ?_ }⟩
 ·obtain ⟨x,h3,h4⟩:=h1.get t v hl
  exact h4.ra had hs.wf hv (hs.sl t x h3)
 ·obtain ⟨hk,x,h3,h4⟩:=h2.get k o hl
  exact h4.ro had hs.wf hv hk (hs.ob k x h3)
 ·obtain ⟨hk,x,h3,h4⟩:=h2.get k o hl
  rw [had.names k (by simpa using hk)] at hg
  exact hs.ow k x b h3 hg
end
end
section
abbrev xF {α:Type} (enc:α → List PV) (l:List α):CV:=.pv (.xs false (l.map enc))
abbrev xT {α:Type} (enc:α → List PV) (l:List α):CV:=.pv (.xs true (l.map enc))
abbrev lo (n len:Nat):CV:=.loc n 0 len
abbrev pR {α:Type} (e:TypeId) (enc:α → List PV) (l:List α):Ob:=.bZ e (l.map enc)
section
variable {P:Program} {C:Ctx} {σ:Slots} {m:Mem} {is:List It} {τ υ:Type} {M:Option τ} {K:τ → Post} {ops:Array Oper} {l:List Oper} {done:List Ct} {rest:List Oper} {o:Oper}
theorem On (h:aA P C is σ m M K):aS P C ops [] is σ m M K:=aS.nil h
theorem ay {x:Option υ} {f:υ → Option τ} (h:∀ u,x = some u → aS P C ops rest is σ m (f u) K):aS P C ops rest is σ m (x.bind f) K:=aS.bind h
theorem Ws {x y:Code} (h:aA P C (.code x :: .code y :: is) σ m M K):aA P C (.code (.seq x y) :: is) σ m M K:=aA.seq h
theorem Wr {id:Nat} {l:List Oper} (h:aS P C l.toArray l is σ m M K):aA P C (.code (.region id l.toArray false) :: is) σ m M K:=aA.region h
theorem Ok {j:Nat} {want:Bool} {d:Tmp} {c:Bool} (hg:o.guard = some (j,want)) (h1:(ops[j]?).bind (·.dst) = some d) (h2:lk σ d = some (Bv c)) (h3:(c == want) = false) (hd:dG C.N o.dst = true) (h:aS P C ops rest is (bU σ o.dst (.bV [])) m M K):aS P C ops (o :: rest) is σ m M K :=
 aS.skip (by unfold dH; rw [hg]; exact ⟨d,h1,.inl ⟨c,h2,h3.symm⟩⟩) hd h
theorem Oj {j:Nat} {want:Bool} {d:Tmp} (hg:o.guard = some (j,want)) (h1:(ops[j]?).bind (·.dst) = some d) (h2:lk σ d = some (.bV [])) (hd:dG C.N o.dst = true) (h:aS P C ops rest is (bU σ o.dst (.bV [])) m M K):aS P C ops (o :: rest) is σ m M K :=
 aS.skip (by unfold dH; rw [hg]; exact ⟨d,h1,.inr ⟨h2,rfl⟩⟩) hd h
theorem oP   {v:AV} {df:Mem} {W X:List Nat} (hlt:LT P o [] [] v df W X)   (hg:dH ops σ o true) (hs:(dG C.N o.dst && bP W (X ++ keys df) && bP W (keys ([]:Mem)) && bP (keys df) (X ++ W) && gu X C.pn) = true) (h:aS P C ops rest is (bU (iI X σ) o.dst v) (df ++ fE X m) M K):aS P C ops (o :: rest) is σ m M K:=aS.step hlt trivial trivial hg hs h
theorem tH   {v:AV} {df:Mem} {W X:List Nat} (hlt:LT P o [] [] v df W X)   (hg:dH l.toArray σ o true) (hs:(dG C.N o.dst && bP W (X ++ keys df) && bP W (keys ([]:Mem)) && bP (keys df) (X ++ W) && gu X C.pn) = true) (h:aP P C l (⟨[],[],v,df,W,X,true⟩ :: done) rest is (bU (iI X σ) o.dst v) (df ++ fE X m) M K):aP P C l done (o :: rest) is σ m M K:=aP.step hlt trivial trivial hg hs h
theorem aT {x0:Operand} {v0:AV}  {v:AV} (hlt:LT P o [(x0,v0)] [] v [] [] []) (e0:bn σ x0 v0)  (hg:dH ops σ o true) (hd:dG C.N o.dst = true) (h:aS P C ops rest is (bU σ o.dst v) m M K):aS P C ops (o :: rest) is σ m M K:=aS.pure hlt ⟨e0,trivial⟩ trivial hg hd h
theorem qw {x0:Operand} {v0:AV}  {v:AV} {df:Mem} {W X:List Nat} (hlt:LT P o [(x0,v0)] [] v df W X) (e0:bn σ x0 v0)  (hg:dH ops σ o true) (hs:(dG C.N o.dst && bP W (X ++ keys df) && bP W (keys ([]:Mem)) && bP (keys df) (X ++ W) && gu X C.pn) = true) (h:aS P C ops rest is (bU (iI X σ) o.dst v) (df ++ fE X m) M K):aS P C ops (o :: rest) is σ m M K:=aS.step hlt ⟨e0,trivial⟩ trivial hg hs h
theorem bT {x0:Operand} {v0:AV}  {v:AV} (hlt:LT P o [(x0,v0)] [] v [] [] []) (e0:bn σ x0 v0)  (hg:dH l.toArray σ o true) (hd:dG C.N o.dst = true) (h:aP P C l (⟨[(x0,v0)],[],v,[],[],[],true⟩ :: done) rest is (bU σ o.dst v) m M K):aP P C l done (o :: rest) is σ m M K:=aP.pure hlt ⟨e0,trivial⟩ trivial hg hd h
theorem KQ {x0:Operand} {v0:AV}  {v:AV} {df:Mem} {W X:List Nat} (hlt:LT P o [(x0,v0)] [] v df W X) (e0:bn σ x0 v0)  (hg:dH l.toArray σ o true) (hs:(dG C.N o.dst && bP W (X ++ keys df) && bP W (keys ([]:Mem)) && bP (keys df) (X ++ W) && gu X C.pn) = true) (h:aP P C l (⟨[(x0,v0)],[],v,df,W,X,true⟩ :: done) rest is (bU (iI X σ) o.dst v) (df ++ fE X m) M K):aP P C l done (o :: rest) is σ m M K:=aP.step hlt ⟨e0,trivial⟩ trivial hg hs h
theorem eY {x0:Operand} {v0:AV} {n0:Nat} {o0:Ob} {v:AV} (hlt:LT P o [(x0,v0)] [(n0,o0)] v [] [] []) (e0:bn σ x0 v0) (l0:lk m n0 = some o0) (hg:dH ops σ o true) (hd:dG C.N o.dst = true) (h:aS P C ops rest is (bU σ o.dst v) m M K):aS P C ops (o :: rest) is σ m M K:=aS.pure hlt ⟨e0,trivial⟩ ⟨l0,trivial⟩ hg hd h
theorem gV {x0:Operand} {v0:AV} {n0:Nat} {o0:Ob} {v:AV} (hlt:LT P o [(x0,v0)] [(n0,o0)] v [] [] []) (e0:bn σ x0 v0) (l0:lk m n0 = some o0) (hg:dH l.toArray σ o true) (hd:dG C.N o.dst = true) (h:aP P C l (⟨[(x0,v0)],[(n0,o0)],v,[],[],[],true⟩ :: done) rest is (bU σ o.dst v) m M K):aP P C l done (o :: rest) is σ m M K:=aP.pure hlt ⟨e0,trivial⟩ ⟨l0,trivial⟩ hg hd h
theorem dF {x0:Operand} {v0:AV} {x1:Operand} {v1:AV}  {v:AV} (hlt:LT P o [(x0,v0),(x1,v1)] [] v [] [] []) (e0:bn σ x0 v0) (e1:bn σ x1 v1)  (hg:dH ops σ o true) (hd:dG C.N o.dst = true) (h:aS P C ops rest is (bU σ o.dst v) m M K):aS P C ops (o :: rest) is σ m M K:=aS.pure hlt ⟨e0,e1,trivial⟩ trivial hg hd h
theorem E8 {x0:Operand} {v0:AV} {x1:Operand} {v1:AV}  {v:AV} {df:Mem} {W X:List Nat} (hlt:LT P o [(x0,v0),(x1,v1)] [] v df W X) (e0:bn σ x0 v0) (e1:bn σ x1 v1)  (hg:dH ops σ o true) (hs:(dG C.N o.dst && bP W (X ++ keys df) && bP W (keys ([]:Mem)) && bP (keys df) (X ++ W) && gu X C.pn) = true) (h:aS P C ops rest is (bU (iI X σ) o.dst v) (df ++ fE X m) M K):aS P C ops (o :: rest) is σ m M K:=aS.step hlt ⟨e0,e1,trivial⟩ trivial hg hs h
theorem dP {x0:Operand} {v0:AV} {x1:Operand} {v1:AV}  {v:AV} (hlt:LT P o [(x0,v0),(x1,v1)] [] v [] [] []) (e0:bn σ x0 v0) (e1:bn σ x1 v1)  (hg:dH l.toArray σ o true) (hd:dG C.N o.dst = true) (h:aP P C l (⟨[(x0,v0),(x1,v1)],[],v,[],[],[],true⟩ :: done) rest is (bU σ o.dst v) m M K):aP P C l done (o :: rest) is σ m M K:=aP.pure hlt ⟨e0,e1,trivial⟩ trivial hg hd h
theorem nH {x0:Operand} {v0:AV} {x1:Operand} {v1:AV} {n0:Nat} {o0:Ob} {v:AV} (hlt:LT P o [(x0,v0),(x1,v1)] [(n0,o0)] v [] [] []) (e0:bn σ x0 v0) (e1:bn σ x1 v1) (l0:lk m n0 = some o0) (hg:dH ops σ o true) (hd:dG C.N o.dst = true) (h:aS P C ops rest is (bU σ o.dst v) m M K):aS P C ops (o :: rest) is σ m M K:=aS.pure hlt ⟨e0,e1,trivial⟩ ⟨l0,trivial⟩ hg hd h
theorem gJ {x0:Operand} {v0:AV} {x1:Operand} {v1:AV} {n0:Nat} {o0:Ob} {v:AV} {df:Mem} {W X:List Nat} (hlt:LT P o [(x0,v0),(x1,v1)] [(n0,o0)] v df W X) (e0:bn σ x0 v0) (e1:bn σ x1 v1) (l0:lk m n0 = some o0) (hg:dH ops σ o true) (hs:(dG C.N o.dst && bP W (X ++ keys df) && bP W (keys [(n0,o0)]) && bP (keys df) (X ++ W) && gu X C.pn) = true) (h:aS P C ops rest is (bU (iI X σ) o.dst v) (df ++ fE X m) M K):aS P C ops (o :: rest) is σ m M K:=aS.step hlt ⟨e0,e1,trivial⟩ ⟨l0,trivial⟩ hg hs h
theorem nD {x0:Operand} {v0:AV} {x1:Operand} {v1:AV} {n0:Nat} {o0:Ob} {v:AV} {df:Mem} {W X:List Nat} (hlt:LT P o [(x0,v0),(x1,v1)] [(n0,o0)] v df W X) (e0:bn σ x0 v0) (e1:bn σ x1 v1) (l0:lk m n0 = some o0) (hg:dH l.toArray σ o true) (hs:(dG C.N o.dst && bP W (X ++ keys df) && bP W (keys [(n0,o0)]) && bP (keys df) (X ++ W) && gu X C.pn) = true) (h:aP P C l (⟨[(x0,v0),(x1,v1)],[(n0,o0)],v,df,W,X,true⟩ :: done) rest is (bU (iI X σ) o.dst v) (df ++ fE X m) M K):aP P C l done (o :: rest) is σ m M K:=aP.step hlt ⟨e0,e1,trivial⟩ ⟨l0,trivial⟩ hg hs h
theorem BR {x0:Operand} {v0:AV} {x1:Operand} {v1:AV} {n0:Nat} {o0:Ob} {n1:Nat} {o1:Ob} {v:AV} {df:Mem} {W X:List Nat} (hlt:LT P o [(x0,v0),(x1,v1)] [(n0,o0),(n1,o1)] v df W X) (e0:bn σ x0 v0) (e1:bn σ x1 v1) (l0:lk m n0 = some o0) (l1:lk m n1 = some o1) (hg:dH ops σ o true) (hs:(dG C.N o.dst && bP W (X ++ keys df) && bP W (keys [(n0,o0),(n1,o1)]) && bP (keys df) (X ++ W) && gu X C.pn) = true) (h:aS P C ops rest is (bU (iI X σ) o.dst v) (df ++ fE X m) M K):aS P C ops (o :: rest) is σ m M K:=aS.step hlt ⟨e0,e1,trivial⟩ ⟨l0,l1,trivial⟩ hg hs h
theorem KR {x0:Operand} {v0:AV} {x1:Operand} {v1:AV} {n0:Nat} {o0:Ob} {n1:Nat} {o1:Ob} {v:AV} {df:Mem} {W X:List Nat} (hlt:LT P o [(x0,v0),(x1,v1)] [(n0,o0),(n1,o1)] v df W X) (e0:bn σ x0 v0) (e1:bn σ x1 v1) (l0:lk m n0 = some o0) (l1:lk m n1 = some o1) (hg:dH l.toArray σ o true) (hs:(dG C.N o.dst && bP W (X ++ keys df) && bP W (keys [(n0,o0),(n1,o1)]) && bP (keys df) (X ++ W) && gu X C.pn) = true) (h:aP P C l (⟨[(x0,v0),(x1,v1)],[(n0,o0),(n1,o1)],v,df,W,X,true⟩ :: done) rest is (bU (iI X σ) o.dst v) (df ++ fE X m) M K):aP P C l done (o :: rest) is σ m M K:=aP.step hlt ⟨e0,e1,trivial⟩ ⟨l0,l1,trivial⟩ hg hs h
theorem mv (v:AV) {x:Operand} (ho:o.op = .move x) (e:bn σ x v) (hg:dH ops σ o true) (hd:dG C.N o.dst = true) (h:aS P C ops rest is (bU σ o.dst v) m M K):aS P C ops (o :: rest) is σ m M K:=aS.pure (LT.move ho) ⟨e,trivial⟩ trivial hg hd h
theorem dw (v:AV) {x:Operand} (ho:o.op = .assign x) (e:bn σ x v) (hg:dH ops σ o true) (hd:dG C.N o.dst = true) (h:aS P C ops rest is (bU σ o.dst v) m M K):aS P C ops (o :: rest) is σ m M K:=aS.pure (LT.assign ho) ⟨e,trivial⟩ trivial hg hd h
theorem en (σ':Slots) (m':Mem) (h1:oU σ' σ) (h2:oQ m' m) (k:aA P C is σ' m' M K):aA P C is σ m M K:=aA.ent (aU.of h1 h2) k
end
end
section
section
variable {P:Program} {C:Ctx} {σ:Slots} {mm:Mem} {α:Type} {enc:α → List PV}
theorem LT.RX {o:Oper} {t e:TypeId} {x y:Operand} {n n2 len mG:Nat} {cells dM:List (List CV)} {z:Value} {s jB:Nat} (hl:len = cells.length) (hl2:mG = dM.length) (ho:o.op = .call { callee:=.builtin .append,args:=#[x,y],argTypes:=#[t,t] }) (ht:P.underlying t = some (.slice e))
  (hz:TI P e z s jB) (hzs:z.cells.size = s) (hs:0 < s) (hb:jB ≤ 65536) (hc:dM.all (fun cs => Nat.beq cs.length s && cs.all (dS [n])) = true) (hcl:∀ cs ∈ cells,∀ x ∈ cs,dS [n] x = true) (hlim:cells.length + dM.length ≤ lD) :
  LT P o [(x,Cc (.loc n 0 len)),(y,Cc (.loc n2 0 mG))] [(n,.row e cells),(n2,.row e dM)] (Cc (.loc n 0 (len + mG))) [(n,.row e (cells ++ dM))] [n] [n]:=by
 subst hl
 subst hl2
 have hc1:∀ cs ∈ dM,cs.length = s ∧ ∀ x ∈ cs,dS [n] x = true:=fun cs hcs => by
  have:=List.all_eq_true.1 hc cs hcs
  simp only [Bool.and_eq_true] at this
  exact ⟨Nat.eq_of_beq_eq_true this.1,fun x hx => List.all_eq_true.1 this.2 x hx⟩
 have:=LT.append (P:=P) (o:=o) (ins:=[(x,Cc (.loc n 0 cells.length)),(y,Cc (.loc n2 0 dM.length))]) (us:=[(n,.row e cells),(n2,.row e dM)]) (n:=n) (els:=cells) (dM:=dM) (W:=[n]) ho ht hz hzs hs hb
  (fun cs hcs => (hc1 cs hcs).1) hlim
  (fun R B g w a hw hi hu => ⟨.inr ⟨in1 hi,nX hu⟩,by
   have:=Jq (els:=dM) (by rw [hz.sz]; exact hs) (in2 hi) (J4 hu)
   rwa [hz.sz] at this,.inl rfl⟩)
 rw [List.map_append,qW fun cs hcs => qW fun x hx => xQ (hcl cs hcs x hx),qW fun cs hcs => qW fun x hx => xQ ((hc1 cs hcs).2 x hx)] at this
 exact this
theorem aU.FC {n m p len:Nat} {e e2:TypeId} {rows:List (List α)} {r:List α} {cells:List (List CV)} {a b:List CV} (hl:len = r.length) (hm:lk mm m = some (.bZ e2 (r.map enc))) (hp:lk mm p = some (.pool e2 (rowsOf enc rows)))
  (hn:lk mm n = some (.row e (cells ++ [a ++ .loc m 0 len :: b]))) (hd:(!Nat.beq p m && !Nat.beq n p && !Nat.beq n m && !C.pn.elem m && !C.pn.elem p) = true)
  (hcells:∀ cs ∈ cells,∀ x ∈ cs,(∃ q o l,q ≠ rows.length ∧ x = .tl p q o l) ∨ dS [m,p] x = true) (hab:∀ x ∈ a ++ b,dS [m,p] x = true) :
  aU P C σ mm (iI [m,p] σ) ((p,.pool e2 (rowsOf enc (rows ++ [r]))) :: (n,.row e (cells ++ [a ++ .tl p rows.length 0 len :: b])) :: fE [m,p] mm):=by
 subst hl
 refine aU.KX (k:=rows.length) hm hp hn hd (fun bs ob hbl => ⟨bs ++ [ob],by simp [hbl,JW],fun j => ?_⟩) (fun j dM hj => ?_) (by simp) (fun j cs2 hj => ?_)
 ·rw [JW] at hbl
  by_cases h:j = rows.length
  ·rw [if_pos h,h,← hbl]
   simp only [GS.at,List.getElem?_append_right (Nat.le_refl _),Nat.sub_self,List.getElem?_cons_zero]
   cases ob <;> rfl
  ·rw [if_neg h]
   by_cases h2:j < bs.length
   ·simp only [GS.at,List.getElem?_append_left h2]
   ·have e1:(bs ++ [ob])[j]? = none:=List.getElem?_eq_none (by simp; omega)
    have e2:bs[j]? = none:=List.getElem?_eq_none (by omega)
    simp only [GS.at,e1,e2]
 ·simp only [rowsOf,List.map_append,List.map_cons,List.map_nil] at hj ⊢
  by_cases h:j < rows.length
  ·rw [List.getElem?_append_left (by simpa using h)] at hj
   exact .inr ⟨by omega,hj⟩
  ·have hjl:=(List.getElem?_eq_some_iff.1 hj).1
   simp at hjl
   have:j = rows.length:=by omega
   subst this
   rw [List.getElem?_append_right (by simp)] at hj
   simp at hj
   exact .inl ⟨rfl,hj.symm⟩
 ·by_cases h:j < cells.length
  ·rw [List.getElem?_append_left h] at hj
   refine ⟨cs2,by rw [List.getElem?_append_left h]; exact hj,rfl,fun i x2 hi => ⟨x2,hi,.inr ⟨rfl,?_⟩⟩⟩
   exact hcells cs2 (List.mem_of_getElem? hj) x2 (List.mem_of_getElem? hi)
  ·have hjl:=(List.getElem?_eq_some_iff.1 hj).1
   simp at hjl
   have:j = cells.length:=by omega
   subst this
   rw [List.getElem?_append_right (Nat.le_refl _),Nat.sub_self] at hj
   have:cs2 = a ++ .tl p rows.length 0 r.length :: b:=by simpa using hj.symm
   subst this
   refine ⟨a ++ .loc m 0 r.length :: b,by rw [List.getElem?_append_right (Nat.le_refl _),Nat.sub_self]; rfl,by simp,fun i x2 hi => ?_⟩
   by_cases h1:i < a.length
   ·rw [List.getElem?_append_left h1] at hi ⊢
    exact ⟨x2,hi,.inr ⟨rfl,.inr (hab x2 (List.mem_append_left _ (List.mem_of_getElem? hi)))⟩⟩
   ·rw [List.getElem?_append_right (by omega)] at hi ⊢
    cases hq:i - a.length with
    | zero =>
     rw [hq] at hi
     refine ⟨.loc m 0 r.length,rfl,.inl ⟨0,r.length,rfl,?_⟩⟩
     simpa using hi.symm
    | succ q =>
     rw [hq] at hi
     have hi':b[q]? = some x2:=by simpa using hi
     exact ⟨x2,by simpa using hi',.inr ⟨rfl,.inr (hab x2 (List.mem_append_right _ (List.mem_of_getElem? hi')))⟩⟩
theorem aU.Rj {n:Nat} {e:TypeId} {cells cells2:List (List CV)} (he:cells = cells2) (h:lk mm n = some (.row e cells)):aU P C σ mm σ ((n,.row e cells2) :: mm):=fun R B g a w hs => by
 subst he
 exact ⟨R,B,g,hs.obj h (hs.ob n _ h)⟩
end
end
end Go.Fw
end
section
open Go Go.Fw
namespace Go.Proofs.Ytdmlaldifbmkpaa
structure aQ where
  mk ::
  A:Int
  B:Int
structure au where
  mk ::
  aC:Int
  aB:(List aQ)
structure aO where
  mk ::
  X:Int
  Y:Int
structure aH where
  mk ::
  Graph:au
  Places:(List aO)
structure wH where
  mk ::
  Free:(List Int)
  qH:(List Int)
  lS:(List Int)
def aG (a:aQ):List PV:=[.sc (.int .i64 a.A), .sc (.int .i64 a.B)]
theorem jR (a:aQ):nI (aG a):=⟨.sc, .sc, trivial⟩
theorem RU (a:aQ):qG (aG a) (aG a):=⟨.sc, .sc, trivial⟩
def aI (a:aO):List PV:=[.sc (.int .i64 a.X), .sc (.int .i64 a.Y)]
theorem jq (a:aO):nI (aI a):=⟨.sc, .sc, trivial⟩
theorem RV (a:aO):qG (aI a) (aI a):=⟨.sc, .sc, trivial⟩
def dN (a:Int):List PV:=[.sc (.int .i64 a)]
theorem EM (a:Int):nI (dN a):=⟨.sc, trivial⟩
def bW (q:Bool) (a:aH):List PV:=[.sc (.int .i64 a.Graph.aC), .xs q (a.Graph.aB.map aG), .xs q (a.Places.map aI)]
theorem JF (a:aH):nI (bW true a):=⟨.sc, JE jR _, JE jq _, trivial⟩
theorem ER (a:aH):qG (bW true a) (bW false a):=⟨.sc, QW.zI RU (fun h => by cases h) _, QW.zI RV (fun h => by cases h) _, trivial⟩
def vN (a:aQ) (b:aQ):Option Bool:=((bif decide (a.A < b.A) then some true else bif a.A == b.A then some (decide (a.B ≤ b.B)) else some false):Option Bool).bind fun j3 => some j3
def rq (x:Int) (low:Int) (high:Int):Option Bool:=((bif decide (low ≤ x) then some (decide (x ≤ high)) else some false):Option Bool).bind fun j2 => some j2
def yY (g:au) (s7:Int):Option (Int ⊕ (Unit ⊕ Bool)):=bif decide (s7 < (g.aB.length:Int)) then (idx g.aB s7).bind (fun dR =>((bif decide (dR.A < 0) then some true else bif decide (dR.B ≤ dR.A) then some true else bif decide (g.aC ≤ dR.B) then some true else bif decide (0 < s7) then (idx g.aB (aJ (s7 - 1))).bind (fun x54 =>(vN x54 dR).bind fun nV => some (!nV)) else some false):Option Bool).bind fun j49 => bif j49 then some (.inr (.inr false)) else some (.inl (aJ (s7 + 1)))) else some (.inr (.inl ()))
def yX (g:au):Option Bool:=(((rq g.aC 1 8).bind fun r4 => bif !r4 then some true else some (decide (24 < (g.aB.length:Int)))):Option Bool).bind fun j3 => bif j3 then some false else (bY (yY g) BIG 0).bind (Sum.elim (fun wK =>(some true)) (fun r => some r))
def Ac (g:au):Option au:=(lim (([]:List aQ).length + g.aB.length)).bind fun u1 => some (au.mk g.aC (([]:List aQ) ++ g.aB))
def rX (x:Int) (uP:Int) (hi:Int):Option Bool:=((bif decide (uP ≤ x) then some (decide (x ≤ hi)) else some false):Option Bool).bind fun j2 => some j2
def uf (a:Int) (b:Int):Option Int:=bif decide (a < b) then some (-1) else bif decide (b < a) then some 1 else some 0
def uZ (x:aQ) (y:aQ):Option Int:=(uf x.A y.A).bind fun r1 => bif r1 != 0 then some r1 else (uf x.B y.B).bind fun r3 => some r3
def qP (g:au) (s7:Int):Option (Int ⊕ (Unit ⊕ Bool)):=bif decide (s7 < (g.aB.length:Int)) then (idx g.aB s7).bind (fun dR =>((bif decide (dR.A < 0) then some true else bif decide (dR.B ≤ dR.A) then some true else bif decide (g.aC ≤ dR.B) then some true else bif decide (0 < s7) then (idx g.aB (aJ (s7 - 1))).bind (fun x54 =>(uZ x54 dR).bind fun nV => some (decide (0 < nV))) else some false):Option Bool).bind fun j49 => bif j49 then some (.inr (.inr false)) else some (.inl (aJ (s7 + 1)))) else some (.inr (.inl ()))
def uT (g:au):Option Bool:=(((rX g.aC 1 8).bind fun r4 => bif !r4 then some true else some (decide (24 < (g.aB.length:Int)))):Option Bool).bind fun j3 => bif j3 then some false else (bY (qP g) BIG 0).bind (Sum.elim (fun wK =>(some true)) (fun r => some r))
def xg (p:aO):Option Bool:=(((rX p.X 0 4).bind fun r5 => bif r5 then (rX p.Y 0 4).bind (fun r7 => some r7) else some false):Option Bool).bind fun j4 => some j4
def uQ (f:aH) (s11:Int):Option (Int ⊕ (Unit ⊕ Bool)):=bif decide (s11 < (f.Places.length:Int)) then (idx f.Places s11).bind (fun nC =>(xg nC).bind fun ES => bif !ES then some (.inr (.inr false)) else some (.inl (aJ (s11 + 1)))) else some (.inr (.inl ()))
def uS (f:aH) (kJ:Int):Option (Int ⊕ (Unit ⊕ Bool)):=bif decide (kJ < (f.Graph.aB.length:Int)) then (idx f.Graph.aB kJ).bind (fun jM =>((bif decide (0 < kJ) then (idx f.Graph.aB (aJ (kJ - 1))).bind (fun pz => bif gY [pz.A,pz.B] [jM.A,jM.B] then some true else (idx f.Places jM.A).bind fun sV =>(idx f.Places jM.B).bind fun sW => some (gY [sV.X,sV.Y] [sW.X,sW.Y])) else (idx f.Places jM.A).bind fun sZ =>(idx f.Places jM.B).bind fun su => some (gY [sZ.X,sZ.Y] [su.X,su.Y])):Option Bool).bind fun j72 => bif j72 then some (.inr (.inr false)) else some (.inl (aJ (kJ + 1)))) else some (.inr (.inl ()))
def qO (f:aH):Option Bool:=(((uT f.Graph).bind fun r6 => bif !r6 then some true else bif decide (6 < f.Graph.aC) then some true else bif decide (15 < (f.Graph.aB.length:Int)) then some true else some ((f.Places.length:Int) != f.Graph.aC)):Option Bool).bind fun j5 => bif j5 then some false else (bY (uQ f) BIG 0).bind (Sum.elim (fun b20 =>(bY (uS f) BIG 0).bind (Sum.elim (fun FQ =>(some true)) (fun r => some r))) (fun r => some r))
def vI (f:aH) (s11:Int):Option (Int ⊕ (Unit ⊕ Bool)):=bif decide (s11 < (f.Places.length:Int)) then ((((idx f.Places s11).bind fun BO =>(rq BO.X 0 4).bind fun Aw => bif !Aw then some true else (idx f.Places s11).bind fun wB =>(rq wB.Y 0 4).bind fun oL => some (!oL)):Option Bool).bind fun j45 => bif j45 then some (.inr (.inr false)) else some (.inl (aJ (s11 + 1)))) else some (.inr (.inl ()))
def vJ (f:aH) (kK:Int):Option (Int ⊕ (Unit ⊕ Bool)):=bif decide (kK < (f.Graph.aB.length:Int)) then (idx f.Graph.aB kK).bind (fun x83 =>(((idx f.Places x83.A).bind fun x90 =>(idx f.Places x83.B).bind fun x91 => bif gY [x90.X,x90.Y] [x91.X,x91.Y] then some true else bif decide (0 < kK) then (idx f.Graph.aB (aJ (kK - 1))).bind (fun qA => some (gY [qA.A,qA.B] [x83.A,x83.B])) else some false):Option Bool).bind fun j89 => bif j89 then some (.inr (.inr false)) else some (.inl (aJ (kK + 1)))) else some (.inr (.inl ()))
def qR (f:aH):Option Bool:=(((yX f.Graph).bind fun r6 => bif !r6 then some true else bif decide (6 < f.Graph.aC) then some true else bif (f.Places.length:Int) != f.Graph.aC then some true else some (decide (15 < (f.Graph.aB.length:Int)))):Option Bool).bind fun j5 => bif j5 then some false else (bY (vI f) BIG 0).bind (Sum.elim (fun fA =>(bY (vJ f) BIG 0).bind (Sum.elim (fun FU =>(some true)) (fun r => some r))) (fun r => some r))
def yG (a:List aQ) (leftV:Int):Option Int:=bif decide ((aJ (leftV - (a.length:Int))) < 0) then some (-1) else some (aJ (leftV - (a.length:Int)))
def yI (a:au) (leftV:Int):Option Int:=(yG a.aB leftV).bind fun r1 => bif decide (r1 < 0) then some (-1) else some r1
def yJ (a:List aO) (leftV:Int):Option Int:=bif decide ((aJ (leftV - (a.length:Int))) < 0) then some (-1) else some (aJ (leftV - (a.length:Int)))
def yH (a:aH) (leftV:Int):Option Int:=(yI a.Graph leftV).bind fun r1 => bif decide (r1 < 0) then some (-1) else (yJ a.Places r1).bind fun r3 => bif decide (r3 < 0) then some (-1) else some r3
def AZ (a:aQ):Option aQ:=some a
def yL (a:List aQ) (s2:Int × (List aQ)):Option ((Int × (List aQ)) ⊕ (List aQ)):=bif decide (s2.1 < (a.length:Int)) then (idx a s2.1).bind (fun jL =>(AZ jL).bind fun kF =>(idx s2.2 s2.1).bind fun x15 => some (.inl ((aJ (s2.1 + 1)),(s2.2.set s2.1.toNat kF)))) else some (.inr s2.2)
def yK (a:List aQ):Option (List aQ):=(uJ (a.length:Int)).bind fun u1 =>(bY (yL a) BIG (0,(List.replicate (a.length:Int).toNat (aQ.mk (0:Int) (0:Int))))).bind fun b11 => some b11
def yM (a:au):Option au:=(yK a.aB).bind fun r1 => some (au.mk a.aC r1)
def Aa (a:aO):Option aO:=some a
def yO (a:List aO) (s2:Int × (List aO)):Option ((Int × (List aO)) ⊕ (List aO)):=bif decide (s2.1 < (a.length:Int)) then (idx a s2.1).bind (fun jL =>(Aa jL).bind fun kF =>(idx s2.2 s2.1).bind fun x15 => some (.inl ((aJ (s2.1 + 1)),(s2.2.set s2.1.toNat kF)))) else some (.inr s2.2)
def yN (a:List aO):Option (List aO):=(uJ (a.length:Int)).bind fun u1 =>(bY (yO a) BIG (0,(List.replicate (a.length:Int).toNat (aO.mk (0:Int) (0:Int))))).bind fun b11 => some b11
def qQ (a:aH):Option aH:=(yM a.Graph).bind fun r1 =>(yN a.Places).bind fun r2 => some (aH.mk r1 r2)
def D6 (a:Int) (n:Int) (s1:Int × Int):Option ((Int × Int) ⊕ Int):=bif decide (s1.2 < n) then some (.inl ((aJ (s1.1 * a)),(aJ (s1.2 + 1)))) else some (.inr s1.1)
def rZ (a:Int) (n:Int):Option Int:=(bY (D6 a n) BIG (1,0)).bind fun b4 => some b4
def yc (f:aH):Option aH:=(Ac f.Graph).bind fun r1 =>(lim (([]:List aO).length + f.Places.length)).bind fun u2 => some (aH.mk r1 (([]:List aO) ++ f.Places))
def yV (a:au) (b:au) (s5:Int):Option (Int ⊕ (Unit ⊕ Bool)):=bif decide (s5 < (a.aB.length:Int)) then (idx a.aB s5).bind (fun x16 =>(idx b.aB s5).bind fun x17 => bif !(gY [x16.A,x16.B] [x17.A,x17.B]) then some (.inr (.inr false)) else some (.inl (aJ (s5 + 1)))) else some (.inr (.inl ()))
def yU (a:au) (b:au):Option Bool:=((bif a.aC != b.aC then some true else some ((a.aB.length:Int) != (b.aB.length:Int))):Option Bool).bind fun j2 => bif j2 then some false else (bY (yV a b) BIG 0).bind (Sum.elim (fun b14 =>(some true)) (fun r => some r))
def qV (f:aH) (s1:Int × (List Int)):Option ((Int × (List Int)) ⊕ (List Int)):=((bif decide (s1.1 < (f.Graph.aB.length:Int)) then (qR f).bind (fun dZ => some dZ) else some false):Option Bool).bind fun j27 => bif j27 then (idx f.Graph.aB s1.1).bind (fun x31 =>(idx f.Places x31.A).bind fun x32 =>(idx f.Graph.aB s1.1).bind fun KO =>(idx f.Places KO.B).bind fun x34 =>(lim (s1.2.length + ([(aJ ((aJ ((aJ (x32.X - x34.X)) * (aJ (x32.X - x34.X)))) + (aJ ((aJ (x32.Y - x34.Y)) * (aJ (x32.Y - x34.Y))))))]:List Int).length)).bind fun u35 => some (.inl ((aJ (s1.1 + 1)),(s1.2 ++ ([(aJ ((aJ ((aJ (x32.X - x34.X)) * (aJ (x32.X - x34.X)))) + (aJ ((aJ (x32.Y - x34.Y)) * (aJ (x32.Y - x34.Y))))))]:List Int))))) else some (.inr s1.2)
def vM (f:aH):Option (List Int):=(bY (qV f) BIG (0,([]:List Int))).bind fun nJ => some nJ
def yh (a:List Int) (b:List Int) (s2:Int):Option (Int ⊕ (Unit ⊕ Bool)):=bif decide (s2 < (a.length:Int)) then (idx a s2).bind (fun jL =>(idx b s2).bind fun x14 => bif jL != x14 then some (.inr (.inr false)) else some (.inl (aJ (s2 + 1)))) else some (.inr (.inl ()))
def yg (a:List Int) (b:List Int):Option Bool:=bif (a.length:Int) != (b.length:Int) then some false else (bY (yh a b) BIG 0).bind (Sum.elim (fun b11 =>(some true)) (fun r => some r))
def yT (a:aH) (b:aH):Option Bool:=(((qR a).bind fun r11 => bif r11 then (qR b).bind (fun r13 => bif r13 then (yU a.Graph b.Graph).bind (fun fO => bif fO then (vM a).bind (fun eu =>(vM b).bind fun kG =>(yg eu kG).bind fun nU => some nU) else some false) else some false) else some false):Option Bool).bind fun j10 => some j10
def qU (s7:Int × (List aH)) (dh:aH) (eF:Int × Int × (List aO)):Option ((Int × Int × (List aO)) ⊕ (Int × (List aH) × (List aQ) × (List aO) × Int)):=bif decide (2 ≤ eF.2.1) then (idx eF.2.2 eF.2.1).bind (fun wB => some (.inl ((aJ (Int.tdiv eF.1 25)),(aJ (eF.2.1 - 1)),(eF.2.2.set eF.2.1.toNat (aO.mk (Int.tmod eF.1 5) (Int.tmod (aJ (Int.tdiv eF.1 5)) 5)))))) else some (.inr (s7.1,s7.2,dh.Graph.aB,eF.2.2,dh.Graph.aC))
def vK (f:aH) (s7:Int × (List aH)):Option ((Int × (List aH)) ⊕ (List aH)):=(rZ 25 (if 0 < (aJ (f.Graph.aC - 2)) then (aJ (f.Graph.aC - 2)) else 0)).bind fun qc => bif decide (s7.1 < qc) then (yc f).bind (fun dh =>(bY (qU s7 dh) BIG (s7.1,(aJ (f.Graph.aC - 1)),dh.Places)).bind fun bH =>(yT f (aH.mk (au.mk bH.2.2.2.2 bH.2.2.1) bH.2.2.2.1)).bind fun oL =>((bif oL then (lim (bH.2.1.length + [(aH.mk (au.mk bH.2.2.2.2 bH.2.2.1) bH.2.2.2.1)].length)).bind (fun u55 => some (bH.2.1 ++ [(aH.mk (au.mk bH.2.2.2.2 bH.2.2.1) bH.2.2.2.1)])) else some bH.2.1):Option (List aH)).bind fun j53 => some (.inl ((aJ (bH.1 + 1)),j53))) else some (.inr s7.2)
def yZ (f:aH):Option ((List aH) × Bool):=(((qR f).bind fun r4 => bif !r4 then some true else some (decide (4 < f.Graph.aC))):Option Bool).bind fun j3 => bif j3 then some (([]:List aH),false) else (bY (vK f) BIG (0,([]:List aH))).bind fun fA => some (fA,true)
def AQ (g:au):Option au:=(lim (([]:List aQ).length + g.aB.length)).bind fun u1 => some (au.mk g.aC (([]:List aQ) ++ g.aB))
def ug (f:aH):Option aH:=(AQ f.Graph).bind fun r1 =>(lim (([]:List aO).length + f.Places.length)).bind fun u2 => some (aH.mk r1 (([]:List aO) ++ f.Places))
def yR (gI:List aQ) (iY:List aQ) (s2:Int):Option (Int ⊕ (Unit ⊕ Bool)):=bif decide (s2 < (gI.length:Int)) then (idx gI s2).bind (fun jL =>(idx iY s2).bind fun x14 => bif !(gY [jL.A,jL.B] [x14.A,x14.B]) then some (.inr (.inr false)) else some (.inl (aJ (s2 + 1)))) else some (.inr (.inl ()))
def yQ (gI:List aQ) (iY:List aQ):Option Bool:=bif (gI.length:Int) != (iY.length:Int) then some false else (bY (yR gI iY) BIG 0).bind (Sum.elim (fun b11 =>(some true)) (fun r => some r))
def xY (a:au) (b:au):Option Bool:=((bif a.aC == b.aC then (yQ a.aB b.aB).bind (fun r5 => some r5) else some false):Option Bool).bind fun j3 => some j3
def xZ (f:aH) (a:Int) (b:Int):Option Int:=(idx f.Places a).bind fun x1 =>(idx f.Places b).bind fun x2 =>(idx f.Places a).bind fun x3 =>(idx f.Places b).bind fun x4 => some (aJ ((aJ ((aJ (x1.X - x2.X)) * (aJ (x1.X - x2.X)))) + (aJ ((aJ (x3.Y - x4.Y)) * (aJ (x3.Y - x4.Y))))))
def uY (f:aH) (s3:Int × (List Int)):Option ((Int × (List Int)) ⊕ (List Int)):=bif decide (s3.1 < (f.Graph.aB.length:Int)) then (idx f.Graph.aB s3.1).bind (fun x14 =>(xZ f x14.A x14.B).bind fun fO =>(lim (s3.2.length + ([fO]:List Int).length)).bind fun u16 => some (.inl ((aJ (s3.1 + 1)),(s3.2 ++ ([fO]:List Int))))) else some (.inr s3.2)
def uX (f:aH):Option (List Int):=(qO f).bind fun r1 => bif !r1 then some ([]:List Int) else (bY (uY f) BIG (0,([]:List Int))).bind fun b12 => some b12
def yS (gI:List Int) (iY:List Int) (s2:Int):Option (Int ⊕ (Unit ⊕ Bool)):=bif decide (s2 < (gI.length:Int)) then (idx gI s2).bind (fun jL =>(idx iY s2).bind fun x14 => bif jL != x14 then some (.inr (.inr false)) else some (.inl (aJ (s2 + 1)))) else some (.inr (.inl ()))
def yP (gI:List Int) (iY:List Int):Option Bool:=bif (gI.length:Int) != (iY.length:Int) then some false else (bY (yS gI iY) BIG 0).bind (Sum.elim (fun b11 =>(some true)) (fun r => some r))
def xX (a:aH) (b:aH):Option Bool:=(((qO a).bind fun r11 => bif r11 then (qO b).bind (fun r13 => bif r13 then (xY a.Graph b.Graph).bind (fun fO => bif fO then (uX a).bind (fun eu =>(uX b).bind fun kG =>(yP eu kG).bind fun nU => some nU) else some false) else some false) else some false):Option Bool).bind fun j10 => some j10
def rW (x:aH) (v:Int) (s10:Int × (List aQ) × (List aO) × Int × (List aQ) × (List aO) × (List aH)) (oM:aH → Int → aH → (List aH) → Option ((List aQ) × (List aO) × aH × (List aH))) (af:Int × (List aQ) × (List aO) × Int × (List aQ) × (List aO) × (List aH)):Option ((Int × (List aQ) × (List aO) × Int × (List aQ) × (List aO) × (List aH)) ⊕ (Int × (List aQ) × (List aO) × Int × (List aQ) × (List aO) × (List aH))):=bif decide (af.1 < 5) then (idx af.2.2.1 v).bind (fun x40 =>(oM (aH.mk (au.mk x.Graph.aC af.2.1) (af.2.2.1.set v.toNat (aO.mk af.1 s10.1))) (aJ (v + 1)) (aH.mk (au.mk af.2.2.2.1 af.2.2.2.2.1) af.2.2.2.2.2.1) af.2.2.2.2.2.2).bind fun dh =>(same af.2.1.length dh.1.length).bind fun u42 =>(same ((af.2.2.1.set v.toNat (aO.mk af.1 s10.1)).length) dh.2.1.length).bind fun Sj => some (.inl ((aJ (af.1 + 1)),dh.1,dh.2.1,dh.2.2.1.Graph.aC,dh.2.2.1.Graph.aB,dh.2.2.1.Places,dh.2.2.2))) else some (.inr (s10.1,af.2.1,af.2.2.1,af.2.2.2.1,af.2.2.2.2.1,af.2.2.2.2.2.1,af.2.2.2.2.2.2))
def uV (x:aH) (v:Int) (oM:aH → Int → aH → (List aH) → Option ((List aQ) × (List aO) × aH × (List aH))) (s10:Int × (List aQ) × (List aO) × Int × (List aQ) × (List aO) × (List aH)):Option ((Int × (List aQ) × (List aO) × Int × (List aQ) × (List aO) × (List aH)) ⊕ ((List aQ) × (List aO) × Int × (List aQ) × (List aO) × (List aH))):=bif decide (s10.1 < 5) then ((bY (rW x v s10 oM) BIG (0,s10.2.1,s10.2.2.1,s10.2.2.2.1,s10.2.2.2.2.1,s10.2.2.2.2.2.1,s10.2.2.2.2.2.2)).bind fun fA => some (.inl ((aJ (fA.1 + 1)),fA.2.1,fA.2.2.1,fA.2.2.2.1,fA.2.2.2.2.1,fA.2.2.2.2.2.1,fA.2.2.2.2.2.2))) else some (.inr (s10.2.1,s10.2.2.1,s10.2.2.2.1,s10.2.2.2.2.1,s10.2.2.2.2.2.1,s10.2.2.2.2.2.2))
def pU (oM:aH → Int → aH → (List aH) → Option ((List aQ) × (List aO) × aH × (List aH))) (x:aH) (v:Int) (dV:aH) (dX:List aH):Option ((List aQ) × (List aO) × aH × (List aH)):=bif decide (x.Graph.aC ≤ v) then (xX dV x).bind (fun r2 =>((bif r2 then (ug x).bind (fun r8 =>(lim (dX.length + [r8].length)).bind fun u9 => some (dX ++ [r8])) else some dX):Option (List aH)).bind fun j6 => some (x.Graph.aB,x.Places,dV,j6)) else (bY (uV x v oM) BIG (0,x.Graph.aB,x.Places,dV.Graph.aC,dV.Graph.aB,dV.Places,dX)).bind fun ji => some (ji.1,ji.2.1,(aH.mk (au.mk ji.2.2.1 ji.2.2.2.1) ji.2.2.2.2.1),ji.2.2.2.2.2)
def mM:Nat → aH → Int → aH → (List aH) → Option ((List aQ) × (List aO) × aH × (List aH)) | 0,_,_,_,_ => none | n + 1,x,v,dV,dX => pU (mM n) x v dV dX
def uU (f:aH):Option ((List aH) × Bool × (List aQ) × (List aO)):=(((qO f).bind fun r4 => bif !r4 then some true else some (decide (4 < f.Graph.aC))):Option Bool).bind fun j3 => bif j3 then some (([]:List aH),false,f.Graph.aB,f.Places) else (ug f).bind fun r7 =>(mM 64 r7 2 f ([]:List aH)).bind fun r8 => some (r8.2.2.2,true,r8.2.2.1.Graph.aB,r8.2.2.1.Places)
def AX (a:aQ) (b:aQ):Option Bool:=bif a.A != b.A then some false else bif a.B != b.B then some false else some true
def xq (a:List aQ) (b:List aQ) (s2:Int):Option (Int ⊕ (Unit ⊕ Bool)):=bif decide (s2 < (a.length:Int)) then (idx a s2).bind (fun x15 =>(idx b s2).bind fun x16 =>(AX x15 x16).bind fun eu => bif !eu then some (.inr (.inr false)) else some (.inl (aJ (s2 + 1)))) else some (.inr (.inl ()))
def xk (a:List aQ) (b:List aQ):Option Bool:=bif (a.length:Int) != (b.length:Int) then some false else (bY (xq a b) BIG 0).bind (Sum.elim (fun b13 =>(some true)) (fun r => some r))
def xw (a:au) (b:au):Option Bool:=bif a.aC != b.aC then some false else (xk a.aB b.aB).bind fun r2 => bif !r2 then some false else some true
def AY (a:aO) (b:aO):Option Bool:=bif a.X != b.X then some false else bif a.Y != b.Y then some false else some true
def yA (a:List aO) (b:List aO) (s2:Int):Option (Int ⊕ (Unit ⊕ Bool)):=bif decide (s2 < (a.length:Int)) then (idx a s2).bind (fun x15 =>(idx b s2).bind fun x16 =>(AY x15 x16).bind fun eu => bif !eu then some (.inr (.inr false)) else some (.inl (aJ (s2 + 1)))) else some (.inr (.inl ()))
def x9 (a:List aO) (b:List aO):Option Bool:=bif (a.length:Int) != (b.length:Int) then some false else (bY (yA a b) BIG 0).bind (Sum.elim (fun b13 =>(some true)) (fun r => some r))
def uh (a:aH) (b:aH):Option Bool:=(xw a.Graph b.Graph).bind fun r1 => bif !r1 then some false else (x9 a.Places b.Places).bind fun r3 => bif !r3 then some false else some true
def xu (a:List aH) (b:List aH) (s2:Int):Option (Int ⊕ (Unit ⊕ Bool)):=bif decide (s2 < (a.length:Int)) then (idx a s2).bind (fun x15 =>(idx b s2).bind fun x16 =>(uh x15 x16).bind fun eu => bif !eu then some (.inr (.inr false)) else some (.inl (aJ (s2 + 1)))) else some (.inr (.inl ()))
def rY (a:List aH) (b:List aH):Option Bool:=bif (a.length:Int) != (b.length:Int) then some false else (bY (xu a b) BIG 0).bind (Sum.elim (fun b13 =>(some true)) (fun r => some r))
def uy  (s1:Int × Int × (List aQ)):Option ((Int × Int × (List aQ)) ⊕ (Int × (List aQ))):=bif decide (s1.2.1 < (s1.2.2.length:Int)) then (idx s1.2.2 s1.2.1).bind (fun x10 =>(idx (s1.2.2.set s1.2.1.toNat (aQ.mk s1.1 x10.B)) s1.2.1).bind fun x11 => some (.inl ((aJ ((aJ (s1.1 + 1)) + 1)),(aJ (s1.2.1 + 1)),((s1.2.2.set s1.2.1.toNat (aQ.mk s1.1 x10.B)).set s1.2.1.toNat (aQ.mk x11.A (aJ (s1.1 + 1))))))) else some (.inr (s1.1,s1.2.2))
def uw (a:List aQ) (k:Int):Option (Int × (List aQ)):=(bY (uy) BIG (k,0,a)).bind fun b8 => some (b8.1,b8.2)
def yF (a:au) (k:Int):Option (Int × (List aQ)):=(uw a.aB k).bind fun r1 => some (r1.1,r1.2)
def vH  (s1:Int × Int × (List aO)):Option ((Int × Int × (List aO)) ⊕ (Int × (List aO))):=bif decide (s1.2.1 < (s1.2.2.length:Int)) then (idx s1.2.2 s1.2.1).bind (fun x10 =>(idx (s1.2.2.set s1.2.1.toNat (aO.mk s1.1 x10.Y)) s1.2.1).bind fun x11 => some (.inl ((aJ ((aJ (s1.1 + 1)) + 1)),(aJ (s1.2.1 + 1)),((s1.2.2.set s1.2.1.toNat (aO.mk s1.1 x10.Y)).set s1.2.1.toNat (aO.mk x11.X (aJ (s1.1 + 1))))))) else some (.inr (s1.1,s1.2.2))
def vC (a:List aO) (k:Int):Option (Int × (List aO)):=(bY (vH) BIG (k,0,a)).bind fun b8 => some (b8.1,b8.2)
def yD (a:aH) (k:Int):Option (Int × (List aQ) × (List aO)):=(yF a.Graph k).bind fun r1 =>(vC a.Places r1.1).bind fun r2 => some (r2.1,r1.2,r2.2)
def uj (a:List aQ) (s1:Int × Int):Option ((Int × Int) ⊕ (Int ⊕ Int)):=bif decide (s1.2 < (a.length:Int)) then (idx a s1.2).bind (fun x14 => bif x14.A != s1.1 then some (.inr (.inr (-1))) else (idx a s1.2).bind fun x16 => bif x16.B != (aJ (s1.1 + 1)) then some (.inr (.inr (-1))) else some (.inl ((aJ ((aJ (s1.1 + 1)) + 1)),(aJ (s1.2 + 1))))) else some (.inr (.inl s1.1))
def yB (a:List aQ) (k:Int):Option Int:=(bY (uj a) BIG (k,0)).bind (Sum.elim (fun b12 =>(some b12)) (fun r => some r))
def uq (a:List aO) (s1:Int × Int):Option ((Int × Int) ⊕ (Int ⊕ Int)):=bif decide (s1.2 < (a.length:Int)) then (idx a s1.2).bind (fun x14 => bif x14.X != s1.1 then some (.inr (.inr (-1))) else (idx a s1.2).bind fun x16 => bif x16.Y != (aJ (s1.1 + 1)) then some (.inr (.inr (-1))) else some (.inl ((aJ ((aJ (s1.1 + 1)) + 1)),(aJ (s1.2 + 1))))) else some (.inr (.inl s1.1))
def yC (a:List aO) (k:Int):Option Int:=(bY (uq a) BIG (k,0)).bind (Sum.elim (fun b12 =>(some b12)) (fun r => some r))
def uo (a:List aH) (s1:Int × Int):Option ((Int × Int) ⊕ (Int ⊕ Int)):=bif decide (s1.2 < (a.length:Int)) then (idx a s1.2).bind (fun nC => bif nC.Graph.aC != s1.1 then some (.inr (.inr (-1))) else (idx a s1.2).bind fun x24 =>(yB x24.Graph.aB (aJ (s1.1 + 1))).bind fun r25 => bif decide (r25 < 0) then some (.inr (.inr (-1))) else (idx a s1.2).bind fun x27 =>(yC x27.Places r25).bind fun r28 => bif decide (r28 < 0) then some (.inr (.inr (-1))) else some (.inl (r28,(aJ (s1.2 + 1))))) else some (.inr (.inl s1.1))
def um (a:List aH) (k:Int):Option Int:=(bY (uo a) BIG (k,0)).bind (Sum.elim (fun b20 =>(some b20)) (fun r => some r))
abbrev SM (n:Nat):Prop:=n ≤ 2147483648
abbrev KM (k:Int):Prop:=0 ≤ k ∧ k ≤ 1099511627776
theorem SL (a:List aQ) (h:SM a.length):yK a = some a:=by
  unfold yK
  rw [IB (by omega) (by omega), Option.bind_some, Int.toNat_natCast, F7 a _ (by omega) (fun k l x y hx hy => ?_) (fun l => ?_)]
  · rfl
  · have hk:k < a.length:=(List.getElem?_eq_some_iff.1 hx).1
    simp only [yL, jP hx, jP hy, AZ, Option.bind_some, Int.toNat_natCast]
    rw [decide_eq_true (by omega)]
    rfl
  · simp [yL]
theorem NC (a:List aQ) (h:SM a.length):xk a a = some true:=by
  unfold xk
  rw [Bf a.length (by omega) (fun k hk => ?_) (by simp [xq] <;> rfl)]
  · simp
  · simp only [xq, lZ hk, AX, Option.bind_some]
    rw [decide_eq_true (by omega)]
    simp
def jH (b:Int) (n:Nat):List aQ:=(List.range n).map fun (i:Nat) => ⟨b + 2 * (i:Int), b + 1 + 2 * (i:Int)⟩
theorem Qh {b:Int} {n k:Nat} (h:k < n):(jH b n)[k]? = some ⟨b + 2 * (k:Int), b + 1 + 2 * (k:Int)⟩:=by simp [jH, h]
theorem lm (b:Int) (n:Nat):(jH b n).length = n:=by simp [jH]
theorem IY (a:List aQ) (h:SM a.length) (b:Int) (hb:KM b):uw a b = some (b + 2 * (a.length:Int), jH b a.length):=by
  have e:bY uy BIG (b, 0, a) = some ((b + 2 * (a.length:Int)), jH b a.length):=by
    refine lg (fun (k:Nat) => ((b + 2 * (k:Int)), (k:Int), jH b k ++ a.drop k)) a.length (by omega) (by simp [jH]) (fun k hk => ?_) (by simp [uy, lm])
    have hl:(jH b k ++ a.drop k).length = a.length:=by simp [lm]; omega
    have hi:idx (jH b k ++ a.drop k) (k:Int) = some a[k]:=by
      apply jP
      rw [List.getElem?_append_right (by simp [lm]), lm, Nat.sub_self, List.getElem?_drop, Nat.add_zero, List.getElem?_eq_getElem hk]
    have hset:∀ x, (jH b k ++ a.drop k).set k x = jH b k ++ (x :: a.drop (k + 1)):=fun x => by
      rw [List.set_append_right _ _ (by simp [lm]), lm, Nat.sub_self, List.drop_eq_getElem_cons hk, List.set_cons_zero]
    have hi2:∀ x:aQ, idx (jH b k ++ (x :: a.drop (k + 1))) (k:Int) = some x:=fun x => by
      apply jP
      rw [List.getElem?_append_right (by simp [lm]), lm, Nat.sub_self]
      rfl
    have Dc:∀ x y:aQ, (jH b k ++ (x :: a.drop (k + 1))).set k y = jH b k ++ (y :: a.drop (k + 1)):=fun x y => by
      rw [List.set_append_right _ _ (by simp [lm]), lm, Nat.sub_self, List.set_cons_zero]
    have e1:aJ (b + 2 * (k:Int) + 1) = b + 1 + 2 * (k:Int):=by rw [jA (by omega) (by omega)]; omega
    have e2:aJ (b + 1 + 2 * (k:Int) + 1) = b + 2 * ((k + 1:Nat):Int):=by rw [jA (by omega) (by omega)]; omega
    simp only [uy, hi, Option.bind_some, Int.toNat_natCast, hset, hi2, Dc, e1, e2, lC (show k ≤ 1099511627776 by omega)]
    rw [decide_eq_true (by rw [hl]; omega), cond_true]
    congr 4
    simp [jH, List.range_succ]
  unfold uw
  rw [e]
  rfl
theorem Oa (n:Nat) (h:SM n) (b:Int) (hb:KM b):yB (jH b n) b = some (b + 2 * (n:Int)):=by
  have e:bY (uj (jH b n)) BIG (b, 0) = some (.inl (b + 2 * (n:Int))):=by
    refine lg (fun (k:Nat) => ((b + 2 * (k:Int)), (k:Int))) n (by omega) (by simp) (fun k hk => ?_) (by simp [uj, lm])
    have e1:aJ (b + 2 * (k:Int) + 1) = b + 1 + 2 * (k:Int):=by rw [jA (by omega) (by omega)]; omega
    have e2:aJ (b + 1 + 2 * (k:Int) + 1) = b + 2 * ((k + 1:Nat):Int):=by rw [jA (by omega) (by omega)]; omega
    simp only [uj, lm, jP (Qh hk), Option.bind_some, e1, e2, lC (show k ≤ 1099511627776 by omega)]
    rw [decide_eq_true (by omega)]
    simp
  unfold yB
  rw [e]
  rfl
theorem SC (a:List aQ) (n:Int):∃ z, yG a n = some z:=by
  unfold yG
  cases decide (aJ (n - (a.length:Int)) < 0) <;> exact ⟨_, rfl⟩
theorem SS (a:List aO) (h:SM a.length):yN a = some a:=by
  unfold yN
  rw [IB (by omega) (by omega), Option.bind_some, Int.toNat_natCast, F7 a _ (by omega) (fun k l x y hx hy => ?_) (fun l => ?_)]
  · rfl
  · have hk:k < a.length:=(List.getElem?_eq_some_iff.1 hx).1
    simp only [yO, jP hx, jP hy, Aa, Option.bind_some, Int.toNat_natCast]
    rw [decide_eq_true (by omega)]
    rfl
  · simp [yO]
theorem NI (a:List aO) (h:SM a.length):x9 a a = some true:=by
  unfold x9
  rw [Bf a.length (by omega) (fun k hk => ?_) (by simp [yA] <;> rfl)]
  · simp
  · simp only [yA, lZ hk, AY, Option.bind_some]
    rw [decide_eq_true (by omega)]
    simp
def jQ (b:Int) (n:Nat):List aO:=(List.range n).map fun (i:Nat) => ⟨b + 2 * (i:Int), b + 1 + 2 * (i:Int)⟩
theorem Qi {b:Int} {n k:Nat} (h:k < n):(jQ b n)[k]? = some ⟨b + 2 * (k:Int), b + 1 + 2 * (k:Int)⟩:=by simp [jQ, h]
theorem lq (b:Int) (n:Nat):(jQ b n).length = n:=by simp [jQ]
theorem IZ (a:List aO) (h:SM a.length) (b:Int) (hb:KM b):vC a b = some (b + 2 * (a.length:Int), jQ b a.length):=by
  have e:bY vH BIG (b, 0, a) = some ((b + 2 * (a.length:Int)), jQ b a.length):=by
    refine lg (fun (k:Nat) => ((b + 2 * (k:Int)), (k:Int), jQ b k ++ a.drop k)) a.length (by omega) (by simp [jQ]) (fun k hk => ?_) (by simp [vH, lq])
    have hl:(jQ b k ++ a.drop k).length = a.length:=by simp [lq]; omega
    have hi:idx (jQ b k ++ a.drop k) (k:Int) = some a[k]:=by
      apply jP
      rw [List.getElem?_append_right (by simp [lq]), lq, Nat.sub_self, List.getElem?_drop, Nat.add_zero, List.getElem?_eq_getElem hk]
    have hset:∀ x, (jQ b k ++ a.drop k).set k x = jQ b k ++ (x :: a.drop (k + 1)):=fun x => by
      rw [List.set_append_right _ _ (by simp [lq]), lq, Nat.sub_self, List.drop_eq_getElem_cons hk, List.set_cons_zero]
    have hi2:∀ x:aO, idx (jQ b k ++ (x :: a.drop (k + 1))) (k:Int) = some x:=fun x => by
      apply jP
      rw [List.getElem?_append_right (by simp [lq]), lq, Nat.sub_self]
      rfl
    have Dc:∀ x y:aO, (jQ b k ++ (x :: a.drop (k + 1))).set k y = jQ b k ++ (y :: a.drop (k + 1)):=fun x y => by
      rw [List.set_append_right _ _ (by simp [lq]), lq, Nat.sub_self, List.set_cons_zero]
    have e1:aJ (b + 2 * (k:Int) + 1) = b + 1 + 2 * (k:Int):=by rw [jA (by omega) (by omega)]; omega
    have e2:aJ (b + 1 + 2 * (k:Int) + 1) = b + 2 * ((k + 1:Nat):Int):=by rw [jA (by omega) (by omega)]; omega
    simp only [vH, hi, Option.bind_some, Int.toNat_natCast, hset, hi2, Dc, e1, e2, lC (show k ≤ 1099511627776 by omega)]
    rw [decide_eq_true (by rw [hl]; omega), cond_true]
    congr 4
    simp [jQ, List.range_succ]
  unfold vC
  rw [e]
  rfl
theorem Oe (n:Nat) (h:SM n) (b:Int) (hb:KM b):yC (jQ b n) b = some (b + 2 * (n:Int)):=by
  have e:bY (uq (jQ b n)) BIG (b, 0) = some (.inl (b + 2 * (n:Int))):=by
    refine lg (fun (k:Nat) => ((b + 2 * (k:Int)), (k:Int))) n (by omega) (by simp) (fun k hk => ?_) (by simp [uq, lq])
    have e1:aJ (b + 2 * (k:Int) + 1) = b + 1 + 2 * (k:Int):=by rw [jA (by omega) (by omega)]; omega
    have e2:aJ (b + 1 + 2 * (k:Int) + 1) = b + 2 * ((k + 1:Nat):Int):=by rw [jA (by omega) (by omega)]; omega
    simp only [uq, lq, jP (Qi hk), Option.bind_some, e1, e2, lC (show k ≤ 1099511627776 by omega)]
    rw [decide_eq_true (by omega)]
    simp
  unfold yC
  rw [e]
  rfl
theorem SH (a:List aO) (n:Int):∃ z, yJ a n = some z:=by
  unfold yJ
  cases decide (aJ (n - (a.length:Int)) < 0) <;> exact ⟨_, rfl⟩
theorem SQ (a:au) (h0:SM a.aB.length):yM a = some a:=by
  unfold yM
  simp only [SL a.aB h0, Option.bind_some]
theorem NH (a:au) (h0:SM a.aB.length):xw a a = some true:=by
  unfold xw
  simp [NC a.aB h0]
theorem SG (a:au) (n:Int):∃ z, yI a n = some z:=by
  unfold yI
  obtain ⟨z0, e0⟩:=SC a.aB n
  rw [e0, Option.bind_some]
  cases decide (z0 < 0)
  rotate_left
  · exact ⟨_, rfl⟩
  simp only [cond_false]
  exact ⟨_, rfl⟩
theorem Qe (a:au) (h0:SM a.aB.length) (b:Int) (hb:0 ≤ b) (hb2:b ≤ 549755813888):yF a b = some ((b + 2 * (a.aB.length:Int)), jH b a.aB.length):=by
  unfold yF
  simp only [IY a.aB h0 b ⟨by omega, by omega⟩, Option.bind_some]
theorem SN (a:aH) (h0:SM a.Graph.aB.length) (h1:SM a.Places.length):qQ a = some a:=by
  unfold qQ
  simp only [SQ a.Graph h0, SS a.Places h1, Option.bind_some]
theorem GN (a:aH) (h0:SM a.Graph.aB.length) (h1:SM a.Places.length):uh a a = some true:=by
  unfold uh
  simp [NH a.Graph h0, NI a.Places h1]
theorem SE (a:aH) (n:Int):∃ z, yH a n = some z:=by
  unfold yH
  obtain ⟨z0, e0⟩:=SG a.Graph n
  rw [e0, Option.bind_some]
  cases decide (z0 < 0)
  rotate_left
  · exact ⟨_, rfl⟩
  simp only [cond_false]
  obtain ⟨z1, e1⟩:=SH a.Places z0
  rw [e1, Option.bind_some]
  cases decide (z1 < 0)
  rotate_left
  · exact ⟨_, rfl⟩
  simp only [cond_false]
  exact ⟨_, rfl⟩
theorem Qd (a:aH) (h0:SM a.Graph.aB.length) (h1:SM a.Places.length) (b:Int) (hb:0 ≤ b) (hb2:b ≤ 274877906944):yD a b = some (((b + 2 * (a.Graph.aB.length:Int)) + 2 * (a.Places.length:Int)), jH b a.Graph.aB.length, jQ (b + 2 * (a.Graph.aB.length:Int)) a.Places.length):=by
  unfold yD
  simp only [Qe a.Graph h0 b (by omega) (by omega), IZ a.Places h1 (b + 2 * (a.Graph.aB.length:Int)) ⟨by omega, by omega⟩, Option.bind_some]
theorem H9 (x lo hi:Int):rq x lo hi = some (decide (lo ≤ x) && decide (x ≤ hi)):=by
 unfold rq
 cases decide (lo ≤ x) <;> simp
theorem BN (x lo hi:Int):rX x lo hi = some (decide (lo ≤ x) && decide (x ≤ hi)):=by
 unfold rX
 cases decide (lo ≤ x) <;> simp
theorem F6 (a b:Int):uf a b = some (if a < b then -1 else if b < a then 1 else 0):=by
 unfold uf
 by_cases h1:a < b
 ·simp [h1]
 ·by_cases h2:b < a <;> simp [h1,h2]
def rD (x y:aQ):Bool:=decide (y.A < x.A) || (x.A == y.A && decide (y.B < x.B))
theorem F5 (x y:aQ):∃ c,uZ x y = some c ∧ decide (0 < c) = rD x y:=by
 unfold uZ rD
 rw [F6,F6]
 by_cases h1:x.A < y.A
 ·have h3:(x.A == y.A) = false:=by simp; omega
  exact ⟨-1,by simp [h1],by simp [h3]; omega⟩
 ·by_cases h2:y.A < x.A
  ·exact ⟨1,by simp [h1,h2],by simp [h2]⟩
  ·have:x.A = y.A:=by omega
   by_cases h3:x.B < y.B
   ·exact ⟨-1,by simp [this,h3],by simp [this]; omega⟩
   ·by_cases h4:y.B < x.B
    ·exact ⟨1,by simp [this,h3,h4],by simp [this,h4]⟩
    ·exact ⟨0,by simp [this,h3,h4],by simp [this]; omega⟩
theorem QT (x y:aQ):vN x y = some (!rD x y):=by
 unfold vN rD
 by_cases h1:x.A < y.A
 ·have h3:(x.A == y.A) = false:=by simp; omega
  simp [h1,h3]; omega
 ·by_cases h2:y.A < x.A
  ·have h3:(x.A == y.A) = false:=by simp; omega
   simp [h1,h2,h3]
  ·have:x.A = y.A:=by omega
   by_cases h4:y.B < x.B
   ·have h5:¬ x.B ≤ y.B:=by omega
    simp [this,h4,h5]
   ·have h5:x.B ≤ y.B:=by omega
    simp [this,h4,h5]
def tV (g:au) (k:Nat):Bool:=match g.aB[k]? with
 | none => false
 | some x => decide (x.A < 0) || decide (x.B ≤ x.A) || decide (g.aC ≤ x.B) || (decide (0 < k) && match g.aB[k - 1]? with
  | none => false
  | some y => rD y x)
def vG (g:au):Bool:=decide (1 ≤ g.aC) && decide (g.aC ≤ 8) && !decide (24 < (g.aB.length:Int)) && !(List.range' 0 g.aB.length).any (tV g)
theorem Hw (g:au) (h:SM g.aB.length):uT g = some (vG g):=by
 have e:bY (qP g) BIG 0 = some (bif (List.range' 0 g.aB.length).any (tV g) then .inr false else .inl ()):=by
  refine rC (tV g) false g.aB.length (by omega) (fun k hk => ?_) (by simp [qP])
  unfold qP tV
  rw [decide_eq_true (by omega),cond_true,lZ hk,Option.bind_some,List.getElem?_eq_getElem hk]
  simp only
  cases decide (g.aB[k].A < 0)
  ·cases decide (g.aB[k].B ≤ g.aB[k].A)
   ·cases decide (g.aC ≤ g.aB[k].B)
    ·by_cases h0:0 < k
     ·have e1:aJ ((k:Int) - 1) = ((k - 1:Nat):Int):=by rw [jA (by omega) (by omega)]; omega
      obtain ⟨c,hc,hd⟩:=F5 (g.aB[k - 1]'(by omega)) g.aB[k]
      rw [decide_eq_true (show (0:Int) < (k:Int) by omega),decide_eq_true h0,e1,lZ (show k - 1 < g.aB.length by omega),List.getElem?_eq_getElem (show k - 1 < g.aB.length by omega)]
      simp only [cond_false,cond_true,Option.bind_some,hc,hd,Bool.false_or,Bool.true_and]
     ·rw [decide_eq_false (show ¬ (0:Int) < (k:Int) by omega),decide_eq_false h0]
      rfl
    ·rfl
   ·rfl
  ·rfl
 unfold uT vG
 rw [BN,e]
 simp only [Option.bind_some]
 cases decide (1 ≤ g.aC) && decide (g.aC ≤ 8)
 ·rfl
 ·cases decide (24 < (g.aB.length:Int))
  ·cases (List.range' 0 g.aB.length).any (tV g) <;> rfl
  ·rfl
theorem QH (g:au):yY g = qP g:=by
 funext s
 unfold yY qP
 have e:∀ x y,((vN x y).bind fun r => some (!r)) = (uZ x y).bind fun r => some (decide (0 < r)):=fun x y => by
  obtain ⟨c,hc,hd⟩:=F5 x y
  rw [QT,hc]
  simp [hd]
 simp only [e]
theorem QG (g:au) (h:SM g.aB.length):yX g = some (vG g):=by
 rw [← Hw g h]
 unfold yX uT
 rw [H9,BN,QH]
structure VG (g:au):Prop where
 p1:1 ≤ g.aC
 p8:g.aC ≤ 8
 len:g.aB.length ≤ 24
 a0:∀ {k:Nat} {x:aQ},g.aB[k]? = some x → 0 ≤ x.A
 ab:∀ {k:Nat} {x:aQ},g.aB[k]? = some x → x.A < x.B
 bp:∀ {k:Nat} {x:aQ},g.aB[k]? = some x → x.B < g.aC
 UW:∀ {k:Nat} {x y:aQ},g.aB[k]? = some x → g.aB[k + 1]? = some y → rD x y = false
theorem Et {g:au} (h:vG g = true):VG g:=by
 unfold vG at h
 simp only [Bool.and_eq_true,Bool.not_eq_true',decide_eq_true_eq,decide_eq_false_iff_not] at h
 obtain ⟨⟨⟨h1,h2⟩,h3⟩,h4⟩:=h
 rw [zN] at h4
 have hb:∀ {k:Nat} {x:aQ},g.aB[k]? = some x → 0 ≤ x.A ∧ x.A < x.B ∧ x.B < g.aC ∧ ∀ {y:aQ},0 < k → g.aB[k - 1]? = some y → rD y x = false:=fun {k x} hx => by
  have hk:k < g.aB.length:=(List.getElem?_eq_some_iff.1 hx).1
  have:=h4 k (by omega) (by omega)
  unfold tV at this
  rw [hx] at this
  simp only [Bool.or_eq_false_iff,decide_eq_false_iff_not,Bool.and_eq_false_iff] at this
  obtain ⟨⟨⟨a,b⟩,c⟩,d⟩:=this
  refine ⟨by omega,by omega,by omega,fun {y} hk hy => ?_⟩
  rw [hy] at d
  rcases d with d | d
  ·exact absurd hk d
  ·exact d
 exact ⟨h1,h2,by omega,fun hx => (hb hx).1,fun hx => (hb hx).2.1,fun hx => (hb hx).2.2.1,fun {k x y} hx hy => (hb hy).2.2.2 (by omega) (by simpa using hx)⟩
theorem VG.sm {g:au} (h:VG g):SM g.aB.length:=by have:=h.len; omega
def N9 (l:List Int) (x:Int):Bool:=l.any (· == x)
def qI {α:Type} (l:List α) (p:α → Bool) (k:Nat):Bool:=match l[k]? with
 | some x => p x
 | none => false
theorem FP {α:Type} {l:List α} {k:Nat} (h:k < l.length) (p:α → Bool):qI l p k = p l[k]:=by simp [qI,h]
theorem xK {α:Type} {l:List α} {i:Int} (d:α) (h0:0 ≤ i) (h1:i < (l.length:Int)):idx l i = some ((l[i.toNat]?).getD d):=by
 unfold idx
 rw [if_pos h0,List.getElem?_eq_getElem (by omega)]
 rfl
def jJ (f:aH) (v:Int):aO:=(f.Places[v.toNat]?).getD ⟨0,0⟩
def pV (p:aO):Bool:=(decide (0 ≤ p.X) && decide (p.X ≤ 4)) && (decide (0 ≤ p.Y) && decide (p.Y ≤ 4))
theorem QI (p:aO):xg p = some (pV p):=by
 unfold xg pV
 rw [BN,BN]
 simp only [Option.bind_some]
 cases decide (0 ≤ p.X) && decide (p.X ≤ 4) <;> rfl
def oW (f:aH) (k:Nat):Bool:=match f.Graph.aB[k]? with
 | none => false
 | some x => gY [(jJ f x.A).X,(jJ f x.A).Y] [(jJ f x.B).X,(jJ f x.B).Y] || (decide (0 < k) && match f.Graph.aB[k - 1]? with
  | none => false
  | some y => gY [y.A,y.B] [x.A,x.B])
def vF (f:aH):Bool:=vG f.Graph && !decide (6 < f.Graph.aC) && !((f.Places.length:Int) != f.Graph.aC) && !decide (15 < (f.Graph.aB.length:Int)) && !(List.range' 0 f.Places.length).any (qI f.Places fun p => !pV p) && !(List.range' 0 f.Graph.aB.length).any (oW f)
theorem QC (f:aH) (h:SM f.Places.length):bY (uQ f) BIG 0 = some (bif (List.range' 0 f.Places.length).any (qI f.Places fun p => !pV p) then .inr false else .inl ()):=by
 refine rC _ false f.Places.length (by omega) (fun k hk => ?_) (by simp [uQ])
 unfold uQ
 rw [decide_eq_true (by omega),cond_true,lZ hk,Option.bind_some,FP hk,QI,Option.bind_some]
theorem QE (f:aH) (h:SM f.Places.length):bY (vI f) BIG 0 = some (bif (List.range' 0 f.Places.length).any (qI f.Places fun p => !pV p) then .inr false else .inl ()):=by
 refine rC _ false f.Places.length (by omega) (fun k hk => ?_) (by simp [vI])
 unfold vI pV
 rw [decide_eq_true (by omega),cond_true,lZ hk,FP hk]
 simp only [H9,Option.bind_some]
 cases decide (0 ≤ f.Places[k].X) && decide (f.Places[k].X ≤ 4) <;> rfl
theorem QD (f:aH) (hv:VG f.Graph) (hp:(f.Places.length:Int) = f.Graph.aC):bY (uS f) BIG 0 = some (bif (List.range' 0 f.Graph.aB.length).any (oW f) then .inr false else .inl ()):=by
 refine rC _ false f.Graph.aB.length (by have:=hv.len; omega) (fun k hk => ?_) (by simp [uS])
 have hx:=List.getElem?_eq_getElem hk
 have a0:=hv.a0 hx
 have ab:=hv.ab hx
 have bp:=hv.bp hx
 unfold uS oW
 rw [decide_eq_true (by omega),cond_true,lZ hk,Option.bind_some,hx]
 simp only [xK (⟨0,0⟩:aO) a0 (show f.Graph.aB[k].A < (f.Places.length:Int) by omega),xK (⟨0,0⟩:aO) (show 0 ≤ f.Graph.aB[k].B by omega) (show f.Graph.aB[k].B < (f.Places.length:Int) by omega),Option.bind_some]
 by_cases h0:0 < k
 ·have hl:=hv.len
  have e1:aJ ((k:Int) - 1) = ((k - 1:Nat):Int):=by rw [jA (by omega) (by omega)]; omega
  rw [decide_eq_true (show (0:Int) < (k:Int) by omega),decide_eq_true h0,cond_true,e1,lZ (show k - 1 < f.Graph.aB.length by omega),Option.bind_some,List.getElem?_eq_getElem (show k - 1 < f.Graph.aB.length by omega)]
  simp only [Bool.true_and,jJ]
  cases gY [f.Graph.aB[k - 1].A,f.Graph.aB[k - 1].B] [f.Graph.aB[k].A,f.Graph.aB[k].B] <;> simp
 ·rw [decide_eq_false (show ¬ (0:Int) < (k:Int) by omega),decide_eq_false h0]
  simp [jJ]
theorem QF (f:aH) (hv:VG f.Graph) (hp:(f.Places.length:Int) = f.Graph.aC):bY (vJ f) BIG 0 = some (bif (List.range' 0 f.Graph.aB.length).any (oW f) then .inr false else .inl ()):=by
 refine rC _ false f.Graph.aB.length (by have:=hv.len; omega) (fun k hk => ?_) (by simp [vJ])
 have hx:=List.getElem?_eq_getElem hk
 have a0:=hv.a0 hx
 have ab:=hv.ab hx
 have bp:=hv.bp hx
 unfold vJ oW
 rw [decide_eq_true (by omega),cond_true,lZ hk,Option.bind_some,hx]
 simp only [xK (⟨0,0⟩:aO) a0 (show f.Graph.aB[k].A < (f.Places.length:Int) by omega),xK (⟨0,0⟩:aO) (show 0 ≤ f.Graph.aB[k].B by omega) (show f.Graph.aB[k].B < (f.Places.length:Int) by omega),Option.bind_some]
 by_cases h0:0 < k
 ·have hl:=hv.len
  have e1:aJ ((k:Int) - 1) = ((k - 1:Nat):Int):=by rw [jA (by omega) (by omega)]; omega
  rw [decide_eq_true (show (0:Int) < (k:Int) by omega),decide_eq_true h0,cond_true,e1,lZ (show k - 1 < f.Graph.aB.length by omega),Option.bind_some,List.getElem?_eq_getElem (show k - 1 < f.Graph.aB.length by omega)]
  simp only [Bool.true_and,jJ]
  generalize gY [((f.Places[f.Graph.aB[k].A.toNat]?).getD ⟨0,0⟩).X,_] _ = c
  cases c <;> simp
 ·rw [decide_eq_false (show ¬ (0:Int) < (k:Int) by omega),decide_eq_false h0]
  simp only [cond_false,Bool.false_and,Bool.or_false,jJ]
  generalize gY [((f.Places[f.Graph.aB[k].A.toNat]?).getD ⟨0,0⟩).X,_] _ = c
  cases c <;> simp
theorem rF {a b:Int}:(a != b) = false ↔ a = b:=by simp
theorem AL (f:aH) (h:SM f.Graph.aB.length) (h2:SM f.Places.length):qO f = some (vF f):=by
 unfold qO vF
 rw [Hw _ h,QC f h2]
 cases hg:vG f.Graph
 ·rfl
 ·cases decide (6 < f.Graph.aC)
  ·cases decide (15 < (f.Graph.aB.length:Int))
   ·cases hp:((f.Places.length:Int) != f.Graph.aC)
    ·rw [QD f (Et hg) (rF.1 hp)]
     cases (List.range' 0 f.Places.length).any (qI f.Places fun p => !pV p)
     ·cases (List.range' 0 f.Graph.aB.length).any (oW f) <;> rfl
     ·rfl
    ·rfl
   ·cases ((f.Places.length:Int) != f.Graph.aC) <;> rfl
  ·rfl
theorem xO (f:aH) (h:SM f.Graph.aB.length) (h2:SM f.Places.length):qR f = some (vF f):=by
 unfold qR vF
 rw [QG _ h,QE f h2]
 cases hg:vG f.Graph
 ·rfl
 ·cases decide (6 < f.Graph.aC)
  ·cases hp:((f.Places.length:Int) != f.Graph.aC)
   ·cases decide (15 < (f.Graph.aB.length:Int))
    ·rw [QF f (Et hg) (rF.1 hp)]
     cases (List.range' 0 f.Places.length).any (qI f.Places fun p => !pV p)
     ·cases (List.range' 0 f.Graph.aB.length).any (oW f) <;> rfl
     ·rfl
    ·rfl
   ·rfl
  ·rfl
structure VF (f:aH):Prop where
 g:VG f.Graph
 p6:f.Graph.aC ≤ 6
 len:f.Graph.aB.length ≤ 15
 kD:(f.Places.length:Int) = f.Graph.aC
 grid:∀ {k:Nat} {p:aO},f.Places[k]? = some p → 0 ≤ p.X ∧ p.X ≤ 4 ∧ 0 ≤ p.Y ∧ p.Y ≤ 4
 dif:∀ {k:Nat} {x:aQ},f.Graph.aB[k]? = some x → gY [(jJ f x.A).X,(jJ f x.A).Y] [(jJ f x.B).X,(jJ f x.B).Y] = false
 UU:∀ {k:Nat} {x y:aQ},f.Graph.aB[k]? = some x → f.Graph.aB[k + 1]? = some y → gY [x.A,x.B] [y.A,y.B] = false
theorem Es {f:aH} (h:vF f = true):VF f:=by
 unfold vF at h
 simp only [Bool.and_eq_true,Bool.not_eq_true',decide_eq_false_iff_not] at h
 obtain ⟨⟨⟨⟨⟨h1,h2⟩,h3⟩,h4⟩,h5⟩,h6⟩:=h
 rw [zN] at h5 h6
 refine ⟨Et h1,by omega,by omega,rF.1 h3,fun {k p} hk => ?_,fun {k x} hk => ?_,fun {k x y} hx hy => ?_⟩
 ·have hl:=(List.getElem?_eq_some_iff.1 hk).1
  have:=h5 k (by omega) (by omega)
  unfold qI at this
  rw [hk] at this
  simp only [Bool.not_eq_false',pV,Bool.and_eq_true,decide_eq_true_eq] at this
  exact ⟨this.1.1,this.1.2,this.2.1,this.2.2⟩
 ·have hl:=(List.getElem?_eq_some_iff.1 hk).1
  have:=h6 k (by omega) (by omega)
  unfold oW at this
  rw [hk] at this
  simp only [Bool.or_eq_false_iff] at this
  exact this.1
 ·have hl:=(List.getElem?_eq_some_iff.1 hy).1
  have:=h6 (k + 1) (by omega) (by omega)
  unfold oW at this
  rw [hy] at this
  simp only [Bool.or_eq_false_iff,Nat.add_sub_cancel,hx] at this
  simpa using this.2
theorem VF.Aq {f:aH} (h:VF f) {v:Int} (h0:0 ≤ v) (h1:v < f.Graph.aC):idx f.Places v = some (jJ f v):=xK _ h0 (by have:=h.kD; omega)
theorem VF.Ap {f:aH} (h:VF f) {v:Int} (h0:0 ≤ v) (h1:v < f.Graph.aC):0 ≤ (jJ f v).X ∧ (jJ f v).X ≤ 4 ∧ 0 ≤ (jJ f v).Y ∧ (jJ f v).Y ≤ 4:=by
 have hp:=h.kD
 have hl:v.toNat < f.Places.length:=by omega
 have e:f.Places[v.toNat]? = some (jJ f v):=by unfold jJ; rw [List.getElem?_eq_getElem hl]; rfl
 exact h.grid e
theorem J6 {a b c d:Int} (h1:0 ≤ a ∧ a ≤ 4) (h2:0 ≤ b ∧ b ≤ 4) (h3:0 ≤ c ∧ c ≤ 4) (h4:0 ≤ d ∧ d ≤ 4):aJ (aJ (aJ (a - b) * aJ (a - b)) + aJ (aJ (c - d) * aJ (c - d))) = (a - b) * (a - b) + (c - d) * (c - d):=by
 have sq:∀ x y:Int,0 ≤ x ∧ x ≤ 4 → 0 ≤ y ∧ y ≤ 4 → 0 ≤ (x - y) * (x - y) ∧ (x - y) * (x - y) ≤ 16:=fun x y hx hy => by
  have hz:∀ z:Int,-4 ≤ z → z ≤ 4 → 0 ≤ z * z ∧ z * z ≤ 16:=fun z h1 h2 => by
   have:z = -4 ∨ z = -3 ∨ z = -2 ∨ z = -1 ∨ z = 0 ∨ z = 1 ∨ z = 2 ∨ z = 3 ∨ z = 4:=by omega
   rcases this with h | h | h | h | h | h | h | h | h <;> subst h <;> decide
  exact hz _ (by omega) (by omega)
 have a1:=sq a b h1 h2
 have a2:=sq c d h3 h4
 rw [jA (n:=a - b) (by omega) (by omega),jA (n:=c - d) (by omega) (by omega),jA (n:=(a - b) * (a - b)) (by omega) (by omega),jA (n:=(c - d) * (c - d)) (by omega) (by omega),jA (by omega) (by omega)]
def Ec (p q:aO):Int:=(p.X - q.X) * (p.X - q.X) + (p.Y - q.Y) * (p.Y - q.Y)
theorem Rx {f:aH} (h:VF f) {a b:Int} (a0:0 ≤ a) (a1:a < f.Graph.aC) (b0:0 ≤ b) (b1:b < f.Graph.aC):xZ f a b = some (Ec (jJ f a) (jJ f b)):=by
 have ga:=h.Ap a0 a1
 have gb:=h.Ap b0 b1
 unfold xZ Ec
 simp only [h.Aq a0 a1,h.Aq b0 b1,Option.bind_some]
 rw [J6 ⟨ga.1,ga.2.1⟩ ⟨gb.1,gb.2.1⟩ ⟨ga.2.2.1,ga.2.2.2⟩ ⟨gb.2.2.1,gb.2.2.2⟩]
theorem GY {b:Int → Option (Int ⊕ (Unit ⊕ Bool))} (a c:List Int) (ha:SM a.length) (hl:a.length = c.length) (h:∀ (k:Nat) x y,k < a.length → a[k]? = some x → c[k]? = some y → b k = bif x != y then some (.inr (.inr false)) else some (.inl (aJ ((k:Int) + 1)))) (hr:b a.length = some (.inr (.inl ()))) :
  ((bY b BIG 0).bind (Sum.elim (fun _ => some true) (fun r => some r))) = some (decide (a = c)):=by
 have e:=rC (b:=b) (fun k => match a[k]?,c[k]? with | some x,some y => x != y | _,_ => false) false a.length (by omega) (fun k hk => by
  rw [h k a[k] (c[k]'(by omega)) hk (List.getElem?_eq_getElem hk) (List.getElem?_eq_getElem (by omega)),List.getElem?_eq_getElem hk,List.getElem?_eq_getElem (by omega)]) hr
 rw [e]
 by_cases hac:a = c
 ·subst hac
  rw [zN.2 (fun k _ hk => by rw [List.getElem?_eq_getElem (by omega)]; simp)]
  simp
 ·rw [decide_eq_false hac]
  have:(List.range' 0 a.length).any (fun k => match a[k]?,c[k]? with | some x,some y => x != y | _,_ => false) = true:=by
   cases hq:(List.range' 0 a.length).any (fun k => match a[k]?,c[k]? with | some x,some y => x != y | _,_ => false)
   ·rw [zN] at hq
    refine absurd (List.ext_getElem hl fun k h1 h2 => ?_) hac
    have:=hq k (by omega) (by omega)
    rw [List.getElem?_eq_getElem h1,List.getElem?_eq_getElem h2] at this
    simpa using this
   ·rfl
  rw [this]
  rfl
theorem QU (a b:List Int) (ha:SM a.length):yg a b = some (decide (a = b)):=by
 unfold yg
 by_cases hl:a.length = b.length
 ·rw [rF.2 (by rw [hl]),cond_false]
  refine GY a b ha hl (fun k x y hk hx hy => ?_) (by simp [yh])
  unfold yh
  rw [decide_eq_true (by omega),cond_true,jP hx,jP hy,Option.bind_some,Option.bind_some]
 ·have h1:((a.length:Int) != (b.length:Int)) = true:=by simp; omega
  rw [h1,decide_eq_false (fun h => hl (by rw [h]))]
  rfl
theorem Ro (a b:List Int) (ha:SM a.length):yP a b = some (decide (a = b)):=by
 unfold yP
 by_cases hl:a.length = b.length
 ·rw [rF.2 (by rw [hl]),cond_false]
  refine GY a b ha hl (fun k x y hk hx hy => ?_) (by simp [yS])
  unfold yS
  rw [decide_eq_true (by omega),cond_true,jP hx,jP hy,Option.bind_some,Option.bind_some]
 ·have h1:((a.length:Int) != (b.length:Int)) = true:=by simp; omega
  rw [h1,decide_eq_false (fun h => hl (by rw [h]))]
  rfl
def mD {α:Type} (e:α → α → Bool):List α → List α → Bool
 | [],[] => true
 | x :: a,y :: b => e x y && mD e a b
 | _,_ => false
theorem GX {α:Type} {e:α → α → Bool}:∀ (a b:List α),a.length = b.length → (List.range' 0 a.length).any (fun k => match a[k]?,b[k]? with | some x,some y => !e x y | _,_ => false) = !mD e a b
 | [],[],_ => rfl
 | [],y :: b,h => by simp at h
 | x :: a,[],h => by simp at h
 | x :: a,y :: b,h => by
  have ih:=GX (e:=e) a b (by simpa using h)
  rw [List.length_cons,List.range'_succ,List.any_cons]
  unfold mD
  rw [Bool.not_and,← ih,List.range'_eq_map_range,List.range'_eq_map_range,List.any_map,List.any_map]
  congr 1
  congr 1
  funext k
  simp [Function.comp,Nat.add_comm]
theorem GV {α:Type} {b:Int → Option (Int ⊕ (Unit ⊕ Bool))} (e:α → α → Bool) (a c:List α) (ha:SM a.length) (hl:a.length = c.length) (h:∀ (k:Nat) x y,k < a.length → a[k]? = some x → c[k]? = some y → b k = bif !e x y then some (.inr (.inr false)) else some (.inl (aJ ((k:Int) + 1)))) (hr:b a.length = some (.inr (.inl ()))) :
  ((bY b BIG 0).bind (Sum.elim (fun _ => some true) (fun r => some r))) = some (mD e a c):=by
 have h1:=rC (b:=b) (fun k => match a[k]?,c[k]? with | some x,some y => !e x y | _,_ => false) false a.length (by omega) (fun k hk => by
  rw [h k a[k] (c[k]'(by omega)) hk (List.getElem?_eq_getElem hk) (List.getElem?_eq_getElem (by omega)),List.getElem?_eq_getElem hk,List.getElem?_eq_getElem (by omega)]) hr
 rw [h1,GX a c hl]
 cases mD e a c <;> rfl
theorem GU {α:Type} {e:α → α → Bool}:∀ {a b:List α},mD e a b = true → a.length = b.length
 | [],[],_ => rfl
 | [],y :: b,h => by simp [mD] at h
 | x :: a,[],h => by simp [mD] at h
 | x :: a,y :: b,h => by
  unfold mD at h
  rw [Bool.and_eq_true] at h
  simp [GU h.2]
def zY (x y:aQ):Bool:=gY [x.A,x.B] [y.A,y.B]
def rJ (a b:au):Bool:=(a.aC == b.aC) && mD zY a.aB b.aB
theorem FV {α:Type} {a b:List α} (h:¬ a.length = b.length):((a.length:Int) != (b.length:Int)) = true:=by simp; omega
theorem GR {α:Type} {e:α → α → Bool} {a b:List α} (h:¬ a.length = b.length):mD e a b = false:=by
 rw [← Bool.not_eq_true]
 exact fun h2 => h (GU h2)
theorem Rn (a b:List aQ) (ha:SM a.length):yQ a b = some (mD zY a b):=by
 unfold yQ
 by_cases hl:a.length = b.length
 ·rw [rF.2 (by rw [hl]),cond_false]
  refine GV zY a b ha hl (fun k x y hk hx hy => ?_) (by simp [yR])
  unfold yR
  rw [decide_eq_true (by omega),cond_true,jP hx,jP hy,Option.bind_some,Option.bind_some]
  rfl
 ·rw [FV hl,GR hl]
  rfl
theorem NE (a b:au) (ha:SM a.aB.length):xY a b = some (rJ a b):=by
 unfold xY rJ
 rw [Rn _ _ ha]
 cases a.aC == b.aC <;> rfl
theorem NG (a b:au) (ha:SM a.aB.length):yU a b = some (rJ a b):=by
 unfold yU rJ
 rw [show (a.aC != b.aC) = !(a.aC == b.aC) from rfl]
 cases a.aC == b.aC
 ·rfl
 ·simp only [Bool.not_true,cond_false,Option.bind_some,Bool.true_and]
  by_cases hl:a.aB.length = b.aB.length
  ·rw [rF.2 (by rw [hl]),cond_false]
   refine GV zY a.aB b.aB ha hl (fun k x y hk hx hy => ?_) (by simp [yV])
   unfold yV
   rw [decide_eq_true (by omega),cond_true,jP hx,jP hy,Option.bind_some,Option.bind_some]
   rfl
  ·rw [FV hl,GR hl]
   rfl
def qh (f:aH) (k:Nat):List Int:=match f.Graph.aB[k]? with
 | some x => [Ec (jJ f x.A) (jJ f x.B)]
 | none => []
theorem Eb (f:aH) (k:Nat):(qh f k).length ≤ 1:=by
 unfold qh
 split
 ·exact Nat.le_refl _
 ·exact Nat.zero_le _
def oO (f:aH):List Int:=bif vF f then pieces (qh f) f.Graph.aB.length else []
theorem Jp (f:aH):(oO f).length ≤ f.Graph.aB.length:=by
 unfold oO
 cases vF f
 ·exact Nat.zero_le _
 ·have:=pieces_len (f:=qh f) (c:=1) f.Graph.aB.length (fun k _ => Eb f k)
  simpa using this
theorem Jm (f:aH) (h0:SM f.Graph.aB.length) (h1:SM f.Places.length):uX f = some (oO f):=by
 unfold uX oO
 rw [AL f h0 h1]
 cases hv:vF f
 ·rfl
 ·have h:=Es hv
  have hl:=h.len
  have:=BX (b:=uY f) (s:=(0,[])) (fun k out => ((k:Int),out)) (qh f) id 1 f.Graph.aB.length [] (by omega) rfl (fun k _ => Eb f k) (fun k out hk ho => by
   have hx:=List.getElem?_eq_getElem hk
   simp only [List.length_nil,Nat.zero_add,Nat.one_mul] at ho
   have a0:=h.g.a0 hx
   have ab:=h.g.ab hx
   have bp:=h.g.bp hx
   unfold uY qh
   simp only [jP hx,hx,Rx h a0 (by omega) (show 0 ≤ f.Graph.aB[k].B by omega) bp,Option.bind_some,lC (show k ≤ 1099511627776 by omega)]
   rw [decide_eq_true (by omega),cond_true,pI (by simp; omega)]
   rfl) (fun out => by simp [uY])
  simp only [Option.bind_some,Bool.not_true,cond_false,cond_true,this]
  rfl
theorem Jo (f:aH) (h0:SM f.Graph.aB.length) (h1:SM f.Places.length):vM f = some (oO f):=by
 unfold vM oO
 cases hv:vF f
 ·have e:bY (qV f) BIG (0,[]) = some []:=by
   refine lg (fun _ => (0,[])) 0 (by omega) rfl (fun k hk => by omega) ?_
   unfold qV
   rw [xO f h0 h1,hv]
   cases decide ((0:Int) < (f.Graph.aB.length:Int)) <;> rfl
  rw [e]
  rfl
 ·have h:=Es hv
  have hl:=h.len
  have:=BX (b:=qV f) (s:=(0,[])) (fun k out => ((k:Int),out)) (qh f) id 1 f.Graph.aB.length [] (by omega) rfl (fun k _ => Eb f k) (fun k out hk ho => by
   have hx:=List.getElem?_eq_getElem hk
   simp only [List.length_nil,Nat.zero_add,Nat.one_mul] at ho
   have a0:=h.g.a0 hx
   have ab:=h.g.ab hx
   have bp:=h.g.bp hx
   have ga:=h.Ap a0 (show f.Graph.aB[k].A < f.Graph.aC by omega)
   have gb:=h.Ap (show 0 ≤ f.Graph.aB[k].B by omega) bp
   unfold qV qh
   simp only [xO f h0 h1,hv,jP hx,hx,h.Aq a0 (show f.Graph.aB[k].A < f.Graph.aC by omega),h.Aq (show 0 ≤ f.Graph.aB[k].B by omega) bp,Option.bind_some,lC (show k ≤ 1099511627776 by omega)]
   rw [J6 ⟨ga.1,ga.2.1⟩ ⟨gb.1,gb.2.1⟩ ⟨ga.2.2.1,ga.2.2.2⟩ ⟨gb.2.2.1,gb.2.2.2⟩,decide_eq_true (by omega),cond_true,Option.bind_some,cond_true,pI (by simp; omega)]
   rfl) (fun out => by simp [qV])
  rw [this]
  rfl
def kY (a b:aH):Bool:=vF a && (vF b && (rJ a.Graph b.Graph && decide (oO a = oO b)))
theorem Jg (a b:aH) (h0:SM a.Graph.aB.length) (h1:SM a.Places.length) (h2:SM b.Graph.aB.length) (h3:SM b.Places.length):xX a b = some (kY a b):=by
 have hl:=Jp a
 unfold xX kY
 simp only [AL a h0 h1,AL b h2 h3,NE _ _ h0,Jm a h0 h1,Jm b h2 h3,Ro (oO a) _ (by omega),Option.bind_some]
 cases vF a
 ·rfl
 ·cases vF b
  ·rfl
  ·cases rJ a.Graph b.Graph <;> rfl
theorem Rq (a b:aH) (h0:SM a.Graph.aB.length) (h1:SM a.Places.length) (h2:SM b.Graph.aB.length) (h3:SM b.Places.length):yT a b = some (kY a b):=by
 have hl:=Jp a
 unfold yT kY
 simp only [xO a h0 h1,xO b h2 h3,NG _ _ h0,Jo a h0 h1,Jo b h2 h3,QU (oO a) _ (by omega),Option.bind_some]
 cases vF a
 ·rfl
 ·cases vF b
  ·rfl
  ·cases rJ a.Graph b.Graph <;> rfl
theorem Bd (f:aH) (h0:SM f.Graph.aB.length) (h1:SM f.Places.length):ug f = some f:=by
 unfold ug AQ
 rw [pI (by simp; omega),Option.bind_some,Option.bind_some,pI (by simp; omega)]
 rfl
theorem MO (f:aH) (h0:SM f.Graph.aB.length) (h1:SM f.Places.length):yc f = some f:=by
 unfold yc Ac
 rw [pI (by simp; omega),Option.bind_some,Option.bind_some,pI (by simp; omega)]
 rfl
def Qk (set:List Int) (k:Nat) (a:List Int × Nat):List Int × Nat:=bif N9 set k then (a.1 ++ [-1],a.2) else (a.1 ++ [(a.2:Int)],a.2 + 1)
def names (set:List Int) (n:Nat):List Int × Nat:=iter (Qk set) n ([],0)
def nm (l:List Int) (v:Int):Int:=(l[v.toNat]?).getD 0
structure VV (f:aH) (v:List Int):Prop where
 fr:VF f
 len:(v.length:Int) = 2 * f.Graph.aC
 sm:∀ {k:Nat} {x:Int},v[k]? = some x → -10000000000 ≤ x ∧ x ≤ 10000000000
def gv (v:List Int) (i:Int):Int:=(v[i.toNat]?).getD 0
theorem VV.lt {f:aH} {v:List Int} (h:VV f v) {i:Int} (h0:0 ≤ i) (h1:i < 2 * f.Graph.aC):-10000000000 ≤ gv v i ∧ gv v i ≤ 10000000000:=by
 have hl:=h.len
 have hn:i.toNat < v.length:=by omega
 refine h.sm (k:=i.toNat) ?_
 unfold gv
 rw [List.getElem?_eq_getElem hn]
 rfl
def nS (x:aQ) (v:Int):Int:=bif x.A == v then x.B else x.A
section
structure GB (P:Int) (bars:List aQ):Prop where
 p1:1 ≤ P
 p8:P ≤ 8
 len:bars.length ≤ 1000
 a0:∀ {k:Nat} {x:aQ},bars[k]? = some x → 0 ≤ x.A
 ab:∀ {k:Nat} {x:aQ},bars[k]? = some x → x.A ≠ x.B
 b0:∀ {k:Nat} {x:aQ},bars[k]? = some x → 0 ≤ x.B
 ap:∀ {k:Nat} {x:aQ},bars[k]? = some x → x.A < P
 bp:∀ {k:Nat} {x:aQ},bars[k]? = some x → x.B < P
theorem VG.gb {g:au} (h:VG g):GB g.aC g.aB :=
 ⟨h.p1,h.p8,by have:=h.len; omega,h.a0,fun hx => by have:=h.ab hx; omega,fun hx => by have:=h.a0 hx; have:=h.ab hx; omega,fun hx => by have:=h.ab hx; have:=h.bp hx; omega,h.bp⟩
def kC (bars:List aQ) (p:wH) (i:Nat):aQ:=((p.lS[i]?).bind fun e => bars[e.toNat]?).getD ⟨0,0⟩
structure PB (P:Int) (bars:List aQ) (k:Int) (m:Nat) (p:wH):Prop where
 k1:1 ≤ k
 k3:k ≤ 3
 fl:(p.Free.length:Int) = P
 tl:p.qH.length = p.lS.length
 pl:p.lS.length ≤ m
 pr:∀ {i:Nat} {e:Int},p.lS[i]? = some e → 0 ≤ e ∧ e < (bars.length:Int) ∧ e < (m:Int)
 inc:∀ {i:Nat} {e e':Int},p.lS[i]? = some e → p.lS[i + 1]? = some e' → e < e'
 ends:∀ {i:Nat} {t:Int},p.qH[i]? = some t → t = (kC bars p i).A ∨ t = (kC bars p i).B
 fr:∀ {v:Nat} {f:Int},p.Free[v]? = some f → 0 ≤ f ∧ f + (p.qH.count (v:Int):Int) = k
section
variable {P:Int} {bars:List aQ} {k:Int} {m:Nat} {p:wH}
theorem PB.bar (hg:GB P bars) (h:PB P bars k m p) {i:Nat} (hi:i < p.lS.length):∃ e,p.lS[i]? = some e ∧ idx bars e = some (kC bars p i) ∧ bars[e.toNat]? = some (kC bars p i):=by
 have h1:=List.getElem?_eq_getElem hi
 obtain ⟨e0,e1,_⟩:=h.pr h1
 refine ⟨_,h1,?_⟩
 have h2:bars[p.lS[i].toNat]? = some (kC bars p i):=by
  unfold kC
  rw [h1]
  simp only [Option.bind_some]
  rw [List.getElem?_eq_getElem (by omega)]
  rfl
 refine ⟨?_,h2⟩
 unfold idx
 rw [if_pos e0,h2]
theorem PB.JD (hg:GB P bars) (h:PB P bars k m p) {i:Nat} (hi:i < p.lS.length):0 ≤ (kC bars p i).A ∧ 0 ≤ (kC bars p i).B ∧ (kC bars p i).A ≠ (kC bars p i).B ∧ (kC bars p i).A < P ∧ (kC bars p i).B < P:=by
 obtain ⟨e,_,_,h2⟩:=h.bar hg hi
 exact ⟨hg.a0 h2,hg.b0 h2,hg.ab h2,hg.ap h2,hg.bp h2⟩
theorem I7 {x:aQ} {v:Int} (h:0 ≤ x.A ∧ 0 ≤ x.B ∧ x.A ≠ x.B ∧ x.A < P ∧ x.B < P) (hv:v = x.A ∨ v = x.B):0 ≤ nS x v ∧ nS x v < P ∧ nS x v ≠ v ∧ (nS x v = x.A ∨ nS x v = x.B) ∧ nS x (nS x v) = v:=by
 unfold nS
 rcases hv with rfl | rfl
 ·have e:(x.A == x.B) = false:=by simp; exact h.2.2.1
  simp only [beq_self_eq_true,cond_true,e,cond_false]
  exact ⟨by omega,by omega,by omega,.inr trivial,trivial⟩
 ·have e:(x.A == x.B) = false:=by simp; exact h.2.2.1
  simp only [e,cond_false,beq_self_eq_true,cond_true]
  exact ⟨by omega,by omega,by omega,.inl trivial,trivial⟩
theorem D8 (m:List (Int × Int)) (k v j:Int):mO (qX m k v) j = if j = k then v else mO m j:=by
 induction m with
 | nil =>
  simp only [qX,mO]
  by_cases h:j = k
  ·simp [h]
  ·have:(j == k) = false:=by simp [h]
   simp [h,this]
 | cons e r ih =>
  unfold qX
  cases hk:k == e.1 with
  | true =>
   rw [beq_iff_eq] at hk
   simp only [cond_true,mO]
   by_cases h:j = k
   ·simp [h]
   ·have h1:(j == k) = false:=by simp [h]
    have h2:(j == e.1) = false:=by simp [← hk,h]
    simp [h,h1,h2]
  | false =>
   simp only [cond_false,mO,ih]
   by_cases h:j = e.1
   ·have h1:¬ j = k:=fun h2 => by
     rw [← h2,h] at hk
     simp at hk
    simp [h,h1]
    intro h3
    exact absurd (h.trans h3) h1
   ·have h1:(j == e.1) = false:=by simp [h]
    simp [h1]
theorem Qg (m:List (Int × Int)) (k v j:Int):ru (qX m k v) j = (decide (j = k) || ru m j):=by
 induction m with
 | nil =>
  simp only [qX,ru]
  by_cases h:j = k
  ·simp [h]
  ·have:(j == k) = false:=by simp [h]
   simp [h,this]
 | cons e r ih =>
  unfold qX
  cases hk:k == e.1 with
  | true =>
   rw [beq_iff_eq] at hk
   simp only [cond_true,ru]
   by_cases h:j = k
   ·simp [h]
   ·have h1:(j == k) = false:=by simp [h]
    have h2:(j == e.1) = false:=by simp [← hk,h]
    simp [h,h1,h2]
  | false =>
   simp only [cond_false,ru,ih]
   cases hj:j == e.1 <;> simp
structure BF (P:Int) (bars:List aQ) (p:wH) (a:Int) (q:List Int) (M:List (Int × Int)) (F:List Int) (S:List Bool):Prop where
 first:q[0]? = some a
 nd:∀ {i j:Nat} {v:Int},q[i]? = some v → q[j]? = some v → i = j
 rng:∀ {i:Nat} {v:Int},q[i]? = some v → 0 ≤ v ∧ v < P
 sl:(S.length:Int) = P
 fl:(F.length:Int) = P
 cnt:q.length = S.count true
 seen:∀ {v:Nat} {s:Bool},S[v]? = some s → (s = true ↔ (v:Int) ∈ q)
 has:∀ v:Int,ru M v = true ↔ v ∈ q
 from_:∀ {v:Nat} {f:Int},F[v]? = some f → (v:Int) ∈ q → f = mO M v
 way:∀ {j:Nat} {v:Int},0 < j → q[j]? = some v → ∃ (i j':Nat) (t:Int),mO M v = i ∧ i < p.lS.length ∧ j' < j ∧ q[j']? = some t ∧ p.qH[i]? = some t ∧ nS (kC bars p i) t = v
theorem BF.len {a:Int} {q:List Int} {M:List (Int × Int)} {F:List Int} {S:List Bool} (h:BF P bars p a q M F S):(q.length:Int) ≤ P:=by
 have:=List.count_le_length (a:=true) (l:=S)
 have:=h.cnt
 have:=h.sl
 omega
theorem BF.more (hg:GB P bars) (hp:PB P bars k m p) {a:Int} {q:List Int} {M:List (Int × Int)} {F:List Int} {S:List Bool} (h:BF P bars p a q M F S) {i j:Nat} {t u:Int} (hi:i < p.lS.length) (hj:q[j]? = some t) (ht:p.qH[i]? = some t) (hu:nS (kC bars p i) t = u) (hn:u ∉ q) :
  BF P bars p a (q ++ [u]) (qX M u i) (F.set u.toNat i) (S.set u.toNat true):=by
 have Og:=hp.ends ht
 obtain ⟨u0,u1,_,_,_⟩:=I7 (hp.JD hg hi) Og
 rw [hu] at u0 u1
 have hjl:=(List.getElem?_eq_some_iff.1 hj).1
 have hget:∀ {r:Nat} {v:Int},(q ++ [u])[r]? = some v → (r < q.length ∧ q[r]? = some v) ∨ (r = q.length ∧ v = u):=fun {r v} hr => by
  rw [List.getElem?_append] at hr
  split at hr
  ·exact .inl ⟨by assumption,hr⟩
  ·right
   have hrl:r - q.length = 0:=by
    rcases Nat.eq_zero_or_pos (r - q.length) with h0 | h0
    ·exact h0
    ·rw [List.getElem?_eq_none (by simp; omega)] at hr
     cases hr
   rw [hrl] at hr
   simp at hr
   exact ⟨by omega,hr.symm⟩
 have hmem:∀ {r:Nat} {v:Int},q[r]? = some v → v ∈ q:=fun hr => List.mem_of_getElem? hr
 have hsl:=h.sl
 have hsu:S[u.toNat]? = some (S[u.toNat]'(by omega)):=List.getElem?_eq_getElem (by omega)
 have hsf:S[u.toNat]'(by omega) = false:=by
  cases hb:S[u.toNat]'(by omega) with
  | false => rfl
  | true =>
   rw [hb] at hsu
   have:=(h.seen hsu).1 rfl
   rw [Int.toNat_of_nonneg u0] at this
   exact absurd this hn
 refine ⟨?_,?_,?_,by simpa using h.sl,by simpa using h.fl,?_,?_,?_,?_,?_⟩
 ·rw [List.getElem?_append_left (by omega)]
  exact h.first
 ·intro r s v hr hs
  rcases hget hr with ⟨h1,h2⟩ | ⟨h1,h2⟩ <;> rcases hget hs with ⟨h3,h4⟩ | ⟨h3,h4⟩
  ·exact h.nd h2 h4
  ·subst h4; exact absurd (hmem h2) hn
  ·subst h2; exact absurd (hmem h4) hn
  ·omega
 ·intro r v hr
  rcases hget hr with ⟨_,h2⟩ | ⟨_,rfl⟩
  ·exact h.rng h2
  ·exact ⟨u0,u1⟩
 ·have:=h.cnt
  rw [List.count_set (by omega),hsf,List.length_append]
  simp
  omega
 ·intro v s hv
  rw [List.getElem?_set] at hv
  rw [List.mem_append,List.mem_singleton]
  by_cases huv:u.toNat = v
  ·rw [if_pos huv] at hv
   split at hv
   ·injection hv with hv
    subst hv
    simp only [true_iff]
    right
    omega
   ·cases hv
  ·rw [if_neg huv] at hv
   rw [h.seen hv]
   constructor
   ·exact .inl
   ·rintro (h1 | h1)
    ·exact h1
    ·omega
 ·intro v
  rw [Qg,Bool.or_eq_true,decide_eq_true_eq,h.has,List.mem_append,List.mem_singleton]
  exact Or.comm
 ·intro v f hv hq
  rw [List.getElem?_set] at hv
  rw [D8]
  by_cases huv:u.toNat = v
  ·rw [if_pos huv] at hv
   rw [if_pos (by omega)]
   split at hv
   ·injection hv with hv
    exact hv.symm
   ·cases hv
  ·rw [if_neg huv] at hv
   rw [if_neg (by omega)]
   refine h.from_ hv ?_
   rw [List.mem_append,List.mem_singleton] at hq
   rcases hq with h1 | h1
   ·exact h1
   ·omega
 ·intro r v h0 hr
  rcases hget hr with ⟨h1,h2⟩ | ⟨h1,rfl⟩
  ·obtain ⟨i',j',t',w1,w2,w3,w4,w5,w6⟩:=h.way h0 h2
   have hvu:v ≠ u:=fun e => hn (e ▸ hmem h2)
   exact ⟨i',j',t',by rw [D8,if_neg hvu]; exact w1,w2,w3,by rw [List.getElem?_append_left (List.getElem?_eq_some_iff.1 w4).1]; exact w4,w5,w6⟩
  ·exact ⟨i,j,t,by rw [D8,if_pos rfl],hi,by omega,by rw [List.getElem?_append_left hjl]; exact hj,ht,hu⟩
theorem Rt {α:Type} {l:List α} {i j:Nat} {x y:α} (h:(l.set i x)[j]? = some y):(i = j ∧ y = x) ∨ (i ≠ j ∧ l[j]? = some y):=by
 rw [List.getElem?_set] at h
 by_cases hij:i = j
 ·rw [if_pos hij] at h
  split at h
  ·injection h with h
   exact .inl ⟨hij,h.symm⟩
  ·cases h
 ·rw [if_neg hij] at h
  exact .inr ⟨hij,h⟩
structure TW (p:wH) (bars:List aQ) (q:List Int) (M:List (Int × Int)) (u:Int) (j:Nat) (at_:Int) (T:List Int):Prop where
 zO:q[j]? = some at_
 tl:T.length = p.qH.length
 keep:∀ {r:Nat} {v:Int},r ≤ j → 0 < r → q[r]? = some v → T[(mO M v).toNat]? = p.qH[(mO M v).toNat]?
 ends:∀ {i:Nat} {t:Int},T[i]? = some t → t = (kC bars p i).A ∨ t = (kC bars p i).B
 cnt:∀ v:Int,(T.count v:Int) = p.qH.count v + (if v = u then 1 else 0) - (if v = at_ then 1 else 0)
theorem TW.step (hg:GB P bars) (hp:PB P bars k m p) {a:Int} {q:List Int} {M:List (Int × Int)} {F:List Int} {S:List Bool} (h:BF P bars p a q M F S) {u at_:Int} {j:Nat} {T:List Int} (hT:TW p bars q M u j at_ T) (hne:at_ ≠ a) :
  ∃ (i j':Nat) (t:Int),mO M at_ = i ∧ i < p.lS.length ∧ j' < j ∧ T[i]? = some t ∧ nS (kC bars p i) at_ = t ∧ TW p bars q M u j' t (T.set i at_):=by
 have hj0:0 < j:=by
  rcases Nat.eq_zero_or_pos j with h0 | h0
  ·subst h0
   have:=h.first.symm.trans hT.zO
   injection this with this
   exact absurd this.symm hne
  ·exact h0
 obtain ⟨i,j',t,w1,w2,w3,w4,w5,w6⟩:=h.way hj0 hT.zO
 have hk:=hT.keep (Nat.le_refl _) hj0 hT.zO
 rw [w1,Int.toNat_natCast,w5] at hk
 obtain ⟨_,_,o3,o4,o5⟩:=I7 (hp.JD hg w2) (hp.ends w5)
 rw [w6] at o3 o4 o5
 have hil:=(List.getElem?_eq_some_iff.1 hk).1
 have hig:T[i] = t:=by
  rw [List.getElem?_eq_getElem hil] at hk
  injection hk
 refine ⟨i,j',t,w1,w2,w3,hk,o5,w4,by simpa using hT.tl,?_,?_,?_⟩
 ·intro r v hr h0 hq
  have O9:(mO M v).toNat ≠ i:=fun e => by
   obtain ⟨i2,_,t2,x1,x2,_,_,x5,x6⟩:=h.way h0 hq
   rw [x1,Int.toNat_natCast] at e
   subst e
   rw [w5] at x5
   injection x5 with x5
   subst x5
   have:v = at_:=x6.symm.trans w6
   subst this
   have:=h.nd hq hT.zO
   omega
  rw [List.getElem?_set,if_neg (Ne.symm O9)]
  exact hT.keep (by omega) h0 hq
 ·intro i2 t2 h2
  rcases Rt h2 with ⟨rfl,rfl⟩ | ⟨_,h3⟩
  ·exact o4
  ·exact hT.ends h3
 ·intro v
  rw [List.count_set hil,hig]
  have hc:=hT.cnt v
  have hpos:t = v → 0 < T.count v:=fun e => by
   subst e
   exact List.count_pos_iff.2 (List.mem_of_getElem? hk)
  by_cases h1:v = t
  ·subst h1
   have:=hpos rfl
   have h3:¬ v = at_:=fun e => o3 e.symm
   have h4:(at_ == v) = false:=by simp; exact fun e => h3 e.symm
   simp only [beq_self_eq_true,if_true,h4,Bool.false_eq_true,if_false,if_neg h3] at hc ⊢
   omega
  ·have h2:(t == v) = false:=by simp; exact fun e => h1 e.symm
   by_cases h3:v = at_
   ·subst h3
    simp only [h2,Bool.false_eq_true,if_false,beq_self_eq_true,if_true,if_neg h1] at hc ⊢
    omega
   ·have h4:(at_ == v) = false:=by simp; exact fun e => h3 e.symm
    simp only [h2,h4,Bool.false_eq_true,if_false,if_neg h1,if_neg h3] at hc ⊢
    omega
end
end
end Go.Proofs.Ytdmlaldifbmkpaa
end
