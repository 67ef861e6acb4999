/- Parts of a proof that a law of the program holds: what the program computes, and why that is right. -/
import Derived.Laws.Strings
import Derived.Laws.Concat
import Derived.Test.YtdmlaldifbmkpaaZFnFrameworks2
set_option linter.unusedVariables false
set_option linter.unusedSimpArgs false
set_option linter.unnecessarySimpa false
set_option maxRecDepth 100000
set_option maxHeartbeats 8000000
section
open Go Go.Fw
namespace Go.Proofs.Ytdmlaldifbmkpaa
section
structure GB (P:Int) (bars:List aV):Prop where
 p1:1 ≤ P
 p8:P ≤ 8
 len:bars.length ≤ 1000
 a0:∀ {k:Nat} {x:aV},bars[k]? = some x → 0 ≤ x.A
 ab:∀ {k:Nat} {x:aV},bars[k]? = some x → x.A ≠ x.B
 b0:∀ {k:Nat} {x:aV},bars[k]? = some x → 0 ≤ x.B
 ap:∀ {k:Nat} {x:aV},bars[k]? = some x → x.A < P
 bp:∀ {k:Nat} {x:aV},bars[k]? = some x → x.B < P
theorem VG.gb {g:bM} (h:VG g):GB g.aF g.aA :=
 ⟨h.p1,h.p8,by have:=h.len; omega,h.a0,fun hx => by have:=h.ab hx; omega,fun hx => by have:=h.a0 hx; have:=h.ab hx; omega,fun hx => by have:=h.ab hx; have:=h.bp hx; omega,h.bp⟩
def og (bars:List aV) (p:lg) (i:Nat):aV:=((p.lZ[i]?).bind fun e => bars[e.toNat]?).getD ⟨0,0⟩
structure PB (P:Int) (bars:List aV) (k:Int) (m:Nat) (p:lg):Prop where
 k1:1 ≤ k
 k3:k ≤ 3
 fl:(p.Free.length:Int) = P
 tl:p.nR.length = p.lZ.length
 pl:p.lZ.length ≤ m
 pr:∀ {i:Nat} {e:Int},p.lZ[i]? = some e → 0 ≤ e ∧ e < (bars.length:Int) ∧ e < (m:Int)
 inc:∀ {i:Nat} {e e':Int},p.lZ[i]? = some e → p.lZ[i + 1]? = some e' → e < e'
 ends:∀ {i:Nat} {t:Int},p.nR[i]? = some t → t = (og bars p i).A ∨ t = (og bars p i).B
 fr:∀ {v:Nat} {f:Int},p.Free[v]? = some f → 0 ≤ f ∧ f + (p.nR.count (v:Int):Int) = k
section
variable {P:Int} {bars:List aV} {k:Int} {m:Nat} {p:lg}
theorem PB.bar (hg:GB P bars) (h:PB P bars k m p) {i:Nat} (hi:i < p.lZ.length):∃ e,p.lZ[i]? = some e ∧ idx bars e = some (og bars p i) ∧ bars[e.toNat]? = some (og bars p i):=by
 have h1:=List.getElem?_eq_getElem hi
 obtain ⟨e0,e1,_⟩:=h.pr h1
 refine ⟨_,h1,?_⟩
 have h2:bars[p.lZ[i].toNat]? = some (og bars p i):=by
  unfold og
  rw [h1]
  simp only [Option.bind_some]
  rw [List.getElem?_eq_getElem (by omega)]
  rfl
 refine ⟨?_,h2⟩
 unfold idx
 rw [if_pos e0,h2]
theorem PB.XP (hg:GB P bars) (h:PB P bars k m p) {i:Nat} (hi:i < p.lZ.length):0 ≤ (og bars p i).A ∧ 0 ≤ (og bars p i).B ∧ (og bars p i).A ≠ (og bars p i).B ∧ (og bars p i).A < P ∧ (og bars p i).B < P:=by
 obtain ⟨e,_,_,h2⟩:=h.bar hg hi
 exact ⟨hg.a0 h2,hg.b0 h2,hg.ab h2,hg.ap h2,hg.bp h2⟩
theorem aBn {x:aV} {v:Int} (h:0 ≤ x.A ∧ 0 ≤ x.B ∧ x.A ≠ x.B ∧ x.A < P ∧ x.B < P) (hv:v = x.A ∨ v = x.B):0 ≤ wM x v ∧ wM x v < P ∧ wM x v ≠ v ∧ (wM x v = x.A ∨ wM x v = x.B) ∧ wM x (wM x v) = v:=by
 unfold wM
 rcases hv with rfl | rfl
 ·have e:(x.A == x.B) = false:=by simp; exact h.2.2.1
  simp only [beq_self_eq_true,cond_true,e,cond_false]
  exact ⟨by omega,by omega,by omega,.inr trivial,trivial⟩
 ·have e:(x.A == x.B) = false:=by simp; exact h.2.2.1
  simp only [e,cond_false,beq_self_eq_true,cond_true]
  exact ⟨by omega,by omega,by omega,.inl trivial,trivial⟩
theorem Wx (m:List (Int × Int)) (k v j:Int):uq (wL m k v) j = if j = k then v else uq m j:=by
 induction m with
 | nil =>
  simp only [wL,uq]
  by_cases h:j = k
  ·simp [h]
  ·have:(j == k) = false:=by simp [h]
   simp [h,this]
 | cons e r ih =>
  unfold wL
  cases hk:k == e.1 with
  | true =>
   rw [beq_iff_eq] at hk
   simp only [cond_true,uq]
   by_cases h:j = k
   ·simp [h]
   ·have h1:(j == k) = false:=by simp [h]
    have h2:(j == e.1) = false:=by simp [← hk,h]
    simp [h,h1,h2]
  | false =>
   simp only [cond_false,uq,ih]
   by_cases h:j = e.1
   ·have h1:¬ j = k:=fun h2 => by
     rw [← h2,h] at hk
     simp at hk
    simp [h,h1]
    intro h3
    exact absurd (h.trans h3) h1
   ·have h1:(j == e.1) = false:=by simp [h]
    simp [h1]
theorem aIY (m:List (Int × Int)) (k v j:Int):DK (wL m k v) j = (decide (j = k) || DK m j):=by
 induction m with
 | nil =>
  simp only [wL,DK]
  by_cases h:j = k
  ·simp [h]
  ·have:(j == k) = false:=by simp [h]
   simp [h,this]
 | cons e r ih =>
  unfold wL
  cases hk:k == e.1 with
  | true =>
   rw [beq_iff_eq] at hk
   simp only [cond_true,DK]
   by_cases h:j = k
   ·simp [h]
   ·have h1:(j == k) = false:=by simp [h]
    have h2:(j == e.1) = false:=by simp [← hk,h]
    simp [h,h1,h2]
  | false =>
   simp only [cond_false,DK,ih]
   cases hj:j == e.1 <;> simp
structure BF (P:Int) (bars:List aV) (p:lg) (a:Int) (q:List Int) (M:List (Int × Int)) (F:List Int) (S:List Bool):Prop where
 first:q[0]? = some a
 nd:∀ {i j:Nat} {v:Int},q[i]? = some v → q[j]? = some v → i = j
 rng:∀ {i:Nat} {v:Int},q[i]? = some v → 0 ≤ v ∧ v < P
 sl:(S.length:Int) = P
 fl:(F.length:Int) = P
 cnt:q.length = S.count true
 seen:∀ {v:Nat} {s:Bool},S[v]? = some s → (s = true ↔ (v:Int) ∈ q)
 has:∀ v:Int,DK M v = true ↔ v ∈ q
 from_:∀ {v:Nat} {f:Int},F[v]? = some f → (v:Int) ∈ q → f = uq M v
 way:∀ {j:Nat} {v:Int},0 < j → q[j]? = some v → ∃ (i j':Nat) (t:Int),uq M v = i ∧ i < p.lZ.length ∧ j' < j ∧ q[j']? = some t ∧ p.nR[i]? = some t ∧ wM (og bars p i) t = v
theorem BF.len {a:Int} {q:List Int} {M:List (Int × Int)} {F:List Int} {S:List Bool} (h:BF P bars p a q M F S):(q.length:Int) ≤ P:=by
 have:=List.count_le_length (a:=true) (l:=S)
 have:=h.cnt
 have:=h.sl
 omega
theorem BF.more (hg:GB P bars) (hp:PB P bars k m p) {a:Int} {q:List Int} {M:List (Int × Int)} {F:List Int} {S:List Bool} (h:BF P bars p a q M F S) {i j:Nat} {t u:Int} (hi:i < p.lZ.length) (hj:q[j]? = some t) (ht:p.nR[i]? = some t) (hu:wM (og bars p i) t = u) (hn:u ∉ q) :
  BF P bars p a (q ++ [u]) (wL M u i) (F.set u.toNat i) (S.set u.toNat true):=by
 have aF8:=hp.ends ht
 obtain ⟨u0,u1,_,_,_⟩:=aBn (hp.XP hg hi) aF8
 rw [hu] at u0 u1
 have hjl:=(List.getElem?_eq_some_iff.1 hj).1
 have hget:∀ {r:Nat} {v:Int},(q ++ [u])[r]? = some v → (r < q.length ∧ q[r]? = some v) ∨ (r = q.length ∧ v = u):=fun {r v} hr => by
  rw [List.getElem?_append] at hr
  split at hr
  ·exact .inl ⟨by assumption,hr⟩
  ·right
   have hrl:r - q.length = 0:=by
    rcases Nat.eq_zero_or_pos (r - q.length) with h0 | h0
    ·exact h0
    ·rw [List.getElem?_eq_none (by simp; omega)] at hr
     cases hr
   rw [hrl] at hr
   simp at hr
   exact ⟨by omega,hr.symm⟩
 have hmem:∀ {r:Nat} {v:Int},q[r]? = some v → v ∈ q:=fun hr => List.mem_of_getElem? hr
 have hsl:=h.sl
 have hsu:S[u.toNat]? = some (S[u.toNat]'(by omega)):=List.getElem?_eq_getElem (by omega)
 have hsf:S[u.toNat]'(by omega) = false:=by
  cases hb:S[u.toNat]'(by omega) with
  | false => rfl
  | true =>
   rw [hb] at hsu
   have:=(h.seen hsu).1 rfl
   rw [Int.toNat_of_nonneg u0] at this
   exact absurd this hn
 refine ⟨?_,?_,?_,by simpa using h.sl,by simpa using h.fl,?_,?_,?_,?_,?_⟩
 ·rw [List.getElem?_append_left (by omega)]
  exact h.first
 ·intro r s v hr hs
  rcases hget hr with ⟨h1,h2⟩ | ⟨h1,h2⟩ <;> rcases hget hs with ⟨h3,h4⟩ | ⟨h3,h4⟩
  ·exact h.nd h2 h4
  ·subst h4; exact absurd (hmem h2) hn
  ·subst h2; exact absurd (hmem h4) hn
  ·omega
 ·intro r v hr
  rcases hget hr with ⟨_,h2⟩ | ⟨_,rfl⟩
  ·exact h.rng h2
  ·exact ⟨u0,u1⟩
 ·have:=h.cnt
  rw [List.count_set (by omega),hsf,List.length_append]
  simp
  omega
 ·intro v s hv
  rw [List.getElem?_set] at hv
  rw [List.mem_append,List.mem_singleton]
  by_cases huv:u.toNat = v
  ·rw [if_pos huv] at hv
   split at hv
   ·injection hv with hv
    subst hv
    simp only [true_iff]
    right
    omega
   ·cases hv
  ·rw [if_neg huv] at hv
   rw [h.seen hv]
   constructor
   ·exact .inl
   ·rintro (h1 | h1)
    ·exact h1
    ·omega
 ·intro v
  rw [aIY,Bool.or_eq_true,decide_eq_true_eq,h.has,List.mem_append,List.mem_singleton]
  exact Or.comm
 ·intro v f hv hq
  rw [List.getElem?_set] at hv
  rw [Wx]
  by_cases huv:u.toNat = v
  ·rw [if_pos huv] at hv
   rw [if_pos (by omega)]
   split at hv
   ·injection hv with hv
    exact hv.symm
   ·cases hv
  ·rw [if_neg huv] at hv
   rw [if_neg (by omega)]
   refine h.from_ hv ?_
   rw [List.mem_append,List.mem_singleton] at hq
   rcases hq with h1 | h1
   ·exact h1
   ·omega
 ·intro r v h0 hr
  rcases hget hr with ⟨h1,h2⟩ | ⟨h1,rfl⟩
  ·obtain ⟨i',j',t',w1,w2,w3,w4,w5,w6⟩:=h.way h0 h2
   have hvu:v ≠ u:=fun e => hn (e ▸ hmem h2)
   exact ⟨i',j',t',by rw [Wx,if_neg hvu]; exact w1,w2,w3,by rw [List.getElem?_append_left (List.getElem?_eq_some_iff.1 w4).1]; exact w4,w5,w6⟩
  ·exact ⟨i,j,t,by rw [Wx,if_pos rfl],hi,by omega,by rw [List.getElem?_append_left hjl]; exact hj,ht,hu⟩
theorem TT {α:Type} {l:List α} {i j:Nat} {x y:α} (h:(l.set i x)[j]? = some y):(i = j ∧ y = x) ∨ (i ≠ j ∧ l[j]? = some y):=by
 rw [List.getElem?_set] at h
 by_cases hij:i = j
 ·rw [if_pos hij] at h
  split at h
  ·injection h with h
   exact .inl ⟨hij,h.symm⟩
  ·cases h
 ·rw [if_neg hij] at h
  exact .inr ⟨hij,h⟩
structure TW (p:lg) (bars:List aV) (q:List Int) (M:List (Int × Int)) (u:Int) (j:Nat) (at_:Int) (T:List Int):Prop where
 QA:q[j]? = some at_
 tl:T.length = p.nR.length
 keep:∀ {r:Nat} {v:Int},r ≤ j → 0 < r → q[r]? = some v → T[(uq M v).toNat]? = p.nR[(uq M v).toNat]?
 ends:∀ {i:Nat} {t:Int},T[i]? = some t → t = (og bars p i).A ∨ t = (og bars p i).B
 cnt:∀ v:Int,(T.count v:Int) = p.nR.count v + (if v = u then 1 else 0) - (if v = at_ then 1 else 0)
theorem TW.step (hg:GB P bars) (hp:PB P bars k m p) {a:Int} {q:List Int} {M:List (Int × Int)} {F:List Int} {S:List Bool} (h:BF P bars p a q M F S) {u at_:Int} {j:Nat} {T:List Int} (hT:TW p bars q M u j at_ T) (hne:at_ ≠ a) :
  ∃ (i j':Nat) (t:Int),uq M at_ = i ∧ i < p.lZ.length ∧ j' < j ∧ T[i]? = some t ∧ wM (og bars p i) at_ = t ∧ TW p bars q M u j' t (T.set i at_):=by
 have hj0:0 < j:=by
  rcases Nat.eq_zero_or_pos j with h0 | h0
  ·subst h0
   have:=h.first.symm.trans hT.QA
   injection this with this
   exact absurd this.symm hne
  ·exact h0
 obtain ⟨i,j',t,w1,w2,w3,w4,w5,w6⟩:=h.way hj0 hT.QA
 have hk:=hT.keep (Nat.le_refl _) hj0 hT.QA
 rw [w1,Int.toNat_natCast,w5] at hk
 obtain ⟨_,_,o3,o4,o5⟩:=aBn (hp.XP hg w2) (hp.ends w5)
 rw [w6] at o3 o4 o5
 have hil:=(List.getElem?_eq_some_iff.1 hk).1
 have hig:T[i] = t:=by
  rw [List.getElem?_eq_getElem hil] at hk
  injection hk
 refine ⟨i,j',t,w1,w2,w3,hk,o5,w4,by simpa using hT.tl,?_,?_,?_⟩
 ·intro r v hr h0 hq
  have Qw:(uq M v).toNat ≠ i:=fun e => by
   obtain ⟨i2,_,t2,x1,x2,_,_,x5,x6⟩:=h.way h0 hq
   rw [x1,Int.toNat_natCast] at e
   subst e
   rw [w5] at x5
   injection x5 with x5
   subst x5
   have:v = at_:=x6.symm.trans w6
   subst this
   have:=h.nd hq hT.QA
   omega
  rw [List.getElem?_set,if_neg (Ne.symm Qw)]
  exact hT.keep (by omega) h0 hq
 ·intro i2 t2 h2
  rcases TT h2 with ⟨rfl,rfl⟩ | ⟨_,h3⟩
  ·exact o4
  ·exact hT.ends h3
 ·intro v
  rw [List.count_set hil,hig]
  have hc:=hT.cnt v
  have hpos:t = v → 0 < T.count v:=fun e => by
   subst e
   exact List.count_pos_iff.2 (List.mem_of_getElem? hk)
  by_cases h1:v = t
  ·subst h1
   have:=hpos rfl
   have h3:¬ v = at_:=fun e => o3 e.symm
   have h4:(at_ == v) = false:=by simp; exact fun e => h3 e.symm
   simp only [beq_self_eq_true,if_true,h4,Bool.false_eq_true,if_false,if_neg h3] at hc ⊢
   omega
  ·have h2:(t == v) = false:=by simp; exact fun e => h1 e.symm
   by_cases h3:v = at_
   ·subst h3
    simp only [h2,Bool.false_eq_true,if_false,beq_self_eq_true,if_true,if_neg h1] at hc ⊢
    omega
   ·have h4:(at_ == v) = false:=by simp; exact fun e => h3 e.symm
    simp only [h2,h4,Bool.false_eq_true,if_false,if_neg h1,if_neg h3] at hc ⊢
    omega
theorem PB.moved (hg:GB P bars) (hp:PB P bars k m p) {q:List Int} {M:List (Int × Int)} {u a:Int} {T:List Int} {fu fa:Int} (hT:TW p bars q M u 0 a T) (u0:0 ≤ u) (a0:0 ≤ a) (hua:u ≠ a) (hfu:p.Free[u.toNat]? = some fu) (hfa:p.Free[a.toNat]? = some fa) (hpos:0 < fu) :
  PB P bars k m ⟨(p.Free.set u.toNat (fu - 1)).set a.toNat (fa + 1),T,p.lZ⟩:=by
 refine ⟨hp.k1,hp.k3,by simpa using hp.fl,hT.tl.trans hp.tl,hp.pl,hp.pr,hp.inc,hT.ends,?_⟩
 intro v f hv
 change 0 ≤ f ∧ f + (T.count (v:Int):Int) = k
 have hc:=hT.cnt (v:Int)
 rcases TT hv with ⟨h1,rfl⟩ | ⟨h1,h2⟩
 ·have hva:(v:Int) = a:=by omega
  have hf:=hp.fr hfa
  rw [Int.toNat_of_nonneg a0] at hf
  rw [hva,if_neg (Ne.symm hua),if_pos rfl] at hc
  rw [hva]
  omega
 ·rcases TT h2 with ⟨h3,rfl⟩ | ⟨h3,h4⟩
  ·have hvu:(v:Int) = u:=by omega
   have hf:=hp.fr hfu
   rw [Int.toNat_of_nonneg u0] at hf
   rw [hvu,if_pos rfl,if_neg hua] at hc
   rw [hvu]
   omega
  ·have hf:=hp.fr h4
   rw [if_neg (show ¬ (v:Int) = u by omega),if_neg (show ¬ (v:Int) = a by omega)] at hc
   omega
end
end
section
section
variable {P:Int} {bars:List aV} {k:Int} {m:Nat} {p:lg}
theorem PB.aFM (hp:PB P bars k m p) {v:Int} (v0:0 ≤ v) (v1:v < P):∃ f,p.Free[v.toNat]? = some f ∧ idx p.Free v = some f ∧ 0 ≤ f ∧ f ≤ k:=by
 have h1:=hp.fl
 have h2:p.Free[v.toNat]? = some (p.Free[v.toNat]'(by omega)):=List.getElem?_eq_getElem (by omega)
 have h3:=hp.fr h2
 refine ⟨_,h2,?_,h3.1,by omega⟩
 unfold idx
 rw [if_pos v0,h2]
def CL (bars:List aV) (p:lg) (v:Int) (m:Nat) (q:List Int):Prop:=∀ (i:Nat) (t:Int),i < m → p.nR[i]? = some t → t = v → wM (og bars p i) t ∈ q
theorem CL.more {v u:Int} {m:Nat} {q:List Int} (h:CL bars p v m q):CL bars p v m (q ++ [u]):=fun i t h1 h2 h3 => List.mem_append_left _ (h i t h1 h2 h3)
theorem CL.step {v t:Int} {j:Nat} {q:List Int} (h:CL bars p v j q) (hT:p.nR[j]? = some t) (hx:t = v → wM (og bars p j) t ∈ q):CL bars p v (j + 1) q:=fun i s h1 h2 h3 => by
 by_cases hij:i = j
 ·subst hij
  rw [hT] at h2
  injection h2 with h2
  subst h2
  exact hx h3
 ·exact h i s (by omega) h2 h3
end
end
theorem PB.weak {P:Int} {bars:List aV} {k:Int} {m:Nat} {p:lg} (h:PB P bars k m p):PB P bars k (m + 1) p :=
 ⟨h.k1,h.k3,h.fl,h.tl,by have:=h.pl; omega,fun hx => by have:=h.pr hx; omega,h.inc,h.ends,h.fr⟩
theorem aCV {α:Type} {l:List α} {x y:α} {i:Nat} (h:(l ++ [x])[i]? = some y):(i < l.length ∧ l[i]? = some y) ∨ (i = l.length ∧ y = x):=by
 rw [List.getElem?_append] at h
 split at h
 ·exact .inl ⟨by assumption,h⟩
 ·right
  have:i - l.length = 0:=by
   rcases Nat.eq_zero_or_pos (i - l.length) with h0 | h0
   ·exact h0
   ·rw [List.getElem?_eq_none (by simp; omega)] at h
    cases h
  rw [this] at h
  simp at h
  exact ⟨by omega,h.symm⟩
theorem PB.place {P:Int} {bars:List aV} {k:Int} {m:Nat} {p:lg} (hg:GB P bars) (hp:PB P bars k m p) (hml:m < bars.length) {x:aV} (hx:bars[m]? = some x) {t f:Int} (ht:t = x.A ∨ t = x.B) (hf:p.Free[t.toNat]? = some f) (hpos:0 < f) :
  PB P bars k (m + 1) ⟨p.Free.set t.toNat (f - 1),p.nR ++ [t],p.lZ ++ [(m:Int)]⟩:=by
 have hpl:=hp.pl
 have htl:=hp.tl
 have t0:0 ≤ t:=by
  rcases ht with rfl | rfl
  ·exact hg.a0 hx
  ·exact hg.b0 hx
 have hlast:∀ {i:Nat} {v:Int},(p.lZ ++ [(m:Int)])[i]? = some v → (i < p.lZ.length ∧ p.lZ[i]? = some v) ∨ (i = p.lZ.length ∧ v = (m:Int)):=fun h => aCV h
 refine ⟨hp.k1,hp.k3,by simpa using hp.fl,by simp [htl],by simp; omega,fun {i e} he => ?_,fun {i e e'} he he' => ?_,fun {i v} hv => ?_,fun {v w} hv => ?_⟩
 ·rcases hlast he with ⟨_,h⟩ | ⟨_,rfl⟩
  ·have:=hp.pr h
   omega
  ·omega
 ·rcases hlast he' with ⟨h1,h2⟩ | ⟨h1,rfl⟩
  ·rcases hlast he with ⟨_,h3⟩ | ⟨h3,_⟩
   ·exact hp.inc h3 h2
   ·omega
  ·rcases hlast he with ⟨_,h3⟩ | ⟨h3,_⟩
   ·have:=hp.pr h3
    omega
   ·omega
 ·change (p.nR ++ [t])[i]? = some v at hv
  rcases aCV hv with ⟨h1,h2⟩ | ⟨h1,rfl⟩
  ·have:=hp.ends h2
   have e:og bars ⟨p.Free.set t.toNat (f - 1),p.nR ++ [t],p.lZ ++ [(m:Int)]⟩ i = og bars p i:=by
    unfold og
    simp only
    rw [List.getElem?_append_left (by omega)]
   rw [e]
   exact this
  ·have e:og bars ⟨p.Free.set v.toNat (f - 1),p.nR ++ [v],p.lZ ++ [(m:Int)]⟩ i = x:=by
    unfold og
    simp only
    rw [List.getElem?_append_right (by omega),h1,htl,Nat.sub_self]
    simp [hx]
   rw [e]
   exact ht
 ·change 0 ≤ w ∧ w + ((p.nR ++ [t]).count (v:Int):Int) = k
  rw [List.count_append]
  rcases TT hv with ⟨h1,rfl⟩ | ⟨h1,h2⟩
  ·have hvt:(v:Int) = t:=by omega
   have:=hp.fr hf
   rw [Int.toNat_of_nonneg t0] at this
   rw [hvt]
   simp
   omega
  ·have:=hp.fr h2
   have h3:([t]:List Int).count (v:Int) = 0:=by
    rw [List.count_eq_zero]
    simp
    omega
   rw [h3]
   omega
def aI0 (bars:List aV) (l:Int) (p:lg) (m:Nat):lg:=match aIW bars l p (m:Int) with
 | some (true,q) => q
 | _ => p
def aI1 (P:Int) (bars:List aV) (k l:Int) (n:Nat):lg:=iter (fun m p => aI0 bars l p m) n ⟨List.replicate P.toNat k,[],[]⟩
def only (g:bM) (keep:List Int):bM:=⟨g.aF,pieces (fun k => match g.aA[k]? with | some x => bif aAJ keep k then [x] else [] | none => []) g.aA.length⟩
theorem sub_le {α:Type} [DecidableEq α]:∀ (l1 l2:List α),l1.Nodup → (∀ x ∈ l1,x ∈ l2) → l1.length ≤ l2.length
 | [],_,_,_ => Nat.zero_le _
 | a :: l1,l2,hn,hs => by
  obtain ⟨h1,h2⟩:=List.nodup_cons.1 hn
  have ha:=hs a (List.mem_cons_self ..)
  have h3:=sub_le l1 (l2.erase a) h2 fun x hx => (List.mem_erase_of_ne (fun e:x = a => h1 (e ▸ hx))).2 (hs x (List.mem_cons_of_mem _ hx))
  rw [List.length_erase_of_mem ha] at h3
  have h4:=List.length_pos_of_mem ha
  rw [List.length_cons]
  omega
end Go.Proofs.Ytdmlaldifbmkpaa
end
section
namespace Go.Mx
def lay:List (List Int) → Ext → Ext
 | [],y => y
 | u :: U,y => wed u (lay U y)
theorem aA5 {n:Nat}:∀ (U:List (List Int)) (x y:Ext),(∀ u ∈ U,u.length = n) → ip n (lay U y) x = ip n y (ct U x)
 | [],x,y,_ => rfl
 | u :: U,x,y,h => by
  show ip n (wed u (lay U y)) x = ip n y (ct U (con u x))
  rw [adj n u _ _ (h u List.mem_cons_self),aA5 U (con u x) y fun v hv => h v (List.mem_cons_of_mem _ hv)]
theorem aIL (U:List (List Int)):lay U one = om U:=by
 induction U with
 | nil => rfl
 | cons u U ih => show wed u (lay U one) = wed u (om U); rw [ih]
theorem aH5:∀ (n:Nat) (x:Ext),ip n one x = sc n x:=by
 intro n
 induction n with
 | zero => intro x; unfold ip sc one; simp
 | succ n ih =>
  intro x
  unfold ip
  have h1:=ih (fun m => x (false :: m))
  have e1:(fun m => one (false :: m)) = one:=by funext m; simp [one]
  have e2:∀ y:Ext,ip n (fun m => one (true :: m)) y = 0:=fun y => by
   have:=CJ 0 0 n one one y
   have e:(fun m => one (true :: m)) = fun m => 0 * one m + 0 * one m:=by funext m; simp [one]
   rw [CG,e,this]
   omega
  rw [e1,e2,h1]
  unfold sc
  simp [List.replicate_succ]
theorem aLF {n:Nat} {U V:List (List Int)} (hU:kH n U) (h:Zo n U):jU n U V = 0:=by
 unfold jU
 rw [← aH5,← aA5 U (om V) one hU,aIL,CG]
 have:=Ac n (om V) (om V) (om U) (fun m => 0 * om U m + 0 * om U m) (fun _ _ => rfl) (fun m hm => by rw [h m hm]; rfl)
 rw [this,CJ]
 omega
open Go.Proofs.Ytdmlaldifbmkpaa in
theorem Tj (N:Nat) (B:eX):mV B.length (turned N B):=fun i hi => by
 rw [J5] at hi
 rw [X6 hi,List.length_map]
open Go.Proofs.Ytdmlaldifbmkpaa in
theorem aCv {N:Nat} {B:eX} (hB:mV N B):(iE B.length (turned N B) B.length).piv.length ≤ (iE N B N).piv.length:=by
 obtain ⟨V,hV⟩:=UZ hB
 obtain ⟨M',h⟩:=Bc (Tj N B) B.length (Nat.le_refl _)
 generalize iE B.length (turned N B) B.length = s at h
 have Qr:∀ j,j < B.length → (lm B [] j).length = N:=fun j hj => by
  unfold lm
  rw [if_pos hj]
  exact hB j hj
 have hre:=h.re
 rw [aJ9 (ld:=[])] at hre
 have hC:∀ c ∈ s.piv.reverse,c < B.length:=fun c hc => h.pc c (by simpa using hc)
 obtain ⟨I,i1,i2,i3,i4⟩:=aCs (n:=B.length) (ld:=[]) Qr hre (C:=s.piv.reverse) (by have:=h.rl; rw [J5] at this; simpa using this) hC
 rw [List.length_reverse] at i4
 have hd:jU N (s.piv.reverse.map (lm B [])) (units N I) ≠ 0:=by rw [← i4,h.last]; exact h.nz
 have hall:kH N (s.piv.reverse.map (lm B [])):=fun v hv => by
  obtain ⟨c,hc,rfl⟩:=List.mem_map.1 hv
  exact Qr c (hC c hc)
 have:=wW.le hV hV (W:=s.piv.reverse.map (lm B [])) (fun hz => hd (aLF hall hz)) (fun v hv => by
  obtain ⟨c,hc,rfl⟩:=List.mem_map.1 hv
  have hcB:=hC c hc
  refine hV.span _ ?_
  unfold lm
  rw [if_pos hcB]
  exact Z9 hcB)
 rw [List.length_map,List.length_reverse] at this
 exact this
open Go.Proofs.Ytdmlaldifbmkpaa in
theorem aKA {N:Nat} {B:eX} (hB:mV N B):turned B.length (turned N B) = B:=by
 apply List.ext_getElem
 ·rw [J5]
 ·intro i h1 h2
  have e:(turned B.length (turned N B))[i] = (turned B.length (turned N B)).getD i []:=by rw [List.getD_eq_getElem?_getD,List.getElem?_eq_getElem h1]; rfl
  have e2:B[i] = B.getD i []:=by rw [List.getD_eq_getElem?_getD,List.getElem?_eq_getElem h2]; rfl
  rw [e,X6 h2,e2]
  refine J8 (n:=N) (by rw [List.length_map,J5]) (hB i h2) fun k hk => ?_
  rw [List.getD_eq_getElem?_getD,List.getElem?_map]
  have hk':(turned N B)[k]? = some ((turned N B).getD k []):=by
   rw [List.getD_eq_getElem?_getD,List.getElem?_eq_getElem (by rw [J5]; exact hk)]
   rfl
  rw [hk',X6 hk]
  simp only [Option.map_some,Option.getD_some]
  rw [List.getD_eq_getElem?_getD,List.getElem?_map,List.getElem?_eq_getElem h2]
  simp only [Option.map_some,Option.getD_some]
  rw [e2]
open Go.Proofs.Ytdmlaldifbmkpaa in
theorem aCw {N:Nat} {B:eX} (hB:mV N B):(iE B.length (turned N B) B.length).piv.length = (iE N B N).piv.length:=by
 refine Nat.le_antisymm (aCv hB) ?_
 have:=aCv (Tj N B)
 rw [aKA hB,J5] at this
 exact this
end Go.Mx
namespace Go.Mx
end Go.Mx
open Go Go.Fw Go.Mx
namespace Go.Proofs.Ytdmlaldifbmkpaa
end Go.Proofs.Ytdmlaldifbmkpaa
end
section
open Go Go.Fw Go.Mx
namespace Go.Proofs.Ytdmlaldifbmkpaa
def here (f:aW) (i:Nat):Bool:=jM [(dH f (i:Int)).X,(dH f (i:Int)).Y] [(dH f 0).X,(dH f 0).Y]
def apart (f:aW):Bool:=(List.range' 0 f.Places.length).any fun i => !here f i
end Go.Proofs.Ytdmlaldifbmkpaa
end
section
namespace Go.Sp
section
def su (f:Nat → Nat):Nat → Nat
 | 0 => 0
 | n + 1 => su f n + f n
theorem Fj {f g:Nat → Nat}:∀ n,(∀ i,i < n → f i = g i) → su f n = su g n
 | 0,_ => rfl
 | n + 1,h => by
  show su f n + f n = su g n + g n
  rw [Fj n fun i hi => h i (by omega),h n (by omega)]
theorem BL {f g:Nat → Nat}:∀ n,(∀ i,i < n → f i ≤ g i) → su f n ≤ su g n
 | 0,_ => Nat.le_refl _
 | n + 1,h => by
  have h1:=BL n fun i hi => h i (by omega)
  have h2:=h n (by omega)
  show su f n + f n ≤ su g n + g n
  omega
theorem Df (f g:Nat → Nat):∀ n,su (fun i => f i + g i) n = su f n + su g n
 | 0 => rfl
 | n + 1 => by
  show su (fun i => f i + g i) n + (f n + g n) = (su f n + f n) + (su g n + g n)
  rw [Df f g n]
  omega
theorem PE {f:Nat → Nat}:∀ n,(∀ i,i < n → f i = 0) → su f n = 0
 | 0,_ => rfl
 | n + 1,h => by
  show su f n + f n = 0
  rw [PE n fun i hi => h i (by omega),h n (by omega)]
theorem BK {f g:Nat → Nat} {j c:Nat}:∀ n,j < n → g j = f j + c → (∀ i,i < n → i ≠ j → g i = f i) → su g n = su f n + c
 | 0,hj,_,_ => by omega
 | n + 1,hj,h1,h2 => by
  show su g n + g n = su f n + f n + c
  by_cases hjn:j = n
  ·subst hjn
   rw [Fj j fun i hi => h2 i (by omega) (by omega),h1]
   omega
  ·rw [BK n (by omega) h1 fun i hi hne => h2 i (by omega) hne,h2 n (by omega) (fun e => hjn e.symm)]
   omega
theorem Xy {f g:Nat → Nat} {j:Nat}:∀ n,(∀ i,i < n → f i ≤ g i) → j < n → f j < g j → su f n < su g n
 | 0,_,hj,_ => by omega
 | n + 1,h,hj,h1 => by
  show su f n + f n < su g n + g n
  by_cases hjn:j = n
  ·subst hjn
   have:=BL j fun i hi => h i (by omega)
   omega
  ·have:=Xy n (fun i hi => h i (by omega)) (by omega:j < n) h1
   have:=h n (by omega)
   omega
theorem aCd {f:Nat → Nat}:∀ n,0 < su f n → ∃ i,i < n ∧ 0 < f i
 | 0,h => by simp [su] at h
 | n + 1,h => by
  change 0 < su f n + f n at h
  by_cases h1:0 < f n
  ·exact ⟨n,by omega,h1⟩
  ·obtain ⟨i,hi,h2⟩:=aCd n (by omega:0 < su f n)
   exact ⟨i,by omega,h2⟩
theorem aJo {f:Nat → Nat} {j:Nat} {n:Nat} (hj:j < n):f j ≤ su f n:=by
 have:su (fun i => if i = j then f j else 0) n = 0 + f j:=by
  have:=BK (f:=fun _ => 0) (g:=fun i => if i = j then f j else 0) (c:=f j) n hj (by simp) (fun i _ hne => by simp [hne])
  rw [this,PE n fun _ _ => rfl]
 have h2:=BL (f:=fun i => if i = j then f j else 0) (g:=f) n fun i _ => by
  show (if i = j then f j else 0) ≤ f i
  split
  ·rename_i h; subst h; exact Nat.le_refl _
  ·exact Nat.zero_le _
 omega
def inn (X:Nat → Bool) (i:Nat):Bool:=X (i / 8) && X (i % 8)
def size (X:Nat → Bool):Nat:=su (fun v => if X v then 1 else 0) 8
def span (I:Nat → Nat) (X:Nat → Bool):Nat:=su (fun i => if inn X i then I i else 0) 64
def card (I:Nat → Nat):Nat:=su I 64
def cap (X Y:Nat → Bool) (v:Nat):Bool:=X v && Y v
def vJ (X Y:Nat → Bool) (v:Nat):Bool:=X v || Y v
def add1 (I:Nat → Nat) (e i:Nat):Nat:=if i = e then I i + 1 else I i
def o6 (I:Nat → Nat) (e i:Nat):Nat:=if i = e then I i - 1 else I i
theorem WX (X Y:Nat → Bool) (i:Nat):inn (cap X Y) i = (inn X i && inn Y i):=by
 unfold inn cap
 cases X (i / 8) <;> cases X (i % 8) <;> cases Y (i / 8) <;> cases Y (i % 8) <;> rfl
theorem Hw {X Y:Nat → Bool} {i:Nat} (h:inn X i = true ∨ inn Y i = true):inn (vJ X Y) i = true:=by
 unfold inn vJ at *
 revert h
 cases X (i / 8) <;> cases X (i % 8) <;> cases Y (i / 8) <;> cases Y (i % 8) <;> simp
theorem aJb (X Y:Nat → Bool):size (cap X Y) + size (vJ X Y) = size X + size Y:=by
 unfold size
 rw [← Df,← Df]
 refine Fj 8 fun v _ => ?_
 unfold cap vJ
 cases X v <;> cases Y v <;> rfl
theorem aJe (I:Nat → Nat) (X Y:Nat → Bool):span I X + span I Y ≤ span I (cap X Y) + span I (vJ X Y):=by
 unfold span
 rw [← Df,← Df]
 refine BL 64 fun i _ => ?_
 show (if inn X i then I i else 0) + (if inn Y i then I i else 0) ≤ (if inn (cap X Y) i then I i else 0) + (if inn (vJ X Y) i then I i else 0)
 rw [WX]
 cases hx:inn X i <;> cases hy:inn Y i
 ·simp
 ·rw [Hw (.inr hy)]; simp
 ·rw [Hw (.inl hx)]; simp
 ·rw [Hw (.inl hx)]; simp
theorem size_two {X:Nat → Bool} {a b:Nat} (ha:a < 8) (hb:b < 8) (hab:a ≠ b) (xa:X a = true) (xb:X b = true):2 ≤ size X:=by
 unfold size
 have h1:su (fun v => if v = a then 1 else 0) 8 = 1:=by
  have:=BK (f:=fun _ => 0) (g:=fun v => if v = a then 1 else 0) (c:=1) 8 ha (by simp) (fun i _ hne => by simp [hne])
  rw [this,PE 8 fun _ _ => rfl]
 have h2:su (fun v => if v = b then 1 else 0) 8 = 1:=by
  have:=BK (f:=fun _ => 0) (g:=fun v => if v = b then 1 else 0) (c:=1) 8 hb (by simp) (fun i _ hne => by simp [hne])
  rw [this,PE 8 fun _ _ => rfl]
 have h3:=BL (f:=fun v => (if v = a then 1 else 0) + (if v = b then 1 else 0)) (g:=fun v => if X v then 1 else 0) 8 fun v _ => by
  show (if v = a then 1 else 0) + (if v = b then 1 else 0) ≤ (if X v then 1 else 0)
  by_cases h1:v = a
  ·subst h1
   rw [if_pos rfl,if_neg hab,xa]
   simp
  ·by_cases h2:v = b
   ·subst h2
    rw [if_neg h1,if_pos rfl,xb]
    simp
   ·rw [if_neg h1,if_neg h2]
    exact Nat.zero_le _
 rw [Df,h1,h2] at h3
 exact h3
theorem TU {X:Nat → Bool} {i:Nat} (hi:i < 64) (hne:i / 8 ≠ i % 8) (h:inn X i = true):2 ≤ size X:=by
 unfold inn at h
 rw [Bool.and_eq_true] at h
 exact size_two (by omega) (by omega) hne h.1 h.2
theorem O9 (I:Nat → Nat) {e:Nat} (he:e < 64) (X:Nat → Bool):span (add1 I e) X = span I X + if inn X e then 1 else 0:=by
 unfold span
 refine BK (j:=e) 64 he ?_ (fun i _ hne => ?_)
 ·show (if inn X e then add1 I e e else 0) = (if inn X e then I e else 0) + _
  unfold add1
  cases inn X e <;> simp
 ·show (if inn X i then add1 I e i else 0) = (if inn X i then I i else 0)
  unfold add1
  rw [if_neg hne]
theorem aJg {I:Nat → Nat} {e:Nat} (he:e < 64) (hp:0 < I e) (X:Nat → Bool):span (o6 I e) X + (if inn X e then 1 else 0) = span I X:=by
 have h:span I X = span (add1 (o6 I e) e) X:=by
  unfold span
  refine Fj 64 fun i _ => ?_
  have:add1 (o6 I e) e i = I i:=by
   unfold add1 o6
   by_cases h:i = e
   ·subst h
    simp
    omega
   ·simp [h]
  rw [this]
 rw [h,O9 _ he]
theorem Uc (I:Nat → Nat) {e:Nat} (he:e < 64):card (add1 I e) = card I + 1 :=
 BK (j:=e) 64 he (by simp [add1]) (fun i _ hne => by simp [add1,hne])
theorem Yt {I:Nat → Nat} {e:Nat} (he:e < 64) (hp:0 < I e):card (o6 I e) + 1 = card I :=
 (BK (f:=o6 I e) (g:=I) (j:=e) 64 he (by simp [o6]; omega) (fun i _ hne => by simp [o6,hne])).symm
theorem aCX {I J:Nat → Nat} (h:∀ i,i < 64 → I i ≤ J i) (X:Nat → Bool):span I X ≤ span J X :=
 BL 64 fun i hi => by
  show (if inn X i then I i else 0) ≤ (if inn X i then J i else 0)
  split
  ·exact h i hi
  ·exact Nat.le_refl _
theorem aJf {I J:Nat → Nat} (h:∀ i,i < 64 → I i = J i) (X:Nat → Bool):span I X = span J X :=
 Fj 64 fun i hi => by rw [h i hi]
structure Sparse (k l:Nat) (I:Nat → Nat):Prop where
 sp:∀ X,0 < span I X → span I X + l ≤ k * size X
 ll:∀ i,i < 64 → 0 < I i → i / 8 ≠ i % 8
def tight (k l:Nat) (I:Nat → Nat) (X:Nat → Bool):Prop:=span I X + l = k * size X
section
variable {k l:Nat} {I J:Nat → Nat}
theorem Sparse.congr (h:Sparse k l I) (e:∀ i,i < 64 → I i = J i):Sparse k l J :=
 ⟨fun X hX => by rw [← aJf e X] at hX ⊢; exact h.sp X hX,fun i hi hp => h.ll i hi (by rw [e i hi]; exact hp)⟩
theorem Sparse.sub (h:Sparse k l I) (e:∀ i,i < 64 → J i ≤ I i):Sparse k l J :=
 ⟨fun X hX => by
  have h1:=aCX e X
  have:=h.sp X (by omega)
  omega,fun i hi hp => h.ll i hi (by have:=e i hi; omega)⟩
theorem Sparse.bound (hl:l < 2 * k) (h:Sparse k l I) {X:Nat → Bool} (h2:2 ≤ size X):span I X + l ≤ k * size X:=by
 by_cases h0:0 < span I X
 ·exact h.sp X h0
 ·have:2 * k ≤ k * size X:=by rw [Nat.mul_comm]; exact Nat.mul_le_mul_left _ h2
  omega
theorem aCn (hl:l < 2 * k) (h:Sparse k l I) {X Y:Nat → Bool} (hX:tight k l I X) (hY:tight k l I Y) (h2:2 ≤ size (cap X Y)):tight k l I (cap X Y) ∧ tight k l I (vJ X Y):=by
 have h1:=aJb X Y
 have h3:=aJe I X Y
 have hsz:size (cap X Y) ≤ size (vJ X Y):=BL 8 fun v _ => by
  show (if cap X Y v then 1 else 0) ≤ (if vJ X Y v then 1 else 0)
  unfold cap vJ
  cases X v <;> cases Y v <;> simp
 have h4:=h.bound hl h2
 have h5:=h.bound hl (X:=vJ X Y) (by omega)
 unfold tight at *
 have h6:k * size (cap X Y) + k * size (vJ X Y) = k * size X + k * size Y:=by rw [← Nat.mul_add,← Nat.mul_add,h1]
 omega
theorem not_add (hl:l < 2 * k) (h:Sparse k l I) {e:Nat} (he:e < 64) (hne:e / 8 ≠ e % 8) (hn:¬ Sparse k l (add1 I e)):∃ X,inn X e = true ∧ tight k l I X:=by
 apply Classical.byContradiction
 intro hno
 refine hn ⟨fun X hX => ?_,fun i hi hp => ?_⟩
 ·rw [O9 I he] at hX ⊢
  cases hx:inn X e with
  | false =>
   rw [hx] at hX
   simp only [Bool.false_eq_true,if_false,Nat.add_zero] at hX ⊢
   exact h.sp X hX
  | true =>
   have h2:=TU he hne hx
   have h3:=h.bound hl h2
   by_cases ht:tight k l I X
   ·exact absurd ⟨X,hx,ht⟩ hno
   ·unfold tight at ht
    simp only [if_true]
    omega
 ·unfold add1 at hp
  by_cases hie:i = e
  ·rw [hie]; exact hne
  ·rw [if_neg hie] at hp
   exact h.ll i hi hp
theorem X5 {e:Nat} (he:e < 64) {X:Nat → Bool} (hx:inn X e = true) (ht:k * size X ≤ span I X + l):¬ Sparse k l (add1 I e):=fun h => by
 have:=h.sp X (by rw [O9 I he,hx]; simp)
 rw [O9 I he,hx] at this
 simp only [if_true] at this
 omega
theorem aA6 {e:Nat}:∀ n,(∃ X,size X ≤ n ∧ inn X e = true ∧ tight k l I X) → ∃ X,inn X e = true ∧ tight k l I X ∧ ∀ Y,inn Y e = true → tight k l I Y → size X ≤ size Y
 | 0,⟨X,h0,h1,h2⟩ => ⟨X,h1,h2,fun Y _ _ => by omega⟩
 | n + 1,⟨X,h0,h1,h2⟩ => by
  by_cases h:∃ Y,size Y ≤ n ∧ inn Y e = true ∧ tight k l I Y
  ·exact aA6 n h
  ·refine ⟨X,h1,h2,fun Y h3 h4 => ?_⟩
   apply Classical.byContradiction
   intro h5
   exact h ⟨Y,by omega,h3,h4⟩
theorem aDy {X Y:Nat → Bool} {f:Nat} (hf:f < 64) (hX:inn X f = true) (hY:inn Y f = false):size (cap X Y) < size X:=by
 unfold inn at hX hY
 rw [Bool.and_eq_true] at hX
 have:∃ v,v < 8 ∧ X v = true ∧ Y v = false:=by
  cases h1:Y (f / 8) with
  | false => exact ⟨f / 8,by omega,hX.1,h1⟩
  | true =>
   rw [h1,Bool.true_and] at hY
   exact ⟨f % 8,by omega,hX.2,hY⟩
 obtain ⟨v,hv,h1,h2⟩:=this
 refine Xy 8 (fun v _ => ?_) hv ?_
 ·show (if cap X Y v then 1 else 0) ≤ (if X v then 1 else 0)
  unfold cap
  cases X v <;> cases Y v <;> simp
 ·show (if cap X Y v then 1 else 0) < (if X v then 1 else 0)
  unfold cap
  rw [h1,h2]
  simp
theorem Zr (hl:l < 2 * k):∀ n (I J:Nat → Nat),Sparse k l I → Sparse k l J → su (fun i => J i - I i) 64 ≤ n → card I < card J → ∃ e,e < 64 ∧ I e < J e ∧ Sparse k l (add1 I e):=by
 intro n
 induction n with
 | zero =>
  intro I J hI hJ hn hc
  have:card J ≤ card I:=BL 64 fun i hi => by
   have:J i - I i ≤ su (fun i => J i - I i) 64:=aJo (f:=fun i => J i - I i) hi
   omega
  omega
 | succ n ih =>
  intro I J hI hJ hn hc
  apply Classical.byContradiction
  intro hno
  have hnot:∀ e,e < 64 → I e < J e → ¬ Sparse k l (add1 I e):=fun e h1 h2 h3 => hno ⟨e,h1,h2,h3⟩
  -- a bar of J more
  have:∃ e,e < 64 ∧ I e < J e:=by
   apply Classical.byContradiction
   intro hx
   have:card J ≤ card I:=BL 64 fun i hi => by
    apply Classical.byContradiction
    intro h
    exact hx ⟨i,hi,by omega⟩
   omega
  obtain ⟨e,he,hle⟩:=this
  have hne:=hJ.ll e he (by omega)
  obtain ⟨X0,hx0,ht0⟩:=not_add hl hI he hne (hnot e he hle)
  obtain ⟨X,hx,ht,hmin⟩:=aA6 (size X0) ⟨X0,Nat.le_refl _,hx0,ht0⟩
  -- a bar of I more,in X
  have:∃ f,f < 64 ∧ inn X f = true ∧ J f < I f:=by
   apply Classical.byContradiction
   intro aGG
   have h1:span I X < span J X:=Xy (j:=e) 64 (fun i hi => by
    show (if inn X i then I i else 0) ≤ (if inn X i then J i else 0)
    cases hxi:inn X i with
    | false => exact Nat.le_refl _
    | true =>
     simp only [if_true]
     apply Classical.byContradiction
     intro h
     exact aGG ⟨i,hi,hxi,by omega⟩) he (by
    show (if inn X e then I e else 0) < (if inn X e then J e else 0)
    rw [hx]
    exact hle)
   have h2:=hJ.sp X (by omega)
   unfold tight at ht
   omega
  obtain ⟨f,hf,WT,hlf⟩:=this
  have hfe:f ≠ e:=fun h => by subst h; omega
  have Ve:=hI.ll f hf (by omega)
  have hpf:0 < add1 I e f:=by unfold add1; rw [if_neg hfe]; omega
  -- the exchange
  have V9:∀ Y,span (o6 (add1 I e) f) Y + (if inn Y f then 1 else 0) = span I Y + (if inn Y e then 1 else 0):=fun Y => by
   rw [aJg hf hpf,O9 I he]
  have hI':Sparse k l (o6 (add1 I e) f):=by
   refine ⟨fun Y hY => ?_,fun i hi hp => ?_⟩
   ·have hs:=V9 Y
    obtain ⟨i,hi,hpi⟩:=aCd 64 hY
    have hyi:inn Y i = true:=by
     cases h:inn Y i with
     | true => rfl
     | false => rw [h] at hpi; simp at hpi
    have aGD:i / 8 ≠ i % 8:=by
     rw [hyi] at hpi
     simp only [if_true] at hpi
     unfold o6 add1 at hpi
     by_cases hie:i = e
     ·rw [hie]; exact hne
     ·by_cases hif:i = f
      ·rw [hif]; exact Ve
      ·rw [if_neg hif,if_neg hie] at hpi
       exact hI.ll i hi hpi
    have h2:=TU hi aGD hyi
    have hb:=hI.bound hl h2
    cases hye:inn Y e with
    | false =>
     rw [hye] at hs
     simp only [Bool.false_eq_true,if_false] at hs
     omega
    | true =>
     cases WU:inn Y f with
     | true =>
      rw [hye,WU] at hs
      simp only [if_true] at hs
      omega
     | false =>
      rw [hye,WU] at hs
      simp only [if_true,Bool.false_eq_true,if_false] at hs
      by_cases hty:tight k l I Y
      ·have hc2:inn (cap X Y) e = true:=by rw [WX,hx,hye]; rfl
       have h3:=TU he hne hc2
       have h4:=(aCn hl hI ht hty h3).1
       have h5:=hmin _ hc2 h4
       have h6:=aDy hf WT WU
       omega
      ·unfold tight at hty
       omega
   ·unfold o6 add1 at hp
    by_cases hie:i = e
    ·rw [hie]; exact hne
    ·by_cases hif:i = f
     ·rw [hif]; exact Ve
     ·rw [if_neg hif,if_neg hie] at hp
      exact hI.ll i hi hp
  have aLL:card (o6 (add1 I e) f) = card I:=by
   have h1:=Yt hf hpf
   have h2:=Uc I he
   omega
  have hdist:su (fun i => J i - o6 (add1 I e) f i) 64 ≤ n:=by
   have h1:=BK (f:=fun i => J i - o6 (add1 I e) f i) (g:=fun i => J i - I i) (j:=e) (c:=1) 64 he (by
    show J e - I e = J e - o6 (add1 I e) f e + 1
    unfold o6 add1
    rw [if_neg (Ne.symm hfe),if_pos rfl]
    omega) (fun i _ hie => by
    show J i - I i = J i - o6 (add1 I e) f i
    unfold o6 add1
    by_cases hif:i = f
    ·subst hif
     rw [if_pos rfl,if_neg hie]
     omega
    ·rw [if_neg hif,if_neg hie])
   omega
  obtain ⟨e',he',hle',hs'⟩:=ih _ J hI' hJ hdist (by omega)
  have hef:e' ≠ f:=fun h => by
   subst h
   unfold o6 add1 at hle'
   rw [if_pos rfl,if_neg hfe] at hle'
   omega
  have hlI:I e' < J e':=by
   unfold o6 add1 at hle'
   rw [if_neg hef] at hle'
   by_cases h:e' = e
   ·rw [if_pos h] at hle'
    omega
   ·rw [if_neg h] at hle'
    exact hle'
  obtain ⟨X',hx',ht'⟩:=not_add hl hI he' (hJ.ll e' he' (by omega)) (hnot e' he' hlI)
  cases aAr:inn X' f with
  | false =>
   have hs:=V9 X'
   rw [aAr] at hs
   simp only [Bool.false_eq_true,if_false] at hs
   refine X5 he' hx' ?_ hs'
   unfold tight at ht'
   omega
  | true =>
   have hc2:inn (cap X X') f = true:=by rw [WX,WT,aAr]; rfl
   have h4:=(aCn hl hI ht ht' (TU hf Ve hc2)).2
   have hs:=V9 (vJ X X')
   rw [Hw (.inl hx),Hw (.inl WT)] at hs
   simp only [if_true] at hs
   refine X5 (X:=vJ X X') he' (Hw (.inr hx')) ?_ hs'
   unfold tight at h4
   omega
structure pX (k l:Nat) (M:Nat → Nat) (r:Nat):Prop where
 ex:∃ I,(∀ i,i < 64 → I i ≤ M i) ∧ Sparse k l I ∧ card I = r
 mx:∀ J,(∀ i,i < 64 → J i ≤ M i) → Sparse k l J → card J ≤ r
variable {M N:Nat → Nat} {r s:Nat}
theorem pX.mono (h:pX k l M r) (h2:pX k l N s) (G8:∀ i,i < 64 → M i ≤ N i):r ≤ s:=by
 obtain ⟨I,h3,h4,h5⟩:=h.ex
 have:=h2.mx I (fun i hi => Nat.le_trans (h3 i hi) (G8 i hi)) h4
 omega
theorem pX.uniq (h:pX k l M r) (h2:pX k l N s) (G8:∀ i,i < 64 → M i = N i):r = s :=
 Nat.le_antisymm (h.mono h2 fun i hi => Nat.le_of_eq (G8 i hi)) (h2.mono h fun i hi => Nat.le_of_eq (G8 i hi).symm)
theorem pX.aIk (hl:l < 2 * k) (hI:Sparse k l I) (h1:∀ i,i < 64 → I i ≤ M i) (h2:∀ e,e < 64 → I e < M e → ¬ Sparse k l (add1 I e)):pX k l M (card I) :=
 ⟨⟨I,h1,hI,rfl⟩,fun J hJ hs => by
  apply Classical.byContradiction
  intro h
  obtain ⟨e,he,hlt,hsp⟩:=Zr hl _ I J hI hs (Nat.le_refl _) (by omega)
  exact h2 e he (Nat.lt_of_lt_of_le hlt (hJ e he)) hsp⟩
theorem pX.extend (hl:l < 2 * k) (h:pX k l M r):∀ n (I:Nat → Nat),Sparse k l I → (∀ i,i < 64 → I i ≤ M i) → card I + n = r → ∃ I',(∀ i,i < 64 → I i ≤ I' i) ∧ (∀ i,i < 64 → I' i ≤ M i) ∧ Sparse k l I' ∧ card I' = r:=by
 intro n
 induction n with
 | zero => intro I hI h1 h2; exact ⟨I,fun _ _ => Nat.le_refl _,h1,hI,by omega⟩
 | succ n ih =>
  intro I hI h1 h2
  obtain ⟨B,b1,b2,b3⟩:=h.ex
  obtain ⟨e,he,hlt,hsp⟩:=Zr hl _ I B hI b2 (Nat.le_refl _) (by omega)
  obtain ⟨I',c1,c2,c3,c4⟩:=ih (add1 I e) hsp (fun i hi => by
   unfold add1
   by_cases hie:i = e
   ·rw [if_pos hie]
    subst hie
    have:=b1 i hi
    omega
   ·rw [if_neg hie]
    exact h1 i hi) (by rw [Uc I he]; omega)
  refine ⟨I',fun i hi => ?_,c2,c3,c4⟩
  have:=c1 i hi
  unfold add1 at this
  split at this <;> omega
theorem pX.fill (hl:l < 2 * k) (h:pX k l M r) (hI:Sparse k l I) (h1:∀ i,i < 64 → I i ≤ M i) {S:Nat → Bool} (ht:tight k l I S) (G8:∀ i,i < 64 → M i ≤ N i) (hS:∀ i,i < 64 → M i < N i → inn S i = true):pX k l N r:=by
 have hc:=h.mx I h1 hI
 obtain ⟨I',c1,c2,c3,c4⟩:=h.extend hl (r - card I) I hI h1 (by omega)
 have:pX k l N (card I'):=pX.aIk hl c3 (fun i hi => Nat.le_trans (c2 i hi) (G8 i hi)) fun e he hlt => by
  by_cases hM:I' e < M e
  ·intro hsp
   have:=h.mx (add1 I' e) (fun i hi => by
    unfold add1
    by_cases hie:i = e
    ·rw [if_pos hie]; subst hie; omega
    ·rw [if_neg hie]; exact c2 i hi) hsp
   rw [Uc I' he] at this
   omega
  ·have hin:=hS e he (by have:=c2 e he; omega)
   refine X5 he hin ?_
   have:=aCX c1 S
   unfold tight at ht
   omega
 rw [c4] at this
 exact this
theorem pX.add (h:pX k l M r) {e:Nat} (he:e < 64) (h2:pX k l (add1 M e) s):r ≤ s ∧ s ≤ r + 1:=by
 refine ⟨h.mono h2 fun i hi => by unfold add1; split <;> omega,?_⟩
 obtain ⟨I,h3,h4,h5⟩:=h2.ex
 by_cases hle:I e ≤ M e
 ·have:=h.mx I (fun i hi => by
   have:=h3 i hi
   unfold add1 at this
   by_cases hie:i = e
   ·subst hie; exact hle
   ·rw [if_neg hie] at this; exact this) h4
  omega
 ·have hp:0 < I e:=by omega
  have:=h.mx (o6 I e) (fun i hi => by
   have:=h3 i hi
   unfold add1 at this
   unfold o6
   by_cases hie:i = e
   ·rw [if_pos hie] at this ⊢; omega
   ·rw [if_neg hie] at this ⊢; exact this) (h4.sub fun i hi => by unfold o6; split <;> omega)
  have:=Yt he hp
  omega
theorem pX.split (h:pX k l M r) {A B:Nat → Nat} {a b:Nat} (hA:pX k l A a) (hB:pX k l B b) (hM:∀ i,i < 64 → M i ≤ A i + B i):r ≤ a + b:=by
 obtain ⟨I,h3,h4,h5⟩:=h.ex
 have h6:=hA.mx (fun i => min (I i) (A i)) (fun i _ => Nat.min_le_right _ _) (h4.sub fun i _ => Nat.min_le_left _ _)
 have h7:=hB.mx (fun i => I i - A i) (fun i hi => by have:=h3 i hi; have:=hM i hi; omega) (h4.sub fun i _ => Nat.sub_le _ _)
 have h8:card I = card (fun i => min (I i) (A i)) + card (fun i => I i - A i):=by
  unfold card
  rw [← Df]
  exact Fj 64 fun i _ => by omega
 omega
end
end
end Go.Sp
end
section
open Go Go.Fw Go.Sp
namespace Go.Proofs.Ytdmlaldifbmkpaa
section
def Bg (x:aV):Nat:=x.A.toNat * 8 + x.B.toNat
structure zX (x:aV):Prop where
 a0:0 ≤ x.A
 a8:x.A < 8
 b0:0 ≤ x.B
 b8:x.B < 8
 ab:x.A ≠ x.B
theorem zX.lt {x:aV} (h:zX x):Bg x < 64:=by
 have:=h.a0; have:=h.a8; have:=h.b0; have:=h.b8
 unfold Bg
 omega
theorem zX.dm {x:aV} (h:zX x):Bg x / 8 = x.A.toNat ∧ Bg x % 8 = x.B.toNat:=by
 have:=h.a0; have:=h.a8; have:=h.b0; have:=h.b8
 unfold Bg
 omega
theorem zX.ne {x:aV} (h:zX x):Bg x / 8 ≠ Bg x % 8:=by
 have:=h.a0; have:=h.a8; have:=h.b0; have:=h.b8; have:=h.ab
 rw [h.dm.1,h.dm.2]
 omega
theorem zX.inn {x:aV} (h:zX x) (X:Nat → Bool):Sp.inn X (Bg x) = (X x.A.toNat && X x.B.toNat):=by
 unfold Sp.inn
 rw [h.dm.1,h.dm.2]
theorem aCc (c:Nat) (f:Nat → Nat):∀ n,su (fun i => c * f i) n = c * su f n
 | 0 => by simp [su]
 | n + 1 => by
  show su (fun i => c * f i) n + c * f n = c * (su f n + f n)
  rw [aCc c f n,Nat.mul_add]
theorem aCh (X:Nat → Bool):∀ T:List Int,(∀ t ∈ T,0 ≤ t ∧ t < 8) → su (fun v => if X v then T.count (v:Int) else 0) 8 = T.countP fun t => X t.toNat
 | [],_ => by
  refine PE 8 fun v _ => ?_
  show (if X v then ([]:List Int).count (v:Int) else 0) = 0
  split <;> rfl
 | t :: T,h => by
  have ht:=h t (List.mem_cons_self ..)
  rw [List.countP_cons,← aCh X T fun s hs => h s (List.mem_cons_of_mem _ hs)]
  refine BK (j:=t.toNat) 8 (by omega) ?_ (fun i _ hne => ?_)
  ·show (if X t.toNat then (t :: T).count ((t.toNat:Nat):Int) else 0) = _
   rw [Int.toNat_of_nonneg ht.1,List.count_cons_self]
   cases X t.toNat <;> simp
  ·show (if X i then (t :: T).count (i:Int) else 0) = (if X i then T.count (i:Int) else 0)
   rw [List.count_cons_of_ne (by omega)]
section
variable {P:Int} {bars:List aV} {k:Int} {m:Nat} {p:lg}
theorem GB.ok (hg:GB P bars) {i:Nat} {x:aV} (h:bars[i]? = some x):zX x:=by
 have:=hg.p8
 exact ⟨hg.a0 h,by have:=hg.ap h; omega,hg.b0 h,by have:=hg.bp h; omega,hg.ab h⟩
theorem PB.aCg (hg:GB P bars) (hp:PB P bars k m p) {i:Nat} {t:Int} (h:p.nR[i]? = some t):i < p.lZ.length ∧ 0 ≤ t ∧ t < P:=by
 have hi:=(List.getElem?_eq_some_iff.1 h).1
 have htl:=hp.tl
 have:=hp.XP hg (i:=i) (by omega)
 rcases hp.ends h with rfl | rfl
 ·exact ⟨by omega,by omega,by omega⟩
 ·exact ⟨by omega,by omega,by omega⟩
def MW (P:Int) (X:Nat → Bool) (v:Nat):Bool:=X v && decide ((v:Int) < P)
def VE (p:lg) (v:Nat):Nat:=((p.Free[v]?).getD 0).toNat
theorem PB.sum (hg:GB P bars) (hp:PB P bars k m p) (X:Nat → Bool):su (fun v => if MW P X v then VE p v else 0) 8 + p.nR.countP (fun t => X t.toNat) = k.toNat * size (MW P X):=by
 have h8:=hg.p8
 rw [← aCh X p.nR fun t ht => by
  obtain ⟨i,hi⟩:=List.getElem?_of_mem ht
  have:=hp.aCg hg hi
  omega]
 unfold size
 rw [← aCc,← Df]
 refine Fj 8 fun v hv => ?_
 show (if MW P X v then VE p v else 0) + (if X v then p.nR.count (v:Int) else 0) = k.toNat * (if MW P X v then 1 else 0)
 unfold MW
 cases hx:X v with
 | false => simp
 | true =>
  by_cases WM:(v:Int) < P
  ·obtain ⟨f,hf,_,f0,fk⟩:=hp.aFM (v:=(v:Int)) (by omega) WM
   rw [Int.toNat_natCast] at hf
   have:=hp.fr hf
   unfold VE
   rw [hf,decide_eq_true WM]
   simp
   omega
  ·have:p.nR.count (v:Int) = 0:=by
    rw [List.count_eq_zero]
    intro hm
    obtain ⟨i,hi⟩:=List.getElem?_of_mem hm
    have:=hp.aCg hg hi
    omega
   rw [this,decide_eq_false WM]
   simp
end
end
def vM (x:aV):List aV → List aV
 | [] => [x]
 | y :: L => bif uZ y x then x :: y :: L else y :: vM x L
theorem Mc (x:aV):∀ L,(vM x L).Perm (x :: L)
 | [] => List.Perm.refl _
 | y :: L => by
  unfold vM
  cases uZ y x with
  | true => exact List.Perm.refl _
  | false => exact ((Mc x L).cons y).trans (List.Perm.swap ..)
theorem Aa (x:aV) (L:List aV):(vM x L).length = L.length + 1:=(Mc x L).length_eq
theorem aAt (x:aV):∀ L:List aV,(∃ j,j < L.length ∧ vM x L = L.take j ++ x :: L.drop j ∧ (∀ (i:Nat) (y:aV),i < j → L[i]? = some y → uZ y x = false) ∧ ∀ y:aV,L[j]? = some y → uZ y x = true) ∨ (vM x L = L ++ [x] ∧ ∀ (i:Nat) (y:aV),L[i]? = some y → uZ y x = false)
 | [] => .inr ⟨rfl,fun i y h => by simp at h⟩
 | y :: L => by
  unfold vM
  cases hy:uZ y x with
  | true => exact .inl ⟨0,by simp,by simp,(fun i z h => by omega),fun z hz => by simp at hz; subst hz; exact hy⟩
  | false =>
   rcases aAt x L with ⟨j,h1,h2,h3,h4⟩ | ⟨h1,h2⟩
   ·refine .inl ⟨j + 1,by simpa using h1,by simp [h2],fun i z hi hz => ?_,fun z hz => h4 z (by simpa using hz)⟩
    cases i with
    | zero => simp at hz; subst hz; exact hy
    | succ i => exact h3 i z (by omega) (by simpa using hz)
   ·refine .inr ⟨by simp [h1],fun i z hz => ?_⟩
    cases i with
    | zero => simp at hz; subst hz; exact hy
    | succ i => exact h2 i z (by simpa using hz)
theorem Ep (g:bM) (x:aV) (h:g.aA.length ≤ 1048576):yM g x = some ⟨g.aF,vM x g.aA⟩:=by
 have hb:∀ (k:Nat) (pl:Bool) (out:List aV),k < g.aA.length → out.length ≤ k + 1 → ∀ y,g.aA[k]? = some y → A7 g x (pl,(k:Int),out) = some (.inl (bif !pl && uZ y x then (true,((k + 1:Nat):Int),out ++ [x] ++ [y]) else (pl,((k + 1:Nat):Int),out ++ [y]))):=fun k pl out hk ho y hy => by
  unfold A7
  simp only
  rw [decide_eq_true (show (k:Int) < (g.aA.length:Int) by omega),cond_true]
  simp only [nV hy,aA1,Option.bind_some,fP (show k ≤ 1099511627776 by omega),Bool.not_not]
  rw [jy (show out.length + [x].length ≤ 2147483648 by simp; omega)]
  cases pl with
  | true =>
   simp only [Bool.not_true,cond_false,Option.bind_some,Bool.false_and]
   rw [jy (by simp; omega)]
   rfl
  | false =>
   cases uZ y x with
   | true =>
    simp only [Bool.not_false,cond_true,Option.bind_some,Bool.true_and]
    rw [jy (by simp; omega)]
    rfl
   | false =>
    simp only [Bool.not_false,cond_true,Option.bind_some,Bool.and_false,cond_false]
    rw [jy (by simp; omega)]
    rfl
 have he:∀ (pl:Bool) (out:List aV),A7 g x (pl,(g.aA.length:Int),out) = some (.inr (pl,out)):=fun pl out => by
  unfold A7
  rw [decide_eq_false (by simp only; omega)]
  rfl
 unfold yM
 rcases aAt x g.aA with ⟨j,h1,h2,h3,h4⟩ | ⟨h1,h2⟩
 ·have hL:bW (A7 g x) BIG (false,0,[]) = some (true,g.aA.take j ++ x :: g.aA.drop j):=by
   refine jl (fun k => (decide (j < k),(k:Int),if j < k then g.aA.take j ++ x :: (g.aA.drop j).take (k - j) else g.aA.take k)) g.aA.length (by omega) (by simp) (fun k hk => ?_) ?_
   ·have hy:=List.getElem?_eq_getElem hk
    have htk:∀ m,k = j + m → (g.aA.drop j).take (m + 1) = (g.aA.drop j).take m ++ [g.aA[k]]:=fun m hm => by
     subst hm
     rw [List.take_add_one,List.getElem?_drop,hy]
     rfl
    by_cases hjk:j < k
    ·rw [decide_eq_true hjk,if_pos hjk,hb k true _ hk (by simp; omega) _ hy]
     simp only [Bool.not_true,Bool.false_and,cond_false]
     rw [decide_eq_true (show j < k + 1 by omega),if_pos (show j < k + 1 by omega),show k + 1 - j = (k - j) + 1 by omega,htk (k - j) (by omega)]
     simp
    ·rw [decide_eq_false hjk,if_neg hjk,hb k false _ hk (by simp; omega) _ hy]
     by_cases hkj:k = j
     ·subst hkj
      rw [h4 _ hy]
      simp only [Bool.not_false,Bool.true_and,cond_true]
      rw [decide_eq_true (show k < k + 1 by omega),if_pos (show k < k + 1 by omega),Nat.add_sub_cancel_left,htk 0 (by omega)]
      simp
     ·rw [h3 k _ (by omega) hy]
      simp only [Bool.not_false,Bool.and_false,cond_false]
      rw [decide_eq_false (show ¬ j < k + 1 by omega),if_neg (show ¬ j < k + 1 by omega),zS hk]
   ·rw [decide_eq_true h1,if_pos h1,he,List.take_of_length_le (l:=g.aA.drop j) (by simp)]
  rw [hL,h2]
  rfl
 ·have hL:bW (A7 g x) BIG (false,0,[]) = some (false,g.aA):=by
   refine jl (fun k => (false,(k:Int),g.aA.take k)) g.aA.length (by omega) (by simp) (fun k hk => ?_) (by rw [he,List.take_length])
   have hy:=List.getElem?_eq_getElem hk
   rw [hb k false _ hk (by simp; omega) _ hy,h2 k _ hy,zS hk]
   rfl
  rw [hL,h1]
  simp only [Option.bind_some,Bool.not_false,cond_true]
  rw [jy (by simp; omega)]
  rfl
def pr (P:Int) (L:List aV):Nat:=(aI1 P L 2 3 L.length).lZ.length
theorem GB.congr {P:Int} {L L':List aV} (h:GB P L) (h2:∀ x ∈ L',x ∈ L) (hl:L'.length ≤ 1000):GB P L':=by
 have hm:∀ {k:Nat} {x:aV},L'[k]? = some x → ∃ j,L[j]? = some x:=fun hk => List.getElem?_of_mem (h2 _ (List.mem_of_getElem? hk))
 exact ⟨h.p1,h.p8,hl,fun hk => (hm hk).elim fun _ hj => h.a0 hj,fun hk => (hm hk).elim fun _ hj => h.ab hj,fun hk => (hm hk).elim fun _ hj => h.b0 hj,fun hk => (hm hk).elim fun _ hj => h.ap hj,fun hk => (hm hk).elim fun _ hj => h.bp hj⟩
structure UL (P:Int) (x:aV):Prop where
 a0:0 ≤ x.A
 ab:x.A ≠ x.B
 b0:0 ≤ x.B
 ap:x.A < P
 bp:x.B < P
theorem GB.of {P:Int} {L:List aV} (p1:1 ≤ P) (p8:P ≤ 8) (hl:L.length ≤ 1000) (h:∀ x ∈ L,UL P x):GB P L :=
 ⟨p1,p8,hl,fun hk => (h _ (List.mem_of_getElem? hk)).a0,fun hk => (h _ (List.mem_of_getElem? hk)).ab,fun hk => (h _ (List.mem_of_getElem? hk)).b0,fun hk => (h _ (List.mem_of_getElem? hk)).ap,fun hk => (h _ (List.mem_of_getElem? hk)).bp⟩
theorem GB.inb {P:Int} {L:List aV} (h:GB P L):∀ x ∈ L,UL P x:=fun x hx => by
 obtain ⟨j,hj⟩:=List.getElem?_of_mem hx
 exact ⟨h.a0 hj,h.ab hj,h.b0 hj,h.ap hj,h.bp hj⟩
def nrm (a b:Int):aV:=⟨if b < a then b else a,if a < b then b else a⟩
theorem GB.ins {P:Int} {L:List aV} (h:GB P L) {x:aV} (hx:UL P x) (hl:L.length ≤ 999):GB P (vM x L):=GB.of h.p1 h.p8 (by rw [Aa]; omega) fun y hy => by
 rcases List.mem_cons.1 ((Mc x L).mem_iff.1 hy) with h1 | h1
 ·subst h1; exact hx
 ·exact h.inb y h1
end Go.Proofs.Ytdmlaldifbmkpaa
end
section
open Go Go.Fw
namespace Go.Proofs.Ytdmlaldifbmkpaa
section
def Ex {α:Type} (o:Option α) (Q:α → Prop):Prop:=∃ r,o = some r ∧ Q r
section
variable {α β:Type} {o x y:Option α} {f:α → Option β} {Q Q':α → Prop} {R:β → Prop} {b:Bool}
theorem Ex.bind (h:Ex o Q) (hf:∀ r,Q r → Ex (f r) R):Ex (o.bind f) R:=by
 obtain ⟨r,rfl,hq⟩:=h
 exact hf r hq
theorem Ex.ret {r:α} (h:Q r):Ex (some r) Q:=⟨r,rfl,h⟩
theorem Ex.bif (h1:b = true → Ex x Q) (h2:b = false → Ex y Q):Ex (bif b then x else y) Q:=by
 cases b
 ·exact h2 rfl
 ·exact h1 rfl
theorem Ex.mono (h:Ex o Q) (hq:∀ r,Q r → Q' r):Ex o Q':=by
 obtain ⟨r,e,hr⟩:=h
 exact ⟨r,e,hq r hr⟩
theorem Ex.lim {n:Nat} {f:Unit → Option β} (hn:n ≤ 2147483648) (hf:Ex (f ()) R):Ex ((Fw.lim n).bind f) R:=by
 rw [jy hn]
 exact hf
theorem Ex.nz {n:Int} {f:Unit → Option β} (hn:n ≠ 0) (hf:Ex (f ()) R):Ex ((Fw.nz n).bind f) R:=by
 unfold Fw.nz
 rw [if_pos hn]
 exact hf
theorem Ex.idx {l:List α} {i:Int} (h0:0 ≤ i) (h1:i < (l.length:Int)) (hf:∀ v,v ∈ l → Ex (f v) R):Ex ((Fw.idx l i).bind f) R:=by
 unfold Fw.idx
 rw [if_pos h0,List.getElem?_eq_getElem (by omega)]
 exact hf _ (List.getElem_mem _)
end
structure CO (c:dJ):Prop where
 b:c.b.length ≤ 1048576
 i0:0 ≤ c.i
 i1:c.i ≤ 1048576
theorem Yi (z:Int):0 ≤ bits .and .i64 z 255 ∧ bits .and .i64 z 255 ≤ 255:=by
 have h:(BitVec.ofInt 64 z &&& BitVec.ofInt 64 255).toNat ≤ 255:=by
  rw [BitVec.toNat_and]
  exact Nat.le_trans Nat.and_le_right (by decide)
 have e:bits .and .i64 z 255 = ((BitVec.ofInt 64 z &&& BitVec.ofInt 64 255).toNat:Int):=by
  show aB ((BitVec.ofInt 64 z &&& BitVec.ofInt 64 255).toNat:Int) = _
  exact fD (by omega) (by omega)
 rw [e]
 omega
theorem Jg {code:List Int} (h:code.length ≤ 1048576):Ex (zG code) CO:=by
 have hb:∀ (k:Nat) (hh:Int),k < 4000 → k < code.length → ∃ h',FM code (hh,(k:Int)) = some (.inl (h',((k + 1:Nat):Int))):=fun k hh h4 hk => by
  unfold FM
  rw [decide_eq_true (by simp only; omega),decide_eq_true (by simp only; omega)]
  simp only [cond_true,Option.bind_some,oH hk,fP (show k ≤ 1099511627776 by omega)]
  exact ⟨_,rfl⟩
 obtain ⟨r,hr,_⟩:=pO (b:=FM code) (s:=(aB (10101 + (code.length:Int)),0)) (fun k s => s.2 = (k:Int)) (fun _ => True) (min code.length 4000) (by omega) rfl (fun k s hk hs => by
  obtain ⟨hh,i⟩:=s
  simp only at hs
  subst hs
  obtain ⟨h',e⟩:=hb k hh (by omega) (by omega)
  exact .inl ⟨_,e,rfl⟩) (fun s hs => by
  obtain ⟨hh,i⟩:=s
  simp only at hs
  subst hs
  refine ⟨hh,?_,trivial⟩
  unfold FM
  by_cases h4:code.length < 4000
  ·rw [decide_eq_false (by simp only; omega)]
   rfl
  ·rw [decide_eq_false (show ¬ (hh,((min code.length 4000:Nat):Int)).2 < 4000 by simp only; omega)]
   cases decide ((hh,((min code.length 4000:Nat):Int)).2 < (code.length:Int)) <;> rfl)
 unfold zG
 rw [hr]
 exact ⟨_,rfl,h,Int.le_refl _,by simp⟩
theorem ED {c:dJ} (h:CO c):Ex (yL c) fun r => CO r.2 ∧ 0 ≤ r.1 ∧ r.1 ≤ 255:=by
 have hb:=h.b
 have h0:=h.i0
 have h1:=h.i1
 unfold yL
 refine Ex.bind (Q:=fun j => 0 ≤ j.1 ∧ j.1 ≤ 255 ∧ 0 ≤ j.2 ∧ j.2 ≤ 1048576) (Ex.bif (fun hd => ?_) (fun hd => ?_)) fun j hj => ?_
 ·rw [decide_eq_true_eq] at hd
  refine Ex.idx h0 hd fun v _ => Ex.ret ?_
  have:=Yi (aB ((bits .and .i64 (bits .xor .i64 (qy (aB ((aB (c.h * 6364136223846793005)) + 1442695040888963407)) 33) (qy (aB ((aB (c.h * 6364136223846793005)) + 1442695040888963407)) 45)) 255) + (aB v)))
  refine ⟨this.1,this.2,?_,?_⟩
  ·simp only
   rw [fD (by omega) (by omega)]
   omega
  ·simp only
   rw [fD (by omega) (by omega)]
   omega
 ·have:=Yi (bits .xor .i64 (qy (aB ((aB (c.h * 6364136223846793005)) + 1442695040888963407)) 33) (qy (aB ((aB (c.h * 6364136223846793005)) + 1442695040888963407)) 45))
  exact Ex.ret ⟨this.1,this.2,h0,h1⟩
 ·exact Ex.ret ⟨⟨hb,hj.2.2.1,hj.2.2.2⟩,hj.1,hj.2.1⟩
theorem Tf {x n:Int} (hx:0 ≤ x) (hn:0 < n):0 ≤ Int.tmod x n ∧ Int.tmod x n < n:=⟨Int.tmod_nonneg _ hx,Int.tmod_lt_of_pos _ hn⟩
theorem aDr {c:dJ} (h:CO c) (n:Int):Ex (lM c n) fun r => CO r.2 ∧ 0 ≤ r.1 ∧ (0 < n → r.1 < n) ∧ (n ≤ 0 → r.1 = 0):=by
 unfold lM
 refine Ex.bif (fun hd => Ex.ret ⟨h,Int.le_refl _,fun hn => ?_,fun _ => rfl⟩) (fun hd => ?_)
 ·rw [decide_eq_true_eq] at hd
  omega
 ·rw [decide_eq_false_iff_not] at hd
  refine Ex.bif (fun _ => ?_) (fun _ => ?_)
  ·refine (ED h).bind fun r hr => Ex.nz (by omega) (Ex.ret ⟨hr.1,?_,fun hn => ?_,fun hn => absurd hn hd⟩)
   ·exact (Tf hr.2.1 (by omega)).1
   ·exact (Tf hr.2.1 hn).2
  ·refine (ED h).bind fun r1 h1 => (ED h1.1).bind fun r2 h2 => (ED h2.1).bind fun r3 h3 => (ED h3.1).bind fun r4 h4 => Ex.nz (by omega) (Ex.ret ?_)
   obtain ⟨_,a0,a1⟩:=h1
   obtain ⟨_,b0,b1⟩:=h2
   obtain ⟨_,c0,c1⟩:=h3
   obtain ⟨h5,d0,d1⟩:=h4
   have e:aB (aB (aB (aB (r1.1 * 16777216) + aB (r2.1 * 65536)) + aB (r3.1 * 256)) + r4.1) = r1.1 * 16777216 + r2.1 * 65536 + r3.1 * 256 + r4.1:=by
    rw [fD (n:=r1.1 * 16777216) (by omega) (by omega),fD (n:=r2.1 * 65536) (by omega) (by omega),fD (n:=r3.1 * 256) (by omega) (by omega),fD (n:=r1.1 * 16777216 + r2.1 * 65536) (by omega) (by omega),fD (n:=r1.1 * 16777216 + r2.1 * 65536 + r3.1 * 256) (by omega) (by omega),fD (by omega) (by omega)]
   have:=Tf (x:=r1.1 * 16777216 + r2.1 * 65536 + r3.1 * 256 + r4.1) (n:=n) (by omega) (by omega)
   simp only [e]
   exact ⟨h5,this.1,fun _ => this.2,fun hn => absurd hn hd⟩
theorem nJ {c:dJ} (h:CO c) (n:Int):Ex (lM c n) fun r => CO r.2 ∧ 0 ≤ r.1 ∧ (0 < n → r.1 < n):=(aDr h n).mono fun r hr => ⟨hr.1,hr.2.1,hr.2.2.1⟩
theorem XJ {c:dJ} (h:CO c) (n:Int):Ex (FN c n) fun r => CO r.2:=by
 unfold FN
 exact (nJ h n).bind fun r hr => Ex.ret hr.1
theorem aBy {c:dJ} (h:CO c) (l:List Int) (hl:0 < l.length):Ex (JR c l) fun r => CO r.2 ∧ r.1 ∈ l:=by
 unfold JR
 refine (nJ h _).bind fun r hr => Ex.idx hr.2.1 (hr.2.2 (by omega)) fun v hv => Ex.ret ⟨hr.1,hv⟩
def rG (P:Int) (x:aV):Prop:=0 ≤ x.A ∧ x.A < P ∧ 0 ≤ x.B ∧ x.B < P
structure GI (g:bM):Prop where
 p0:0 ≤ g.aF
 p8:g.aF ≤ 8
 len:g.aA.length ≤ 100
 inr:∀ x ∈ g.aA,rG g.aF x
theorem aJa {c:dJ} (h:CO c) {n:Int} (n0:0 ≤ n) (n8:n ≤ 8) (odd:Int):Ex (N7 c n odd) fun r => CO r.2 ∧ GI r.1 ∧ r.1.aF = n ∧ r.1.aA.length ≤ 24:=by
 let J:dJ → List aV → Prop:=fun c l => CO c ∧ l.length ≤ 24 ∧ ∀ x ∈ l,rG n x
 have hin:∀ (a:Nat) (s1:Int × List Int × Int × Int × List aV),s1.1 = (a:Int) → (a:Int) < n → J ⟨s1.2.1,s1.2.2.1,s1.2.2.2.1⟩ s1.2.2.2.2 →
   Ex (bW (JV n odd s1) BIG ((aB (s1.1 + 1)),s1.2.1,s1.2.2.1,s1.2.2.2.1,s1.2.2.2.2)) fun r => r.1 = (a:Int) ∧ J ⟨r.2.1,r.2.2.1,r.2.2.2.1⟩ r.2.2.2.2:=by
  intro a s1 hs ha hJ
  refine pO (fun k s => s.1 = ((a + 1 + k:Nat):Int) ∧ J ⟨s.2.1,s.2.2.1,s.2.2.2.1⟩ s.2.2.2.2) _ (n.toNat - (a + 1)) (by omega) ⟨by simp only; rw [hs,fP (by omega)],hJ⟩ (fun k s hk hI => ?_) (fun s hI => ?_)
  ·obtain ⟨i,b,ci,hh,l⟩:=s
   obtain ⟨rfl,hc,hl,hr⟩:=hI
   change l.length ≤ 24 at hl
   change ∀ x ∈ l,rG n x at hr
   obtain ⟨r,hr1,hr2⟩:=nJ hc 10
   left
   unfold JV
   rw [decide_eq_true (by simp only; omega),cond_true]
   simp only [hr1,Option.bind_some]
   have hnew:∀ x ∈ l ++ [(⟨s1.1,((a + 1 + k:Nat):Int)⟩:aV)],rG n x:=fun x hx => by
    rcases List.mem_append.1 hx with h1 | h1
    ·exact hr x h1
    ·rw [List.mem_singleton] at h1
     subst h1
     rw [hs]
     exact ⟨by simp only; omega,by simp only; omega,by simp only; omega,by simp only; omega⟩
   rw [jy (show l.length + [(⟨s1.1,((a + 1 + k:Nat):Int)⟩:aV)].length ≤ 2147483648 by simp; omega),fP (show a + 1 + k ≤ 1099511627776 by omega)]
   cases h1:decide (r.1 < odd) with
   | false => exact ⟨_,rfl,rfl,hr2.1,hl,hr⟩
   | true =>
    simp only [cond_true,Option.bind_some]
    cases h2:decide ((l.length:Int) < 24) with
    | false => exact ⟨_,rfl,rfl,hr2.1,hl,hr⟩
    | true =>
     rw [decide_eq_true_eq] at h2
     exact ⟨_,rfl,rfl,hr2.1,by simp; omega,hnew⟩
  ·obtain ⟨i,b,ci,hh,l⟩:=s
   obtain ⟨rfl,hJ⟩:=hI
   refine ⟨(s1.1,b,ci,hh,l),?_,hs,hJ⟩
   unfold JV
   rw [decide_eq_false (by simp only; omega)]
   rfl
 unfold N7
 refine Ex.bind (Q:=fun r => J ⟨r.1,r.2.1,r.2.2.1⟩ r.2.2.2) ?_ fun r hr => Ex.ret ⟨hr.1,⟨n0,n8,Nat.le_trans hr.2.1 (by omega),hr.2.2⟩,rfl,hr.2.1⟩
 refine pO (fun k s => s.1 = (k:Int) ∧ J ⟨s.2.1,s.2.2.1,s.2.2.2.1⟩ s.2.2.2.2) _ n.toNat (by omega) ⟨rfl,h,by simp,fun x hx => by cases hx⟩ (fun k s hk hI => ?_) (fun s hI => ?_)
 ·obtain ⟨r,hr1,hr2,hr3⟩:=hin k s hI.1 (by omega) hI.2
  left
  unfold N8
  rw [decide_eq_true (by rw [hI.1]; omega),cond_true,hr1]
  simp only [Option.bind_some]
  exact ⟨_,rfl,by simp only; rw [hr2,fP (by omega)],hr3⟩
 ·refine ⟨_,?_,hI.2⟩
  unfold N8
  rw [decide_eq_false (by rw [hI.1]; omega)]
  rfl
def ve (g:bM) (a b:Int):bM:=bif vG g && decide (0 ≤ a) && decide (0 ≤ b) && decide (a < g.aF) && decide (b < g.aF) && !(a == b) && decide (g.aA.length < 24) then ⟨g.aF,vM (nrm a b) g.aA⟩ else g
def Ye (g:bM) (a b:Int):Bool:=vG g && decide (0 ≤ a) && decide (0 ≤ b) && decide (a < g.aF) && decide (b < g.aF) && !(a == b) && decide (g.aA.length < 24)
theorem aDi (g:bM) (h:g.aA.length ≤ 1048576) (a b:Int):NW g a b = some (ve g a b,Ye g a b):=by
 unfold NW ve Ye
 rw [RI g (by omega),aA2 g (by omega),show aV.mk (if b < a then b else a) (if a < b then b else a) = nrm a b from rfl,Ep g _ h]
 have e1:∀ x:Int,decide (x < 0) = !decide (0 ≤ x):=fun x => by rw [← decide_not,decide_eq_decide]; omega
 have e2:∀ x:Int,decide (g.aF ≤ x) = !decide (x < g.aF):=fun x => by rw [← decide_not,decide_eq_decide]; omega
 have e3:decide (24 ≤ (g.aA.length:Int)) = !decide (g.aA.length < 24):=by rw [← decide_not,decide_eq_decide]; omega
 rw [e1 a,e1 b,e2 a,e2 b,e3]
 cases vG g
 ·rfl
 ·cases decide (0 ≤ a)
  ·rfl
  ·cases decide (0 ≤ b)
   ·rfl
   ·cases decide (a < g.aF)
    ·rfl
    ·cases decide (b < g.aF)
     ·rfl
     ·cases a == b
      ·cases decide (g.aA.length < 24) <;> rfl
      ·rfl
theorem Yd (g:bM) (a b:Int):(ve g a b).aF = g.aF:=by
 unfold ve
 cases vG g && decide (0 ≤ a) && decide (0 ≤ b) && decide (a < g.aF) && decide (b < g.aF) && !(a == b) && decide (g.aA.length < 24) <;> rfl
theorem aDh (g:bM) (a b:Int):(ve g a b).aA.length ≤ g.aA.length + 1 ∧ g.aA.length ≤ (ve g a b).aA.length:=by
 unfold ve
 cases vG g && decide (0 ≤ a) && decide (0 ≤ b) && decide (a < g.aF) && decide (b < g.aF) && !(a == b) && decide (g.aA.length < 24)
 ·exact ⟨by simp,by simp⟩
 ·simp only [cond_true,Aa]
  omega
theorem aDg {g:bM} (h:∀ x ∈ g.aA,rG g.aF x) (a b:Int):∀ x ∈ (ve g a b).aA,rG g.aF x:=by
 unfold ve
 cases hb:vG g && decide (0 ≤ a) && decide (0 ≤ b) && decide (a < g.aF) && decide (b < g.aF) && !(a == b) && decide (g.aA.length < 24)
 ·exact h
 ·simp only [Bool.and_eq_true,decide_eq_true_eq] at hb
  intro x hx
  rcases List.mem_cons.1 ((Mc _ _).mem_iff.1 hx) with rfl | h1
  ·unfold nrm rG
   simp only
   refine ⟨?_,?_,?_,?_⟩ <;> split <;> omega
  ·exact h x h1
theorem MZ {P:Int} {L:List aV} {y:aV} (h:∀ x ∈ L,rG P x) (hy:rG P y):∀ x ∈ vM y L,rG P x:=fun x hx => by
 rcases List.mem_cons.1 ((Mc _ _).mem_iff.1 hx) with rfl | h1
 ·exact hy
 ·exact h x h1
def Jr (g:bM) (k:Int):bM:=bif vG g && decide (0 ≤ k) && decide (k < (g.aA.length:Int)) then ⟨g.aF,g.aA.take k.toNat ++ g.aA.drop (k.toNat + 1)⟩ else g
theorem aJF (g:bM) (h:g.aA.length ≤ 1048576) (k:Int) (hk:k ≤ 1048576):Ex (Ns g k) fun r => r.1 = Jr g k:=by
 unfold Ns Jr
 rw [RI g (by omega),aA2 g (by omega)]
 have e1:decide (k < 0) = !decide (0 ≤ k):=by rw [← decide_not,decide_eq_decide]; omega
 have e2:decide ((g.aA.length:Int) ≤ k) = !decide (k < (g.aA.length:Int)):=by rw [← decide_not,decide_eq_decide]; omega
 rw [e1,e2]
 cases vG g
 ·exact Ex.ret rfl
 ·cases h1:decide (0 ≤ k)
  ·exact Ex.ret rfl
  ·cases h2:decide (k < (g.aA.length:Int))
   ·exact Ex.ret rfl
   ·rw [decide_eq_true_eq] at h1 h2
    have s1:slc g.aA 0 k = some ((g.aA.take k.toNat).drop 0):=by unfold slc; rw [if_pos (by omega)]; rfl
    have ew:aB (k + 1) = k + 1:=fD (by omega) (by omega)
    have s2:slc g.aA (k + 1) (g.aA.length:Int) = some ((g.aA.take g.aA.length).drop (k + 1).toNat):=by unfold slc; rw [if_pos (by omega)]; rfl
    simp only [Option.bind_some,Bool.not_true,cond_false,s1,ew,s2]
    rw [jy (by simp; omega),Option.bind_some,jy (by simp; omega)]
    refine Ex.ret ?_
    simp only [Bool.and_self,cond_true,List.nil_append,List.drop_zero,List.take_length]
    rw [show (k + 1).toNat = k.toNat + 1 by omega]
theorem aJE (g:bM) (k:Int):(Jr g k).aF = g.aF ∧ (Jr g k).aA.length ≤ g.aA.length ∧ (∀ x ∈ (Jr g k).aA,x ∈ g.aA):=by
 unfold Jr
 cases vG g && decide (0 ≤ k) && decide (k < (g.aA.length:Int))
 ·exact ⟨rfl,Nat.le_refl _,fun x hx => hx⟩
 ·refine ⟨rfl,?_,fun x hx => ?_⟩
  ·simp only [cond_true,List.length_append,List.length_take,List.length_drop]
   omega
  ·rcases List.mem_append.1 hx with h1 | h1
   ·exact List.mem_of_mem_take h1
   ·exact List.mem_of_mem_drop h1
theorem aJy {c:dJ} (h:CO c) {n w:Int} (hn:0 < n) (hw:0 ≤ w ∧ w < n) (x:aV):Ex (OB c n x w) fun r => CO r.2 ∧ 0 ≤ r.1 ∧ r.1 < n:=by
 unfold OB
 refine (nJ h n).bind fun r hr => Ex.bind (Q:=fun _ => True) (Ex.bif (fun _ => Ex.ret trivial) (fun _ => Ex.ret trivial)) fun j _ => Ex.bif (fun _ => Ex.ret ⟨hr.1,hw.1,hw.2⟩) (fun _ => Ex.ret ⟨hr.1,hr.2.1,hr.2.2 hn⟩)
theorem aIJ (s3:Int × List Int × Int × Int × Int × List aV) (r:Int × dJ) (x:aV):Ex (bW (N9 s3 r x) BIG 0) fun b => b.1 = s3.1 ∧ b.2.1 = r.1 ∧ 0 ≤ b.2.2.1 ∧ b.2.2.1 ≤ 2 ∧ b.2.2.2.1 = r.2.b ∧ b.2.2.2.2.1 = r.2.i ∧ b.2.2.2.2.2.1 = r.2.h ∧ b.2.2.2.2.2.2.1 = s3.2.2.2.2.1 ∧ b.2.2.2.2.2.2.2.1 = s3.2.2.2.2.2 ∧ b.2.2.2.2.2.2.2.2 = (x.A,x.B):=by
 refine pO (fun k s => s = (k:Int) ∧ ∀ j:Nat,j < k → (j:Int) = x.A ∨ (j:Int) = x.B) _ 3 (by omega) ⟨rfl,fun j hj => by omega⟩ (fun k s hk hI => ?_) (fun s hI => ?_)
 ·obtain ⟨rfl,hI⟩:=hI
  unfold N9
  by_cases hA:(k:Int) = x.A ∨ (k:Int) = x.B
  ·left
   refine ⟨((k + 1:Nat):Int),?_,rfl,fun j hj => ?_⟩
   ·have e:((bif (k:Int) == x.A then some true else some ((k:Int) == x.B)):Option Bool) = some true:=by
     rcases hA with h | h
     ·rw [h,beq_self_eq_true]; rfl
     ·cases (k:Int) == x.A
      ·rw [h,beq_self_eq_true]; rfl
      ·rfl
    rw [e,Option.bind_some,cond_true,fP (by omega)]
   ·by_cases hjk:j = k
    ·subst hjk; exact hA
    ·exact hI j (by omega)
  ·right
   have e:((bif (k:Int) == x.A then some true else some ((k:Int) == x.B)):Option Bool) = some false:=by
    have h1:((k:Int) == x.A) = false:=by simp; exact fun e => hA (.inl e)
    have h2:((k:Int) == x.B) = false:=by simp; exact fun e => hA (.inr e)
    rw [h1,h2]; rfl
   rw [e,Option.bind_some,cond_false]
   exact ⟨_,rfl,rfl,rfl,by simp only; omega,by simp only; omega,rfl,rfl,rfl,rfl,rfl,rfl⟩
 ·obtain ⟨rfl,hI⟩:=hI
  have h0:=hI 0 (by omega)
  have h1:=hI 1 (by omega)
  have h2:=hI 2 (by omega)
  omega
theorem aA4 {c:dJ} (h:CO c) {n:Int} (n1:1 ≤ n) (n6:n ≤ 6):Ex (JW c n) fun r => CO r.2 ∧ GI r.1 ∧ r.1.aF = n:=by
 unfold JW
 refine Ex.bif (fun hd => Ex.ret ⟨h,⟨by simp only; omega,by simp only; omega,by simp,fun x hx => by cases hx⟩,rfl⟩) (fun hd => ?_)
 rw [decide_eq_false_iff_not] at hd
 rw [Ep ⟨n,[]⟩ _ (by simp)]
 simp only [Option.bind_some]
 refine Ex.bind (Q:=fun b => CO ⟨b.1,b.2.1,b.2.2.1⟩ ∧ b.2.2.2.1 = n ∧ b.2.2.2.2.length ≤ 100 ∧ ∀ x ∈ b.2.2.2.2,rG n x) ?_ fun b hb => Ex.ret ⟨hb.1,⟨by simp only; rw [hb.2.1]; omega,by simp only; rw [hb.2.1]; omega,hb.2.2.1,by rw [hb.2.1]; exact hb.2.2.2⟩,hb.2.1⟩
 refine pO (fun k s => s.1 = ((k + 2:Nat):Int) ∧ CO ⟨s.2.1,s.2.2.1,s.2.2.2.1⟩ ∧ s.2.2.2.2.1 = n ∧ 0 < s.2.2.2.2.2.length ∧ s.2.2.2.2.2.length ≤ 1 + 3 * k ∧ ∀ x ∈ s.2.2.2.2.2,rG n x) _ (n.toNat - 2) (by omega) ⟨rfl,h,rfl,by simp [vM],by simp [vM],fun x hx => by
  simp only [vM,List.mem_singleton] at hx
  subst hx
  exact ⟨by simp,by simp only; omega,by simp,by simp only; omega⟩⟩ (fun k s hk hI => ?_) (fun s hI => ?_)
 ·obtain ⟨v,b,i,hh,p,l⟩:=s
  obtain ⟨rfl,hc,hp,hl0,hl,hin⟩:=hI
  change p = n at hp
  subst hp
  change 0 < l.length at hl0
  change l.length ≤ 1 + 3 * k at hl
  change ∀ x ∈ l,rG p x at hin
  left
  have key:Ex (JX p (((k + 2:Nat):Int),b,i,hh,p,l)) fun r => ∃ t,r = .inl t ∧ t.1 = ((k + 1 + 2:Nat):Int) ∧ CO ⟨t.2.1,t.2.2.1,t.2.2.2.1⟩ ∧ t.2.2.2.2.1 = p ∧ 0 < t.2.2.2.2.2.length ∧ t.2.2.2.2.2.length ≤ 1 + 3 * (k + 1) ∧ ∀ x ∈ t.2.2.2.2.2,rG p x:=by
   unfold JX
   rw [decide_eq_true (show ((k + 2:Nat):Int) < p by omega),cond_true]
   simp only
   refine (nJ hc _).bind fun r1 h1 => ?_
   have a1:=h1.2.2 (by omega)
   refine (nJ h1.1 _).bind fun r2 h2 => Ex.nz (by omega) ?_
   rw [fD (n:=((k + 2:Nat):Int) - 1) (by omega) (by omega)] at h2
   have a2:=h2.2.2 (by omega)
   have a3:=h1.2.1
   have a4:=h2.2.1
   refine Ex.bind (Q:=fun j => CO ⟨j.2.1,j.2.2.1,j.2.2.2⟩ ∧ (j.1 = true → 2 < k + 2)) ?_ fun j hj => ?_
   ·refine (XJ h2.1 2).bind fun r3 h3 => Ex.bif (fun _ => Ex.ret ⟨h3,fun hd => ?_⟩) (fun _ => Ex.ret ⟨h3,fun hd => by cases hd⟩)
    rw [decide_eq_true_eq] at hd
    omega
   ·refine Ex.bind (Q:=fun t => t.1 = ((k + 2:Nat):Int) ∧ CO ⟨t.2.1,t.2.2.1,t.2.2.2.1⟩ ∧ t.2.2.2.2.1 = p ∧ 0 < t.2.2.2.2.2.length ∧ t.2.2.2.2.2.length ≤ 1 + 3 * (k + 1) ∧ ∀ x ∈ t.2.2.2.2.2,rG p x) (Ex.bif (fun hj1 => ?_) (fun hj1 => ?_)) fun t ht => Ex.ret ⟨_,rfl,?_,ht.2⟩
    ·have hk2:=hj.2 hj1
     refine (nJ hj.1 _).bind fun r4 h4 => Ex.idx h4.2.1 (h4.2.2 (by omega)) fun x hx => (aIJ _ _ x).bind fun bb hb => ?_
     obtain ⟨w1,w2,w3,w4,w5,w6,w7,w8,w9,w10⟩:=hb
     obtain ⟨e1,e2,e3,e4,e5,e6,e7,e8,e9⟩:=bb
     obtain ⟨e9,e10⟩:=e9
     simp only [Prod.mk.injEq] at w1 w2 w3 w4 w5 w6 w7 w8 w9 w10
     obtain ⟨rfl,rfl⟩:=w10
     subst w1 w2 w5 w6 w7 w8 w9
     have hxi:=hin x hx
     have h4':=h4.2.2 (by omega)
     refine (aJy h4.1 (n:=((k + 2:Nat):Int)) (by omega) ⟨w3,by omega⟩ x).bind fun r5 h5 => (aJF ⟨e7,e8⟩ (by simp only; omega) r4.1 (by omega)).bind fun r6 h6 => ?_
     obtain ⟨q1,q2,q3⟩:=aJE ⟨e7,e8⟩ r4.1
     rw [← h6] at q1 q2 q3
     simp only at q1 q2 q3
     have p1:rG e7 ⟨x.A,((k + 2:Nat):Int)⟩:=⟨hxi.1,hxi.2.1,by simp only; omega,by simp only; omega⟩
     have p2:rG e7 ⟨x.B,((k + 2:Nat):Int)⟩:=⟨hxi.2.2.1,hxi.2.2.2,by simp only; omega,by simp only; omega⟩
     have p3:rG e7 ⟨r5.1,((k + 2:Nat):Int)⟩:=⟨h5.2.1,by have:=h5.2.2; simp only; omega,by simp only; omega,by simp only; omega⟩
     have aGB:∀ y ∈ r6.1.aA,rG e7 y:=fun y hy => hin y (q3 y hy)
     rw [Ep r6.1 _ (by omega)]
     simp only [Option.bind_some]
     rw [Ep _ _ (by simp only [Aa]; omega)]
     simp only [Option.bind_some]
     rw [Ep _ _ (by simp only [Aa]; omega)]
     refine Ex.ret ⟨rfl,h5.1,q1,?_,?_,MZ (MZ (MZ aGB p1) p2) p3⟩
     ·simp only [Aa]; omega
     ·simp only [Aa]; omega
    ·have hm:=Tf (x:=r1.1 + 1 + r2.1) (n:=((k + 2:Nat):Int)) (by omega) (by omega)
     rw [fD (n:=r1.1 + 1) (by omega) (by omega),fD (n:=r1.1 + 1 + r2.1) (by omega) (by omega)]
     rw [Ep ⟨p,l⟩ _ (by simp only; omega)]
     simp only [Option.bind_some]
     rw [Ep _ _ (by simp only [Aa]; omega)]
     refine Ex.ret ⟨rfl,hj.1,rfl,?_,?_,MZ (MZ hin ⟨h1.2.1,by simp only; omega,by simp only; omega,by simp only; omega⟩) ⟨hm.1,by have:=hm.2; simp only; omega,by simp only; omega,by simp only; omega⟩⟩
     ·simp only [Aa]; omega
     ·simp only [Aa]; omega
    ·simp only
     rw [ht.1,fP (by omega)]
  obtain ⟨r,e,t,rfl,ht⟩:=key
  exact ⟨t,e,ht⟩
 ·obtain ⟨v,b,i,hh,p,l⟩:=s
  obtain ⟨rfl,hc,hp,hl0,hl,hin⟩:=hI
  change p = n at hp
  subst hp
  refine ⟨(b,i,hh,p,l),?_,hc,rfl,?_,hin⟩
  ·unfold JX
   rw [decide_eq_false (by simp only; omega)]
   rfl
  ·simp only at hl ⊢
   omega
end
def listed (S:List Bool):List Int:=pieces (fun k => bif (S[k]?).getD false then [(k:Int)] else []) S.length
theorem Ex.if {α:Type} {b:Prop} [Decidable b] {x y:Option α} {Q:α → Prop} (h1:b → Ex x Q) (h2:¬ b → Ex y Q):Ex (if b then x else y) Q:=by
 split
 ·exact h1 ‹_›
 ·exact h2 ‹_›
structure FS (f:aW):Prop where
 b:f.Graph.aA.length ≤ 200
 p:f.Places.length ≤ 8
theorem SG {c:dJ} (h:CO c) {g:bM} (hg:GI g):Ex (DC c g) fun r => CO r.2 ∧ FS r.1 ∧ (r.1.Places.length:Int) = g.aF ∧ r.1.Graph.aF = g.aF:=by
 have p0:=hg.p0
 have p8:=hg.p8
 have hl:=hg.len
 unfold DC
 refine Ex.bind (Q:=fun b => CO ⟨b.1,b.2.1,b.2.2.1⟩ ∧ (b.2.2.2.length:Int) = g.aF) ?_ fun b hb => ?_
 ·refine pO (fun k s => s.1 = (k:Int) ∧ CO ⟨s.2.1,s.2.2.1,s.2.2.2.1⟩ ∧ s.2.2.2.2.length = k) _ g.aF.toNat (by omega) ⟨rfl,h,rfl⟩ (fun k s hk hI => ?_) (fun s hI => ?_)
  ·obtain ⟨i,b,ci,hh,l⟩:=s
   obtain ⟨rfl,hc,hll⟩:=hI
   change l.length = k at hll
   obtain ⟨u,hu1,hu2⟩:=nJ hc 5
   obtain ⟨v,hv1,hv2⟩:=nJ hu2.1 5
   left
   unfold Nw
   rw [decide_eq_true (by simp only; omega),cond_true]
   simp only [hu1,hv1,Option.bind_some]
   rw [jy (by simp; omega),Option.bind_some]
   exact ⟨_,rfl,fP (by omega),hv2.1,by simp [hll]⟩
  ·obtain ⟨i,b,ci,hh,l⟩:=s
   obtain ⟨rfl,hc,hll⟩:=hI
   change l.length = _ at hll
   refine ⟨(b,ci,hh,l),?_,hc,by simp only; omega⟩
   unfold Nw
   rw [decide_eq_false (by simp only; omega)]
   rfl
 ·refine Ex.bind (Q:=fun r => r.1 = b.1 ∧ r.2.1 = b.2.1 ∧ r.2.2.1 = b.2.2.1 ∧ r.2.2.2.1.length ≤ 100 ∧ r.2.2.2.2 = b.2.2.2) ?_ fun r hr => Ex.ret ⟨by rw [hr.1,hr.2.1,hr.2.2.1]; exact hb.1,⟨by have:=hr.2.2.2.1; show r.2.2.2.1.length ≤ 200; omega,by show r.2.2.2.2.length ≤ 8; rw [hr.2.2.2.2]; omega⟩,by show ((r.2.2.2.2).length:Int) = _; rw [hr.2.2.2.2]; exact hb.2,rfl⟩
  refine pO (fun k s => s.1 = (k:Int) ∧ s.2.length ≤ k) _ g.aA.length (by omega) ⟨rfl,by simp⟩ (fun k s hk hI => ?_) (fun s hI => ?_)
  ·obtain ⟨i,o⟩:=s
   obtain ⟨rfl,ho⟩:=hI
   change o.length ≤ k at ho
   have hx:=List.getElem?_eq_getElem hk
   obtain ⟨a0,a1,b0,b1⟩:=hg.inr _ (List.getElem_mem hk)
   have key:Ex (JQ g b ((k:Int),o)) fun r => ∃ t,r = .inl t ∧ t.1 = ((k + 1:Nat):Int) ∧ t.2.length ≤ k + 1:=by
    unfold JQ
    rw [decide_eq_true (by simp only; omega),cond_true]
    simp only [nV hx,Option.bind_some]
    refine Ex.bind (Q:=fun _ => True) (Ex.idx a0 (by omega) fun u _ => Ex.idx b0 (by omega) fun v _ => Ex.bif (fun _ => Ex.bif (fun _ => Ex.ret trivial) (fun hk0 => ?_)) (fun _ => Ex.ret trivial)) fun j _ => ?_
    ·have hk0':k ≠ 0:=fun e => by subst e; simp at hk0
     refine Ex.idx ?_ ?_ fun w _ => Ex.ret trivial
     ·rw [fD (by omega) (by omega)]; omega
     ·rw [fD (by omega) (by omega)]; omega
    ·refine Ex.bind (Q:=fun l => l.length ≤ k + 1) (Ex.bif (fun _ => Ex.lim (by simp; omega) (Ex.ret (by simp; omega))) (fun _ => Ex.ret (by omega))) fun l hl => Ex.ret ⟨_,rfl,?_,hl⟩
     simp only
     rw [fP (by omega)]
   obtain ⟨r,e,t,rfl,ht⟩:=key
   exact .inl ⟨t,e,ht⟩
  ·obtain ⟨i,o⟩:=s
   obtain ⟨rfl,ho⟩:=hI
   change o.length ≤ _ at ho
   refine ⟨(b.1,b.2.1,b.2.2.1,o,b.2.2.2),?_,rfl,rfl,rfl,by simp only; omega,rfl⟩
   unfold JQ
   rw [decide_eq_false (by simp only; omega)]
   rfl
theorem aDf {g:bM} (hg:GI g) (hl:g.aA.length ≤ 99) (a b:Int):GI (ve g a b):=by
 have h1:=Yd g a b
 have h2:=aDh g a b
 refine ⟨by rw [h1]; exact hg.p0,by rw [h1]; exact hg.p8,by omega,?_⟩
 rw [h1]
 exact aDg hg.inr a b
theorem aFK {c:dJ} (h:CO c):Ex (Nv c) fun r => CO r.2 ∧ FS r.1 ∧ 2 ≤ r.1.Places.length:=by
 unfold Nv
 refine (nJ h 3).bind fun r1 h1 => Ex.bif (fun _ => ?_) (fun _ => Ex.bif (fun _ => ?_) (fun _ => ?_))
 ·refine (nJ h1.1 5).bind fun r2 h2 => ?_
  have a:=h2.2.2 (by omega)
  have a0:=h2.2.1
  rw [fD (by omega) (by omega)]
  refine (aJa h2.1 (by omega) (by omega) _).bind fun r3 h3 => (SG h3.1 h3.2.1).bind fun r4 h4 => Ex.ret ⟨h4.1,h4.2.1,?_⟩
  have:=h4.2.2.1
  have:=h3.2.2.1
  simp only
  omega
 ·refine (nJ h1.1 4).bind fun r2 h2 => ?_
  have a:=h2.2.2 (by omega)
  have a0:=h2.2.1
  rw [fD (by omega) (by omega)]
  refine (aA4 h2.1 (by omega) (by omega)).bind fun r3 h3 => (nJ h3.1 _).bind fun r4 h4 => (nJ h4.1 _).bind fun r5 h5 => ?_
  have hl:=h3.2.1.len
  rw [aDi r3.1 (by omega)]
  have hgi:GI (ve r3.1 r4.1 r5.1):=by
   by_cases h99:r3.1.aA.length ≤ 99
   ·exact aDf h3.2.1 h99 _ _
   ·have:ve r3.1 r4.1 r5.1 = r3.1:=by
     unfold ve
     rw [decide_eq_false (show ¬ r3.1.aA.length < 24 by omega),Bool.and_false]
     rfl
    rw [this]
    exact h3.2.1
  simp only [Option.bind_some]
  refine (SG h5.1 hgi).bind fun r6 h6 => Ex.ret ⟨h6.1,h6.2.1,?_⟩
  have:=h6.2.2.1
  have e:=Yd r3.1 r4.1 r5.1
  have:=h3.2.2
  simp only
  omega
 ·refine (nJ h1.1 5).bind fun r2 h2 => ?_
  have a:=h2.2.2 (by omega)
  have a0:=h2.2.1
  rw [fD (by omega) (by omega)]
  refine (aA4 h2.1 (by omega) (by omega)).bind fun r3 h3 => (SG h3.1 h3.2.1).bind fun r4 h4 => Ex.ret ⟨h4.1,h4.2.1,?_⟩
  have:=h4.2.2.1
  have:=h3.2.2
  simp only
  omega
theorem D6 {c:dJ} (h:CO c):Ex (yK c) fun r => CO r.2 ∧ FS r.1:=by
 unfold yK
 refine (aFK h).bind fun r1 h1 => (nJ h1.1 14).bind fun r2 h2 => ?_
 have hp:=h1.2.1.p
 have h2p:=h1.2.2
 refine Ex.bind (Q:=fun j => CO ⟨j.1,j.2.1,j.2.2.1⟩ ∧ j.2.2.2.length ≤ 8) (Ex.bif (fun _ => ?_) (fun _ => Ex.bif (fun _ => ?_) (fun _ => ?_))) fun j hj => Ex.ret ⟨hj.1,h1.2.1.b,hj.2⟩
 ·exact (aBy h2.1 _ (by simp)).bind fun r3 h3 => Ex.idx (by omega) (by omega) fun v _ => Ex.ret ⟨h3.1,by simp; omega⟩
 ·have s:slc r1.1.Places 1 (r1.1.Places.length:Int) = some ((r1.1.Places.take r1.1.Places.length).drop 1):=by
   unfold slc
   rw [if_pos (by omega)]
   rfl
  rw [s]
  exact Ex.ret ⟨h2.1,by simp; omega⟩
 ·exact Ex.ret ⟨h2.1,hp⟩
theorem aCO (l:List Int) (h:l.length ≤ 100000):Iu l l = some true:=by
 unfold Iu
 rw [bne_self_eq_false,cond_false]
 have:=BZ (b:=Iw l l) (fun _ => false) false l.length (by omega) (fun k hk => by
  unfold Iw
  rw [decide_eq_true (by omega),cond_true,oH hk,Option.bind_some,Option.bind_some,bne_self_eq_false]) (by simp [Iw])
 rw [this,D7.2 fun _ _ _ => rfl]
 rfl
def rM {α:Type} (e:α → α → Bool):List α → List α → Bool
 | [],[] => true
 | x :: a,y :: b => e x y && rM e a b
 | _,_ => false
theorem Uy {α:Type} {e:α → α → Bool} (he:∀ x y,e x y = true ↔ x = y):∀ a b:List α,rM e a b = true ↔ a = b
 | [],[] => by simp [rM]
 | [],y :: b => by simp [rM]
 | x :: a,[] => by simp [rM]
 | x :: a,y :: b => by
  unfold rM
  rw [Bool.and_eq_true,he,Uy he a b,List.cons.injEq]
theorem Zm {α:Type} {e:α → α → Bool}:∀ (a b:List α),a.length = b.length → (List.range' 0 a.length).any (fun k => match a[k]?,b[k]? with | some x,some y => !e x y | _,_ => false) = !rM e a b
 | [],[],_ => rfl
 | [],y :: b,h => by simp at h
 | x :: a,[],h => by simp at h
 | x :: a,y :: b,h => by
  have ih:=Zm (e:=e) a b (by simpa using h)
  rw [List.length_cons,List.range'_succ,List.any_cons]
  unfold rM
  rw [Bool.not_and,← ih,List.range'_eq_map_range,List.range'_eq_map_range,List.any_map,List.any_map]
  congr 1
  congr 1
  funext k
  simp [Function.comp,Nat.add_comm]
theorem Qe {α:Type} {b:Int → Option (Int ⊕ (Unit ⊕ Bool))} (e:α → α → Bool) (a c:List α) (ha:SM a.length) (hl:a.length = c.length) (h:∀ (k:Nat) x y,k < a.length → a[k]? = some x → c[k]? = some y → b k = bif !e x y then some (.inr (.inr false)) else some (.inl (aB ((k:Int) + 1)))) (hr:b a.length = some (.inr (.inl ()))) :
  ((bW b BIG 0).bind (Sum.elim (fun _ => some true) (fun r => some r))) = some (rM e a c):=by
 have h1:=BZ (b:=b) (fun k => match a[k]?,c[k]? with | some x,some y => !e x y | _,_ => false) false a.length (by omega) (fun k hk => by
  rw [h k a[k] (c[k]'(by omega)) hk (List.getElem?_eq_getElem hk) (List.getElem?_eq_getElem (by omega)),List.getElem?_eq_getElem hk,List.getElem?_eq_getElem (by omega)]) hr
 rw [h1,Zm a c hl]
 cases rM e a c <;> rfl
theorem Zl {α:Type} {e:α → α → Bool}:∀ {a b:List α},rM e a b = true → a.length = b.length
 | [],[],_ => rfl
 | [],y :: b,h => by simp [rM] at h
 | x :: a,[],h => by simp [rM] at h
 | x :: a,y :: b,h => by
  unfold rM at h
  rw [Bool.and_eq_true] at h
  simp [Zl h.2]
def Gx (x y:aV):Bool:=jM [x.A,x.B] [y.A,y.B]
def Gy (x y:bG):Bool:=jM [x.X,x.Y] [y.X,y.Y]
theorem Qc {a b c d:Int}:jM [a,b] [c,d] = true ↔ a = c ∧ b = d:=by
 rw [Zk,decide_eq_true_eq]
 simp
theorem aE1 (x y:aV):Gx x y = true ↔ x = y:=by
 unfold Gx
 rw [Qc]
 cases x; cases y
 simp
theorem aE2 (x y:bG):Gy x y = true ↔ x = y:=by
 unfold Gy
 rw [Qc]
 cases x; cases y
 simp
def wu (a b:bM):Bool:=(a.aF == b.aF) && rM Gx a.aA b.aA
theorem Zj (a b:bM):wu a b = true ↔ a = b:=by
 unfold wu
 rw [Bool.and_eq_true,beq_iff_eq,Uy aE1]
 cases a; cases b
 simp
def eqF (a b:aW):Bool:=wu a.Graph b.Graph && rM Gy a.Places b.Places
theorem LG (a b:aW):eqF a b = true ↔ a = b:=by
 unfold eqF
 rw [Bool.and_eq_true,Zj,Uy aE2]
 cases a; cases b
 simp
theorem QC {α:Type} {a b:List α} (h:¬ a.length = b.length):((a.length:Int) != (b.length:Int)) = true:=by simp; omega
theorem Qd {α:Type} {e:α → α → Bool} {a b:List α} (h:¬ a.length = b.length):rM e a b = false:=by
 rw [← Bool.not_eq_true]
 exact fun h2 => h (Zl h2)
theorem aJR (a b:List aV) (ha:SM a.length):NR a b = some (rM Gx a b):=by
 unfold NR
 by_cases hl:a.length = b.length
 ·rw [zk.2 (by rw [hl]),cond_false]
  refine Qe Gx a b ha hl (fun k x y hk hx hy => ?_) (by simp [NS])
  unfold NS
  rw [decide_eq_true (by omega),cond_true,nV hx,nV hy,Option.bind_some,Option.bind_some]
  rfl
 ·rw [QC hl,Qd hl]
  rfl
theorem Zh (a b:bM) (ha:SM a.aA.length):II a b = some (wu a b):=by
 unfold II wu
 rw [aJR _ _ ha]
 cases a.aF == b.aF <;> rfl
theorem Zi (a b:bM) (ha:SM a.aA.length):I5 a b = some (wu a b):=by
 unfold I5 wu
 rw [show (a.aF != b.aF) = !(a.aF == b.aF) from rfl]
 cases a.aF == b.aF
 ·rfl
 ·simp only [Bool.not_true,cond_false,Option.bind_some,Bool.true_and]
  by_cases hl:a.aA.length = b.aA.length
  ·rw [zk.2 (by rw [hl]),cond_false]
   refine Qe Gx a.aA b.aA ha hl (fun k x y hk hx hy => ?_) (by simp [Nk])
   unfold Nk
   rw [decide_eq_true (by omega),cond_true,nV hx,nV hy,Option.bind_some,Option.bind_some]
   rfl
  ·rw [QC hl,Qd hl]
   rfl
theorem aJS (a b:List bG) (ha:SM a.length):NU a b = some (rM Gy a b):=by
 unfold NU
 by_cases hl:a.length = b.length
 ·rw [zk.2 (by rw [hl]),cond_false]
  refine Qe Gy a b ha hl (fun k x y hk hx hy => ?_) (by simp [NV])
  unfold NV
  rw [decide_eq_true (by omega),cond_true,nV hx,nV hy,Option.bind_some,Option.bind_some]
  rfl
 ·rw [QC hl,Qd hl]
  rfl
theorem aE6 (a b:aW) (h0:SM a.Graph.aA.length) (h1:SM a.Places.length):IG a b = some (eqF a b):=by
 unfold IG eqF
 rw [Zh _ _ h0,aJS _ _ h1]
 simp only [Option.bind_some]
 cases wu a.Graph b.Graph <;> rfl
theorem G5 (a b:aW) (h0:SM a.Graph.aA.length) (h1:SM a.Places.length):xE a b = some (eqF a b):=by
 unfold xE eqF
 rw [Zi _ _ h0]
 simp only [Option.bind_some]
 cases wu a.Graph b.Graph
 ·rfl
 ·simp only [Bool.not_true,cond_false,Option.bind_some,Bool.true_and]
  by_cases hl:a.Places.length = b.Places.length
  ·rw [zk.2 (by rw [hl]),cond_false]
   refine Qe Gy a.Places b.Places h1 hl (fun k x y hk hx hy => ?_) (by simp [Nj])
   unfold Nj
   rw [decide_eq_true (by omega),cond_true,nV hx,nV hy,Option.bind_some,Option.bind_some]
   rfl
  ·rw [QC hl,Qd hl]
   rfl
def BJ (f:aW) (k:Nat):List Int:=match f.Graph.aA[k]? with
 | some x => [xQ (dH f x.A) (dH f x.B)]
 | none => []
theorem Xr (f:aW) (k:Nat):(BJ f k).length ≤ 1:=by
 unfold BJ
 split
 ·exact Nat.le_refl _
 ·exact Nat.zero_le _
def uz (f:aW):List Int:=bif vF f then pieces (BJ f) f.Graph.aA.length else []
theorem Xv (f:aW):(uz f).length ≤ f.Graph.aA.length:=by
 unfold uz
 cases vF f
 ·exact Nat.zero_le _
 ·have:=pieces_len (f:=BJ f) (c:=1) f.Graph.aA.length (fun k _ => Xr f k)
  simpa using this
theorem Xt (f:aW) (h0:SM f.Graph.aA.length) (h1:SM f.Places.length):Ez f = some (uz f):=by
 unfold Ez uz
 rw [vN f h0 h1]
 cases hv:vF f
 ·rfl
 ·have h:=lY hv
  have hl:=h.len
  have:=Gj (b:=Ig f) (s:=(0,[])) (fun k out => ((k:Int),out)) (BJ f) id 1 f.Graph.aA.length [] (by omega) rfl (fun k _ => Xr f k) (fun k out hk ho => by
   have hx:=List.getElem?_eq_getElem hk
   simp only [List.length_nil,Nat.zero_add,Nat.one_mul] at ho
   have a0:=h.g.a0 hx
   have ab:=h.g.ab hx
   have bp:=h.g.bp hx
   unfold Ig BJ
   simp only [nV hx,hx,aCZ h a0 (by omega) (show 0 ≤ f.Graph.aA[k].B by omega) bp,Option.bind_some,fP (show k ≤ 1099511627776 by omega)]
   rw [decide_eq_true (by omega),cond_true,jy (by simp; omega)]
   rfl) (fun out => by simp [Ig])
  simp only [Option.bind_some,Bool.not_true,cond_false,cond_true,this]
  rfl
theorem Xu (f:aW) (h0:SM f.Graph.aA.length) (h1:SM f.Places.length):FI f = some (uz f):=by
 unfold FI uz
 cases hv:vF f
 ·have e:bW (Cm f) BIG (0,[]) = some []:=by
   refine jl (fun _ => (0,[])) 0 (by omega) rfl (fun k hk => by omega) ?_
   unfold Cm
   rw [rX f h0 h1,hv]
   cases decide ((0:Int) < (f.Graph.aA.length:Int)) <;> rfl
  rw [e]
  rfl
 ·have h:=lY hv
  have hl:=h.len
  have:=Gj (b:=Cm f) (s:=(0,[])) (fun k out => ((k:Int),out)) (BJ f) id 1 f.Graph.aA.length [] (by omega) rfl (fun k _ => Xr f k) (fun k out hk ho => by
   have hx:=List.getElem?_eq_getElem hk
   simp only [List.length_nil,Nat.zero_add,Nat.one_mul] at ho
   have a0:=h.g.a0 hx
   have ab:=h.g.ab hx
   have bp:=h.g.bp hx
   have ga:=h.xK a0 (show f.Graph.aA[k].A < f.Graph.aF by omega)
   have gb:=h.xK (show 0 ≤ f.Graph.aA[k].B by omega) bp
   unfold Cm BJ
   simp only [rX f h0 h1,hv,nV hx,hx,h.yO a0 (show f.Graph.aA[k].A < f.Graph.aF by omega),h.yO (show 0 ≤ f.Graph.aA[k].B by omega) bp,Option.bind_some,fP (show k ≤ 1099511627776 by omega)]
   rw [YB ⟨ga.1,ga.2.1⟩ ⟨gb.1,gb.2.1⟩ ⟨ga.2.2.1,ga.2.2.2⟩ ⟨gb.2.2.1,gb.2.2.2⟩,decide_eq_true (by omega),cond_true,Option.bind_some,cond_true,jy (by simp; omega)]
   rfl) (fun out => by simp [Cm])
  rw [this]
  rfl
def Jv (a b:aW):Bool:=vF a && (vF b && (wu a.Graph b.Graph && decide (uz a = uz b)))
theorem Xk (a b:aW) (h0:SM a.Graph.aA.length) (h1:SM a.Places.length) (h2:SM b.Graph.aA.length) (h3:SM b.Places.length):CQ a b = some (Jv a b):=by
 have hl:=Xv a
 unfold CQ Jv
 simp only [vN a h0 h1,vN b h2 h3,Zh _ _ h0,Xt a h0 h1,Xt b h2 h3,aCN (uz a) _ (by omega),Option.bind_some]
 cases vF a
 ·rfl
 ·cases vF b
  ·rfl
  ·cases wu a.Graph b.Graph <;> rfl
theorem aJT (a b:aW) (h0:SM a.Graph.aA.length) (h1:SM a.Places.length) (h2:SM b.Graph.aA.length) (h3:SM b.Places.length):I4 a b = some (Jv a b):=by
 have hl:=Xv a
 unfold I4 Jv
 simp only [rX a h0 h1,rX b h2 h3,Zi _ _ h0,Xu a h0 h1,Xu b h2 h3,aA3 (uz a) _ (by omega),Option.bind_some]
 cases vF a
 ·rfl
 ·cases vF b
  ·rfl
  ·cases wu a.Graph b.Graph <;> rfl
theorem Uo (f:aW) (h0:SM f.Graph.aA.length) (h1:SM f.Places.length):CU f = some f:=by
 unfold CU Rj
 rw [jy (by simp; omega),Option.bind_some,Option.bind_some,jy (by simp; omega)]
 rfl
theorem QO (f:aW) (h0:SM f.Graph.aA.length) (h1:SM f.Places.length):Az f = some f:=by
 unfold Az DF
 rw [jy (by simp; omega),Option.bind_some,Option.bind_some,jy (by simp; omega)]
 rfl
end Go.Proofs.Ytdmlaldifbmkpaa
end
section
open Go Go.Fw Go.Mx
namespace Go.Proofs.Ytdmlaldifbmkpaa
def indep (f:aW):Bool:=vF f && (rP f == (f.Graph.aA.length:Int))
def col (a b c:bG):Bool:=(mO a && (mO b && mO c)) && (aB (aB (b.X - a.X) * aB (c.Y - a.Y)) == aB (aB (c.X - a.X) * aB (b.Y - a.Y)))
theorem aIl (p:bG):FK p = some (mO p):=by
 unfold FK mO
 simp only [NH,Option.bind_some]
 cases decide (0 ≤ p.X) && decide (p.X ≤ 4) <;> rfl
def aFD (f:aW) (a b:Nat):List (List Int):=pieces (fun j => bif col (dH f (a:Int)) (dH f (b:Int)) (dH f ((b + 1 + j:Nat):Int)) then [[(a:Int),(b:Int),((b + 1 + j:Nat):Int)]] else []) (f.Places.length - (b + 1))
def aFC (f:aW) (a:Nat):List (List Int):=pieces (fun j => aFD f a (a + 1 + j)) (f.Places.length - (a + 1))
def flat (f:aW):List (List Int):=pieces (aFC f) f.Places.length
theorem aJL {N i j:Nat} {dx dy:Int} {k:Nat} (h1:k ≠ i) (h2:k ≠ i + 1) (h3:k ≠ j) (h4:k ≠ j + 1):(vS N i j dx dy).getD k 0 = 0:=by
 unfold vS
 have g:∀ (l:List Int) (a:Nat) (x:Int),k ≠ a → (l.set a x).getD k 0 = l.getD k 0:=fun l a x h => by
  rw [List.getD_eq_getElem?_getD,List.getD_eq_getElem?_getD,List.getElem?_set,if_neg (fun e => h e.symm)]
 rw [g _ _ _ h4,g _ _ _ h3,g _ _ _ h2,g _ _ _ h1,List.getD_eq_getElem?_getD,List.getElem?_replicate]
 split <;> rfl
theorem aIc {x y B C:Int} (hx:-B ≤ x ∧ x ≤ B) (hy:-C ≤ y ∧ y ≤ C):-(B * C) ≤ x * y ∧ x * y ≤ B * C:=by
 have h1:x.natAbs * y.natAbs ≤ B.toNat * C.toNat:=Nat.mul_le_mul (by omega) (by omega)
 have h2:(x * y).natAbs ≤ B.toNat * C.toNat:=by rw [Int.natAbs_mul]; exact h1
 have h3:((B.toNat * C.toNat:Nat):Int) = B * C:=by
  rw [Int.natCast_mul,show ((B.toNat:Nat):Int) = B by omega,show ((C.toNat:Nat):Int) = C by omega]
 omega
section
def lN (p:bG):bG:=⟨4 - p.Y,p.X⟩
def kW (p:bG):bG:=⟨4 - p.X,p.Y⟩
def iw (T:bG → bG) (f:aW):aW:=⟨f.Graph,f.Places.map T⟩
def moved (T:bG → bG) (f:aW):aW:=bif vF f then iw T f else f
structure UN (T:bG → bG):Prop where
 grid:∀ p,0 ≤ p.X ∧ p.X ≤ 4 ∧ 0 ≤ p.Y ∧ p.Y ≤ 4 → 0 ≤ (T p).X ∧ (T p).X ≤ 4 ∧ 0 ≤ (T p).Y ∧ (T p).Y ≤ 4
 sq:∀ p q,xQ (T p) (T q) = xQ p q
 inj:∀ p q,(T p).X = (T q).X → (T p).Y = (T q).Y → p.X = q.X ∧ p.Y = q.Y
theorem Me:UN lN:=⟨fun p h => by simp only [lN]; omega,fun p q => by simp only [lN,xQ]; grind,fun p q h1 h2 => by simp only [lN] at h1 h2; omega⟩
theorem Md:UN kW:=⟨fun p h => by simp only [kW]; omega,fun p q => by simp only [kW,xQ]; grind,fun p q h1 h2 => by simp only [kW] at h1 h2; omega⟩
section
variable {T:bG → bG} (hT:UN T) {f:aW} (hv:vF f = true)
include hv
theorem zK {v:Int} (h0:0 ≤ v) (h1:v < f.Graph.aF):dH (iw T f) v = T (dH f v):=by
 have H:=lY hv
 have hpl:=H.oO
 have hx:=List.getElem?_eq_getElem (show v.toNat < f.Places.length by omega)
 unfold dH iw
 simp only []
 rw [List.getElem?_map,hx]
 rfl
include hT
theorem yV:vF (iw T f) = true:=by
 have H:=lY hv
 have h1:(List.range' 0 (iw T f).Places.length).any (yj (iw T f).Places fun p => !mO p) = false:=D7.2 fun k _ hk => by
  have hk':k < f.Places.length:=by simp [iw] at hk; exact hk
  have hx:=List.getElem?_eq_getElem hk'
  have hg:=hT.grid _ (H.grid hx)
  unfold yj iw
  simp only []
  rw [List.getElem?_map,hx]
  simp only [Option.map_some,mO,Bool.not_eq_false',Bool.and_eq_true,decide_eq_true_eq]
  omega
 have h2:(List.range' 0 f.Graph.aA.length).any (xk (iw T f)) = false:=D7.2 fun k _ hk => by
  have hk':k < f.Graph.aA.length:=by omega
  have hx:=List.getElem?_eq_getElem hk'
  have a0:=H.g.a0 hx
  have ab:=H.g.ab hx
  have bp:=H.g.bp hx
  unfold xk
  rw [show (iw T f).Graph.aA[k]? = some f.Graph.aA[k] from hx]
  simp only []
  have e1:jM [(dH (iw T f) f.Graph.aA[k].A).X,(dH (iw T f) f.Graph.aA[k].A).Y] [(dH (iw T f) f.Graph.aA[k].B).X,(dH (iw T f) f.Graph.aA[k].B).Y] = false:=by
   rw [zK hv a0 (by omega),zK hv (by omega) bp]
   cases h:jM [(T (dH f f.Graph.aA[k].A)).X,(T (dH f f.Graph.aA[k].A)).Y] [(T (dH f f.Graph.aA[k].B)).X,(T (dH f f.Graph.aA[k].B)).Y] with
   | false => rfl
   | true =>
    obtain ⟨q1,q2⟩:=Qc.1 h
    have:=H.dif hx
    rw [Qc.2 (hT.inj _ _ q1 q2)] at this
    cases this
  rw [e1,Bool.false_or]
  by_cases hk0:0 < k
  ·have hy:=List.getElem?_eq_getElem (show k - 1 < f.Graph.aA.length by omega)
   rw [show (iw T f).Graph.aA[k - 1]? = some f.Graph.aA[k - 1] from hy,decide_eq_true hk0,Bool.true_and]
   exact H.nod hy (by rw [show k - 1 + 1 = k by omega]; exact hx)
  ·rw [decide_eq_false hk0]
   rfl
 unfold vF at hv ⊢
 simp only [Bool.and_eq_true] at hv
 rw [h1,show (iw T f).Graph = f.Graph from rfl,h2,show (iw T f).Places.length = f.Places.length from by simp [iw],hv.1.1.1.1.1,hv.1.1.1.1.2,hv.1.1.1.2,hv.1.1.2]
 rfl
theorem aCP:Jv f (iw T f) = true:=by
 have H:=lY hv
 unfold Jv
 rw [hv,yV hT hv,(Zj _ _).2 (show f.Graph = (iw T f).Graph from rfl)]
 have:uz f = uz (iw T f):=by
  unfold uz
  rw [hv,yV hT hv]
  refine SQ _ fun k hk => ?_
  have hx:=List.getElem?_eq_getElem hk
  have a0:=H.g.a0 hx
  have ab:=H.g.ab hx
  have bp:=H.g.bp hx
  unfold BJ
  rw [show (iw T f).Graph.aA[k]? = some f.Graph.aA[k] from hx,hx]
  simp only []
  rw [zK hv a0 (by omega),zK hv (by omega) bp,hT.sq]
 rw [decide_eq_true this]
 rfl
theorem aEk:Gv f (iw T f) = true:=by
 have H:=lY hv
 have hpl:=H.oO
 unfold Gv
 rw [hv,yV hT hv,show (f.Graph.aF == (iw T f).Graph.aF) = true from beq_self_eq_true _]
 have:vO f = vO (iw T f):=by
  unfold vO pairs
  rw [hv,yV hT hv,show (iw T f).Places.length = f.Places.length from by simp [iw]]
  refine SQ _ fun k hk => ?_
  unfold FY
  rw [show (iw T f).Places.length = f.Places.length from by simp [iw]]
  refine SQ _ fun j hj => ?_
  rw [zK hv (by omega) (by omega),zK hv (by omega) (by omega),hT.sq]
 rw [decide_eq_true this]
 rfl
end
theorem TG {f:aW} (H:VF f) {k:Nat} {x:aV} (hx:f.Graph.aA[k]? = some x) (c:Nat):(rowOf f x).getD c 0 = if c / 2 = x.A.toNat then (if c % 2 = 0 then (dH f x.A).X - (dH f x.B).X else (dH f x.A).Y - (dH f x.B).Y) else if c / 2 = x.B.toNat then (if c % 2 = 0 then -((dH f x.A).X - (dH f x.B).X) else -((dH f x.A).Y - (dH f x.B).Y)) else 0:=by
 have hpos:=Gm H hx
 obtain ⟨r1,r2,r3,r4⟩:=aCD (dx:=(dH f x.A).X - (dH f x.B).X) (dy:=(dH f x.A).Y - (dH f x.B).Y) hpos.1 hpos.2
 unfold rowOf
 by_cases hA:c / 2 = x.A.toNat
 ·rw [if_pos hA]
  by_cases h0:c % 2 = 0
  ·rw [if_pos h0,show c = 2 * x.A.toNat by omega,r1]
  ·rw [if_neg h0,show c = 2 * x.A.toNat + 1 by omega,r2]
 ·rw [if_neg hA]
  by_cases hB:c / 2 = x.B.toNat
  ·rw [if_pos hB]
   by_cases h0:c % 2 = 0
   ·rw [if_pos h0,show c = 2 * x.B.toNat by omega,r3]
   ·rw [if_neg h0,show c = 2 * x.B.toNat + 1 by omega,r4]
  ·rw [if_neg hB]
   exact aJL (by omega) (by omega) (by omega) (by omega)
theorem aB7 {f f':aW} (hv:vF f = true) (hv':vF f' = true) (hG:f'.Graph = f.Graph) (h:∀ c,c < nC f → ∃ (d:Nat) (s:Int),d < nC f ∧ ∀ x ∈ f.Graph.aA,(rowOf f' x).getD c 0 = s * (rowOf f x).getD d 0):rP f' ≤ rP f:=by
 have H:=lY hv
 have H':=lY hv'
 have hn:nC f' = nC f:=by unfold nC; rw [hG]
 have hlen:(nD f').length = (nD f).length:=by rw [DV,DV,hG]
 have r1:=aCw (O5 H)
 have r2:=aCw (O5 H')
 obtain ⟨V,hV⟩:=UZ (Tj (nC f) (nD f))
 obtain ⟨V',hV'⟩:=UZ (Tj (nC f') (nD f'))
 rw [hlen] at hV'
 have hle:=wW.le hV' hV hV'.ind fun v hvm => by
  obtain ⟨c,hc,rfl⟩:=List.mem_map.1 (hV'.mem v hvm)
  rw [List.mem_range,hn] at hc
  obtain ⟨d,s,hd,Qr⟩:=h c hc
  have hu:=hV.span ((nD f).map fun r => r.getD d 0) (List.mem_map.2 ⟨d,List.mem_range.2 hd,rfl⟩)
  refine Sp.lin _ _ _ s 0 hu hu (by rw [List.length_map,hlen]) fun k => ?_
  rw [List.getD_eq_getElem?_getD,List.getD_eq_getElem?_getD,List.getElem?_map,List.getElem?_map]
  unfold nD
  rw [List.getElem?_map,List.getElem?_map,hG]
  cases hk:f.Graph.aA[k]? with
  | none => simp
  | some x =>
   simp only [Option.map_some,Option.getD_some]
   rw [Qr x (List.mem_of_getElem? hk)]
   omega
 have e1:rP f = ((iE (nC f) (nD f) (nC f)).piv.length:Int):=by unfold rP; rw [hv]; rfl
 have e2:rP f' = ((iE (nC f') (nD f') (nC f')).piv.length:Int):=by unfold rP; rw [hv']; rfl
 rw [e1,e2,← r1,← r2,hlen]
 rw [hV'.len] at hle
 omega
theorem aBO {f:aW} (hv:vF f = true):rP (iw kW f) ≤ rP f:=by
 have H:=lY hv
 have hv':=yV Md hv
 refine aB7 hv hv' rfl fun c hc => ⟨c,if c % 2 = 0 then -1 else 1,hc,fun x hx => ?_⟩
 obtain ⟨k,hk⟩:=Wv (f:=f) hx
 have a0:=H.g.a0 hk
 have ab:=H.g.ab hk
 have bp:=H.g.bp hk
 rw [TG (lY hv') (show (iw kW f).Graph.aA[k]? = some x from hk),TG H hk,zK hv a0 (by omega),zK hv (by omega) bp]
 simp only [kW]
 split <;> split <;> (try split) <;> omega
theorem Ti {f:aW} (hv:vF f = true):rP (iw lN f) ≤ rP f:=by
 have H:=lY hv
 have hv':=yV Me hv
 refine aB7 hv hv' rfl fun c hc => ⟨if c % 2 = 0 then c + 1 else c - 1,if c % 2 = 0 then -1 else 1,by have:nC f = 2 * f.Graph.aF.toNat:=rfl; split <;> omega,fun x hx => ?_⟩
 obtain ⟨k,hk⟩:=Wv (f:=f) hx
 have a0:=H.g.a0 hk
 have ab:=H.g.ab hk
 have bp:=H.g.bp hk
 rw [TG (lY hv') (show (iw lN f).Graph.aA[k]? = some x from hk),TG H hk,zK hv a0 (by omega),zK hv (by omega) bp]
 simp only [lN]
 by_cases h0:c % 2 = 0
 ·rw [if_pos h0,if_pos h0,if_pos h0,if_pos h0,show (c + 1) / 2 = c / 2 by omega,if_neg (show ¬ (c + 1) % 2 = 0 by omega),if_neg (show ¬ (c + 1) % 2 = 0 by omega)]
  split
  ·omega
  ·split <;> omega
 ·rw [if_neg h0,if_neg h0,if_neg h0,if_neg h0,show (c - 1) / 2 = c / 2 by omega,if_pos (show (c - 1) % 2 = 0 by omega),if_pos (show (c - 1) % 2 = 0 by omega)]
  split
  ·omega
  ·split <;> omega
theorem SC (T U:bG → bG) (f:aW):iw T (iw U f) = iw (fun p => T (U p)) f:=by simp [iw,Function.comp_def]
theorem aBU {T:bG → bG} (h:∀ p,T p = p) (f:aW):iw T f = f:=by
 unfold iw
 rw [List.map_congr_left (g:=id) fun p _ => h p,List.map_id]
theorem aBP (f:aW):iw kW (iw kW f) = f:=by
 rw [SC]
 exact aBU (fun p => by cases p; simp only [kW]; congr 1; omega) f
theorem aJ7 (f:aW):iw lN (iw lN (iw lN (iw lN f))) = f:=by
 rw [SC,SC,SC]
 exact aBU (fun p => by cases p; simp only [lN]; congr 1 <;> omega) f
theorem aIZ {f:aW} (hv:vF f = true):rP (iw kW f) = rP f:=by
 have h1:=aBO hv
 have h2:=aBO (yV Md hv)
 rw [aBP] at h2
 omega
theorem aJ8 {f:aW} (hv:vF f = true):rP (iw lN f) = rP f:=by
 have v1:=yV Me hv
 have v2:=yV Me v1
 have v3:=yV Me v2
 have h1:=Ti hv
 have h2:=Ti v1
 have h3:=Ti v2
 have h4:=Ti v3
 rw [aJ7] at h4
 omega
end
end Go.Proofs.Ytdmlaldifbmkpaa
end
section
open Go Go.Fw
namespace Go.Proofs.Ytdmlaldifbmkpaa
section
def st (l:List UInt8):ByteArray:=⟨l.toArray⟩
theorem qG (l:List UInt8):(st l).size = l.length:=by simp [st,ByteArray.size]
theorem Dc (l:List UInt8):(st l).toList = l:=ByteArray.toList_mk l
theorem nO (a b:List UInt8) (h:a.length + b.length ≤ 1000000):kG (st a) (st b) = some (st (a ++ b)):=by
 unfold kG
 rw [qG,qG,if_pos (by omega)]
 exact congrArg some (ByteArray.mk_append_mk a b)
theorem DZ (l:List UInt8) (i j:Nat) (h:i ≤ j) (hj:j ≤ l.length):nN (st l) (i:Int) (j:Int) = some (st ((l.take j).drop i)):=by
 unfold nN
 rw [qG,if_pos (by omega),Int.toNat_natCast,Int.toNat_natCast]
 congr 1
 unfold st
 rw [List.drop_take]
 apply ByteArray.ext
 simp [ByteArray.data_extract,List.extract_toArray,List.extract_eq_take_drop]
theorem PD (l:List UInt8) (k:Nat) (h:k < l.length):rC (st l) (k:Int) = some (l[k].toNat:Int):=by
 unfold rC
 rw [if_pos (by omega),Int.toNat_natCast,ByteArray.getElem?_lt' _ _ (by rw [qG]; exact h)]
 rfl
def wZ (c:UInt8) (r:List (List UInt8) × List UInt8) (b:UInt8):List (List UInt8) × List UInt8:=if b = c then (r.1 ++ [r.2],[]) else (r.1,r.2 ++ [b])
def cgo (c:UInt8) (l:List UInt8):List (List UInt8) × List UInt8:=l.foldl (wZ c) ([],[])
def jK (c:UInt8) (l:List UInt8):List (List UInt8):=(cgo c l).1 ++ [(cgo c l).2]
theorem QL (c:UInt8) (l:List UInt8) (k:Nat) (h:k < l.length):cgo c (l.take (k + 1)) = wZ c (cgo c (l.take k)) l[k]:=by
 unfold cgo
 rw [List.take_succ_eq_append_getElem h,List.foldl_append]
 rfl
theorem EI (c:UInt8):∀ l:List UInt8,(cgo c l).1.length ≤ l.length ∧ (cgo c l).2.length ≤ l.length ∧ (cgo c l).2 = l.drop (l.length - (cgo c l).2.length):=by
 intro l
 have key:∀ k,k ≤ l.length → (cgo c (l.take k)).1.length ≤ k ∧ (cgo c (l.take k)).2.length ≤ k ∧ (cgo c (l.take k)).2 = (l.take k).drop (k - (cgo c (l.take k)).2.length):=by
  intro k
  induction k with
  | zero => intro _; simp [cgo]
  | succ k ih =>
   intro hk
   obtain ⟨i1,i2,i3⟩:=ih (by omega)
   rw [QL c l k (by omega)]
   unfold wZ
   split
   ·refine ⟨by simp; omega,by simp,?_⟩
    simp only [List.length_nil,Nat.sub_zero]
    rw [List.drop_eq_nil_of_le (by rw [List.length_take]; omega)]
   ·refine ⟨by simp only; omega,by simp; omega,?_⟩
    simp only [List.length_append,List.length_cons,List.length_nil,Nat.zero_add]
    rw [List.take_succ_eq_append_getElem (by omega),List.drop_append_of_le_length (by simp; omega),show k + 1 - ((cgo c (l.take k)).2.length + 1) = k - (cgo c (l.take k)).2.length by omega,← i3]
 have:=key l.length (Nat.le_refl _)
 rwa [List.take_length] at this
section
variable (l:List UInt8) (hl:l.length ≤ 100000) (c:UInt8)
include hl
theorem Bl:DI (st l) (c.toNat:Int) = some ((jK c l).map st):=by
 have e:bW (JU (st l) (c.toNat:Int)) BIG (ByteArray.empty,0,([]:List ByteArray)) = some (st (cgo c l).2,(cgo c l).1.map st):=by
  refine jl (fun (k:Nat) => (st (cgo c (l.take k)).2,(k:Int),(cgo c (l.take k)).1.map st)) l.length (by omega) (by simp [cgo]; rfl) (fun k hk => ?_) (by simp [JU,qG])
  have h1:=EI c (l.take k)
  rw [List.length_take] at h1
  have hb:(l[k].toNat:Int) = (c.toNat:Int) ↔ l[k] = c:=⟨fun h => UInt8.toNat_inj.1 (by omega),fun h => by rw [h]⟩
  unfold JU
  simp only [qG,PD l k hk,Option.bind_some]
  rw [decide_eq_true (by omega),cond_true,QL c l k hk]
  unfold wZ
  by_cases hc:l[k] = c
  ·rw [if_pos hc,beq_iff_eq.2 (hb.2 hc),cond_true,jy (by simp; omega),Option.bind_some,Option.bind_some,fP (show k ≤ 1099511627776 by omega)]
   simp [List.map_append]
   rfl
  ·rw [if_neg hc,beq_eq_false_iff_ne.2 (fun h => hc (hb.1 h)),cond_false,fP (show k ≤ 1099511627776 by omega),DZ l k (k + 1) (by omega) (by omega),Option.bind_some,show (l.take (k + 1)).drop k = [l[k]] from by rw [List.take_succ_eq_append_getElem hk,List.drop_append_of_le_length (by simp; omega),List.drop_eq_nil_of_le (by rw [List.length_take]; omega)]; rfl,nO _ _ (by simp; omega)]
   rfl
 have h1:=EI c l
 unfold DI
 rw [e,Option.bind_some,jy (by simp; omega),Option.bind_some]
 simp [jK]
theorem Bj:CW (st l) (c.toNat:Int) = some ((jK c l).map st):=by
 have e:bW (Il (st l) (c.toNat:Int)) BIG (0,0,([]:List ByteArray)) = some (((l.length - (cgo c l).2.length:Nat):Int),(cgo c l).1.map st):=by
  refine jl (fun (k:Nat) => (((k - (cgo c (l.take k)).2.length:Nat):Int),(k:Int),(cgo c (l.take k)).1.map st)) l.length (by omega) (by simp [cgo]) (fun k hk => ?_) (by simp [Il,qG])
  have h1:=EI c (l.take k)
  rw [List.length_take,Nat.min_eq_left (by omega)] at h1
  have hb:(l[k].toNat:Int) = (c.toNat:Int) ↔ l[k] = c:=⟨fun h => UInt8.toNat_inj.1 (by omega),fun h => by rw [h]⟩
  unfold Il
  simp only [qG,PD l k hk,Option.bind_some]
  rw [decide_eq_true (by omega),cond_true,QL c l k hk]
  unfold wZ
  by_cases hc:l[k] = c
  ·rw [if_pos hc,beq_iff_eq.2 (hb.2 hc),cond_true,DZ l _ k (by omega) (by omega),Option.bind_some,← h1.2.2,jy (by simp; omega),Option.bind_some,Option.bind_some,fP (show k ≤ 1099511627776 by omega)]
   simp
  ·rw [if_neg hc,beq_eq_false_iff_ne.2 (fun h => hc (hb.1 h)),cond_false,Option.bind_some,fP (show k ≤ 1099511627776 by omega)]
   simp only [List.length_append,List.length_cons,List.length_nil,Nat.zero_add]
   congr 4
   omega
 have h1:=EI c l
 unfold CW
 rw [e,Option.bind_some]
 simp only []
 rw [qG,DZ l _ l.length (by omega) (Nat.le_refl _),Option.bind_some,List.take_length,← h1.2.2,jy (by simp; omega),Option.bind_some]
 simp [jK]
end
end
theorem aCW:∀ (l:List Int) (a:List UInt8),l.foldl (fun r n => r.push (UInt8.ofNat n.toNat)) (st a) = st (a ++ l.map fun n => UInt8.ofNat n.toNat)
 | [],a => by simp
 | n :: l,a => by
  rw [List.foldl_cons,show (st a).push (UInt8.ofNat n.toNat) = st (a ++ [UInt8.ofNat n.toNat]) from by unfold st; apply ByteArray.ext; simp,aCW l]
  simp
theorem O8 (l:List Int):yQ l = st (l.map fun n => UInt8.ofNat n.toNat):=by
 show List.foldl _ (st []) l = _
 rw [aCW l []]
 rfl
def dN (d:Nat):UInt8:=UInt8.ofNat (48 + d)
theorem aFE:∀ d:Nat,d ≤ 9 → xC (d:Int) = some (st [dN d])
 | 0,_ => by kernel_rfl
 | 1,_ => by kernel_rfl
 | 2,_ => by kernel_rfl
 | 3,_ => by kernel_rfl
 | 4,_ => by kernel_rfl
 | 5,_ => by kernel_rfl
 | 6,_ => by kernel_rfl
 | 7,_ => by kernel_rfl
 | 8,_ => by kernel_rfl
 | 9,_ => by kernel_rfl
 | n + 10,h => by omega
theorem aFG:∀ d:Nat,d ≤ 9 → xG (d:Int) = some (st [dN d])
 | 0,_ => by kernel_rfl
 | 1,_ => by kernel_rfl
 | 2,_ => by kernel_rfl
 | 3,_ => by kernel_rfl
 | 4,_ => by kernel_rfl
 | 5,_ => by kernel_rfl
 | 6,_ => by kernel_rfl
 | 7,_ => by kernel_rfl
 | 8,_ => by kernel_rfl
 | 9,_ => by kernel_rfl
 | n + 10,h => by omega
theorem OQ:∀ d:Nat,d ≤ 9 → zF (st [dN d]) = some ((d:Int),true)
 | 0,_ => by kernel_rfl
 | 1,_ => by kernel_rfl
 | 2,_ => by kernel_rfl
 | 3,_ => by kernel_rfl
 | 4,_ => by kernel_rfl
 | 5,_ => by kernel_rfl
 | 6,_ => by kernel_rfl
 | 7,_ => by kernel_rfl
 | 8,_ => by kernel_rfl
 | 9,_ => by kernel_rfl
 | n + 10,h => by omega
theorem aBt:∀ d:Nat,d ≤ 9 → JI (st [dN d]) = some ((d:Int),true)
 | 0,_ => by kernel_rfl
 | 1,_ => by kernel_rfl
 | 2,_ => by kernel_rfl
 | 3,_ => by kernel_rfl
 | 4,_ => by kernel_rfl
 | 5,_ => by kernel_rfl
 | 6,_ => by kernel_rfl
 | 7,_ => by kernel_rfl
 | 8,_ => by kernel_rfl
 | 9,_ => by kernel_rfl
 | n + 10,h => by omega
theorem aCm {m:Int} {b:Nat} (h:m.natAbs < b * 10):(Int.tdiv m 10).natAbs < b:=by
 rw [Int.natAbs_tdiv]
 exact Nat.div_lt_of_lt_mul (by simpa [Nat.mul_comm] using h)
theorem aJ3 (m:Int):-9 ≤ Int.tmod m 10 ∧ Int.tmod m 10 ≤ 9:=by
 have h1:=Int.tmod_lt_of_pos m (show (0:Int) < 10 by omega)
 have h2:=Int.neg_tmod m 10
 have h3:=Int.tmod_lt_of_pos (-m) (show (0:Int) < 10 by omega)
 omega
theorem aFH {n:Int} (h:n.natAbs < 10000000000):Ex (xG n) fun s => ∃ l:List UInt8,s = st l ∧ l.length ≤ 11:=by
 unfold xG
 refine Ex.bif (fun _ => Ex.ret ⟨[48],rfl,by simp⟩) (fun _ => ?_)
 refine Ex.bind (Q:=fun s => ∃ l:List UInt8,s = st l ∧ l.length ≤ 10) ?_ fun s hs => ?_
 ·refine pO (fun k s => s.1.natAbs < 10 ^ (10 - k) ∧ ∃ l:List UInt8,s.2 = st l ∧ l.length = k) _ 10 (by omega) ⟨by simpa using h,[],rfl,rfl⟩ (fun k s hk hI => ?_) (fun s hI => ?_)
  ·obtain ⟨m,t⟩:=s
   obtain ⟨hm,l,rfl,hl⟩:=hI
   simp only at hm
   have htm:=aJ3 m
   by_cases h0:m = 0
   ·right
    refine ⟨st l,?_,l,rfl,by omega⟩
    unfold JA
    subst h0
    rfl
   ·left
    have hb:(m != 0) = true:=by simpa using h0
    have hd:∃ j,(bif decide ((Int.tmod m 10) < 0) then some (aB (-(Int.tmod m 10))) else some (Int.tmod m 10):Option Int) = some j:=by
     cases decide ((Int.tmod m 10) < 0) <;> exact ⟨_,rfl⟩
    obtain ⟨j,hj⟩:=hd
    have hq:(Int.tdiv m 10).natAbs < 10 ^ (10 - (k + 1)):=aCm (by
     have:10 ^ (10 - k) = 10 ^ (10 - (k + 1)) * 10:=by rw [← Nat.pow_succ]; congr 1; omega
     omega)
    have hq2:(Int.tdiv m 10).natAbs < 10000000000:=Nat.lt_of_lt_of_le hq (Nat.pow_le_pow_right (n:=10) (by omega) (show 10 - (k + 1) ≤ 10 by omega))
    refine ⟨(Int.tdiv m 10,st ([UInt8.ofNat (IntKind.u8.wrap (aB (48 + j))).toNat] ++ l)),?_,hq,_,rfl,by simp; omega⟩
    unfold JA
    simp only [hb,cond_true,hj,Option.bind_some,O8,List.map_cons,List.map_nil,nO _ _ (show ([UInt8.ofNat (IntKind.u8.wrap (aB (48 + j))).toNat]:List UInt8).length + l.length ≤ 1000000 by simp; omega),fD (n:=Int.tdiv m 10) (by omega) (by omega)]
  ·obtain ⟨m,t⟩:=s
   obtain ⟨hm,l,rfl,hl⟩:=hI
   have h0:m = 0:=by simp at hm; omega
   subst h0
   refine ⟨st l,?_,l,rfl,by omega⟩
   unfold JA
   rfl
 ·obtain ⟨l,rfl,hl⟩:=hs
  refine Ex.bif (fun _ => ?_) (fun _ => Ex.ret ⟨l,rfl,by omega⟩)
  rw [show ByteArray.mk #[45] = st [45] from rfl,nO _ _ (by simp; omega)]
  exact Ex.ret ⟨_,rfl,by simp; omega⟩
theorem aFF {n:Int} (h:n.natAbs < 10000000000):Ex (xC n) fun s => ∃ l:List UInt8,s = st l ∧ l.length ≤ 11:=by
 unfold xC
 refine Ex.bif (fun _ => Ex.ret ⟨[48],rfl,by simp⟩) (fun _ => ?_)
 refine Ex.bind (Q:=fun l => l.length ≤ 10) ?_ fun l hl => ?_
 ·refine pO (fun k s => s.1.natAbs < 10 ^ (10 - k) ∧ s.2.length = k) _ 10 (by omega) ⟨by simpa using h,rfl⟩ (fun k s hk hI => ?_) (fun s hI => ?_)
  ·obtain ⟨m,l⟩:=s
   obtain ⟨hm,hl⟩:=hI
   simp only at hm hl
   by_cases h0:m = 0
   ·right
    refine ⟨l,?_,by omega⟩
    unfold IU
    subst h0
    rfl
   ·left
    have hb:(m != 0) = true:=by simpa using h0
    have hd:∃ j,(bif decide ((Int.tmod m 10) < 0) then some (aB (-(Int.tmod m 10))) else some (Int.tmod m 10):Option Int) = some j:=by
     cases decide ((Int.tmod m 10) < 0) <;> exact ⟨_,rfl⟩
    obtain ⟨j,hj⟩:=hd
    have hq:(Int.tdiv m 10).natAbs < 10 ^ (10 - (k + 1)):=aCm (by
     have:10 ^ (10 - k) = 10 ^ (10 - (k + 1)) * 10:=by rw [← Nat.pow_succ]; congr 1; omega
     omega)
    have hq2:(Int.tdiv m 10).natAbs < 10000000000:=Nat.lt_of_lt_of_le hq (Nat.pow_le_pow_right (n:=10) (by omega) (show 10 - (k + 1) ≤ 10 by omega))
    refine ⟨(Int.tdiv m 10,l ++ [IntKind.u8.wrap (aB (48 + j))]),?_,hq,by simp; omega⟩
    unfold IU
    simp only [hb,cond_true,hj,Option.bind_some,jy (show l.length + ([IntKind.u8.wrap (aB (48 + j))]:List Int).length ≤ 2147483648 by simp; omega),fD (n:=Int.tdiv m 10) (by omega) (by omega)]
  ·obtain ⟨m,l⟩:=s
   obtain ⟨hm,hl⟩:=hI
   change l.length = 10 at hl
   have h0:m = 0:=by simp at hm; omega
   subst h0
   refine ⟨l,?_,by omega⟩
   unfold IU
   rfl
 ·refine Ex.bind (Q:=fun l => l.length ≤ 11) (Ex.bif (fun _ => Ex.lim (by simp; omega) (Ex.ret (by simp; omega))) (fun _ => Ex.ret (show l.length ≤ 11 by omega))) fun q hq => ?_
  refine Ex.bind (Q:=fun l => l.length ≤ 11) ?_ fun r hr => Ex.ret ⟨_,O8 r,by simpa using hr⟩
  refine pO (fun k s => s.1 = (k:Int) ∧ s.2.1 = (q.length:Int) - 1 - (k:Int) ∧ s.2.2.length = q.length) _ q.length (by omega) ⟨rfl,by rw [fD (by omega) (by omega)]; simp,rfl⟩ (fun k s hk hI => ?_) (fun s hI => ?_)
  ·obtain ⟨i,j,l⟩:=s
   obtain ⟨hi,hj,hl⟩:=hI
   simp only at hi hj hl
   by_cases hlt:i < j
   ·left
    have e1:=CB (l:=l) 0 (show 0 ≤ j by omega) (by omega)
    have e2:=CB (l:=l) 0 (show 0 ≤ i by omega) (by omega)
    have e3:=CB (l:=l.set i.toNat (l.getD j.toNat 0)) 0 (show 0 ≤ j by omega) (by simp; omega)
    refine ⟨(i + 1,j - 1,(l.set i.toNat (l.getD j.toNat 0)).set j.toNat (l.getD i.toNat 0)),?_,by simp only; omega,by simp only; omega,by simp; omega⟩
    unfold IV
    simp only []
    rw [decide_eq_true hlt,cond_true,fD (n:=i + 1) (by omega) (by omega),fD (n:=j - 1) (by omega) (by omega)]
    simp only [List.getD_eq_getElem?_getD] at e1 e2 e3 ⊢
    simp only [e1,e2,e3,Option.bind_some]
   ·right
    refine ⟨l,?_,by omega⟩
    unfold IV
    rw [decide_eq_false (by simp only; omega)]
    rfl
  ·obtain ⟨i,j,l⟩:=s
   obtain ⟨hi,hj,hl⟩:=hI
   simp only at hi hj hl
   refine ⟨l,?_,by omega⟩
   unfold IV
   rw [decide_eq_false (by simp only; omega)]
   rfl
theorem DL:ByteArray.mk #[32] = st [32]:=rfl
theorem aBR:ByteArray.mk #[45] = st [45]:=rfl
theorem aBS:ByteArray.mk #[58] = st [58]:=rfl
theorem aBQ:ByteArray.mk #[44] = st [44]:=rfl
theorem aBT:ByteArray.mk #[32,97,116] = st [32,97,116]:=rfl
theorem mkE:ByteArray.empty = st []:=rfl
def wB (g:bM) (k:Nat):List UInt8:=match g.aA[k]? with
 | some x => [32,dN x.A.toNat,45,dN x.B.toNat]
 | none => []
def wP (f:aW) (k:Nat):List UInt8:=match f.Places[k]? with
 | some x => [32,dN x.X.toNat,44,dN x.Y.toNat]
 | none => []
def fmtG (g:bM):List UInt8:=bif vG g then [dN g.aF.toNat,58] ++ pieces (wB g) g.aA.length else []
def sO (f:aW):List UInt8:=bif vF f then fmtG f.Graph ++ [32,97,116] ++ pieces (wP f) f.Places.length else []
theorem PW (g:bM) (k:Nat):(wB g k).length ≤ 4:=by unfold wB; split <;> simp
theorem YD (f:aW) (k:Nat):(wP f k).length ≤ 4:=by unfold wP; split <;> simp
theorem Ky {x:Int} (h0:0 ≤ x) (h9:x ≤ 9):xC x = some (st [dN x.toNat]):=by
 have:=aFE x.toNat (by omega)
 rwa [Int.toNat_of_nonneg h0] at this
theorem Kz {x:Int} (h0:0 ≤ x) (h9:x ≤ 9):xG x = some (st [dN x.toNat]):=by
 have:=aFG x.toNat (by omega)
 rwa [Int.toNat_of_nonneg h0] at this
theorem LM (g:bM):(fmtG g).length ≤ 98:=by
 unfold fmtG
 cases hv:vG g with
 | false => simp
 | true =>
  have:=(yX hv).len
  have:=pieces_len (f:=wB g) (c:=4) g.aA.length (fun k _ => PW g k)
  simp
  omega
theorem U6 (f:aW):(sO f).length ≤ 200:=by
 unfold sO
 cases hv:vF f with
 | false => simp
 | true =>
  have H:=lY hv
  have:=H.oO
  have:=H.p6
  have h1:=LM f.Graph
  have:=pieces_len (f:=wP f) (c:=4) f.Places.length (fun k _ => YD f k)
  simp
  omega
theorem U7 (g:bM) (h:SM g.aA.length):IL g = some (st (fmtG g)):=by
 unfold IL fmtG
 rw [WZ g h]
 cases hv:vG g with
 | false => rfl
 | true =>
  have H:=yX hv
  have hl:=H.len
  have p1:=H.p1
  have p8:=H.p8
  simp only [Option.bind_some,Bool.not_true,cond_false,cond_true,Ky (x:=g.aF) (by omega) (by omega),aBS,nO _ _ (show ([dN g.aF.toNat]:List UInt8).length + ([58]:List UInt8).length ≤ 1000000 by simp)]
  have e:bW (IQ g) BIG (st ([dN g.aF.toNat] ++ [58]),0) = some (st ([dN g.aF.toNat,58] ++ pieces (wB g) g.aA.length)):=by
   refine jl (fun (k:Nat) => (st ([dN g.aF.toNat,58] ++ pieces (wB g) k),(k:Int))) g.aA.length (by omega) (by simp [pieces]) (fun k hk => ?_) (by simp [IQ])
   have hx:=List.getElem?_eq_getElem hk
   have a0:=H.a0 hx
   have ab:=H.ab hx
   have bp:=H.bp hx
   have hp:=pieces_len (f:=wB g) (c:=4) k (fun k _ => PW g k)
   unfold IQ
   simp only [oH hk,Option.bind_some,DL,aBR,Ky a0 (by omega),Ky (x:=g.aA[k].B) (by omega) (by omega)]
   rw [decide_eq_true (by omega),cond_true,nO _ _ (by simp; omega),Option.bind_some,nO _ _ (by simp; omega),Option.bind_some,nO _ _ (by simp; omega),Option.bind_some,nO _ _ (by simp; omega),Option.bind_some,fP (show k ≤ 1099511627776 by omega)]
   congr 4
   show _ = [dN g.aF.toNat,58] ++ (pieces (wB g) k ++ wB g k)
   unfold wB
   rw [hx]
   simp
  rw [e]
  rfl
theorem U8 (g:bM) (h:SM g.aA.length):I8 g = some (st (fmtG g)):=by
 unfold I8 fmtG
 rw [RI g h]
 cases hv:vG g with
 | false => rfl
 | true =>
  have H:=yX hv
  have hl:=H.len
  have p1:=H.p1
  have p8:=H.p8
  simp only [Option.bind_some,Bool.not_true,cond_false,cond_true,Kz (x:=g.aF) (by omega) (by omega),aBS,nO _ _ (show ([dN g.aF.toNat]:List UInt8).length + ([58]:List UInt8).length ≤ 1000000 by simp)]
  have e:bW (I9 g) BIG (st ([dN g.aF.toNat] ++ [58]),0) = some (st ([dN g.aF.toNat,58] ++ pieces (wB g) g.aA.length)):=by
   refine jl (fun (k:Nat) => (st ([dN g.aF.toNat,58] ++ pieces (wB g) k),(k:Int))) g.aA.length (by omega) (by simp [pieces]) (fun k hk => ?_) (by simp [I9])
   have hx:=List.getElem?_eq_getElem hk
   have a0:=H.a0 hx
   have ab:=H.ab hx
   have bp:=H.bp hx
   have hp:=pieces_len (f:=wB g) (c:=4) k (fun k _ => PW g k)
   unfold I9
   simp only [oH hk,Option.bind_some,DL,aBR,Kz a0 (by omega),Kz (x:=g.aA[k].B) (by omega) (by omega)]
   rw [decide_eq_true (by omega),cond_true,nO _ _ (by simp; omega),Option.bind_some,nO _ _ (by simp; omega),Option.bind_some,nO _ _ (by simp; omega),Option.bind_some,nO _ _ (by simp; omega),Option.bind_some,fP (show k ≤ 1099511627776 by omega)]
   congr 4
   show _ = [dN g.aF.toNat,58] ++ (pieces (wB g) k ++ wB g k)
   unfold wB
   rw [hx]
   simp
  rw [e]
  rfl
theorem U5 (f:aW) (h:SM f.Graph.aA.length) (h1:SM f.Places.length):IJ f = some (st (sO f)):=by
 unfold IJ sO
 rw [vN f h h1]
 cases hv:vF f with
 | false => rfl
 | true =>
  have H:=lY hv
  have hg:=LM f.Graph
  have hpl:=H.oO
  have p6:=H.p6
  simp only [Option.bind_some,Bool.not_true,cond_false,cond_true,U7 f.Graph h,aBT,nO _ _ (show (fmtG f.Graph).length + ([32,97,116]:List UInt8).length ≤ 1000000 by simp; omega)]
  have e:bW (IK f) BIG (st (fmtG f.Graph ++ [32,97,116]),0) = some (st (fmtG f.Graph ++ [32,97,116] ++ pieces (wP f) f.Places.length)):=by
   refine jl (fun (k:Nat) => (st (fmtG f.Graph ++ [32,97,116] ++ pieces (wP f) k),(k:Int))) f.Places.length (by omega) (by simp [pieces]) (fun k hk => ?_) (by simp [IK])
   have hx:=List.getElem?_eq_getElem hk
   have hgr:=H.grid hx
   have hp:=pieces_len (f:=wP f) (c:=4) k (fun k _ => YD f k)
   unfold IK
   simp only [oH hk,Option.bind_some,DL,aBQ,Ky hgr.1 (by omega),Ky hgr.2.2.1 (by omega)]
   rw [decide_eq_true (by omega),cond_true,nO _ _ (by simp; omega),Option.bind_some,nO _ _ (by simp; omega),Option.bind_some,nO _ _ (by simp; omega),Option.bind_some,nO _ _ (by simp; omega),Option.bind_some,fP (show k ≤ 1099511627776 by omega)]
   congr 4
   show _ = fmtG f.Graph ++ [32,97,116] ++ (pieces (wP f) k ++ wP f k)
   unfold wP
   rw [hx]
   simp
  rw [e]
  rfl
theorem Qh (f:aW) (h:SM f.Graph.aA.length) (h1:SM f.Places.length):FC f = some (st (sO f)):=by
 unfold FC sO
 rw [rX f h h1]
 cases hv:vF f with
 | false => rfl
 | true =>
  have H:=lY hv
  have hg:=LM f.Graph
  have hpl:=H.oO
  have p6:=H.p6
  simp only [Option.bind_some,Bool.not_true,cond_false,cond_true,U8 f.Graph h,aBT,nO _ _ (show (fmtG f.Graph).length + ([32,97,116]:List UInt8).length ≤ 1000000 by simp; omega)]
  have e:bW (I7 f) BIG (st (fmtG f.Graph ++ [32,97,116]),0) = some (st (fmtG f.Graph ++ [32,97,116] ++ pieces (wP f) f.Places.length)):=by
   refine jl (fun (k:Nat) => (st (fmtG f.Graph ++ [32,97,116] ++ pieces (wP f) k),(k:Int))) f.Places.length (by omega) (by simp [pieces]) (fun k hk => ?_) (by simp [I7])
   have hx:=List.getElem?_eq_getElem hk
   have hgr:=H.grid hx
   have hp:=pieces_len (f:=wP f) (c:=4) k (fun k _ => YD f k)
   unfold I7
   simp only [oH hk,Option.bind_some,DL,aBQ,Kz hgr.1 (by omega),Kz hgr.2.2.1 (by omega)]
   rw [decide_eq_true (by omega),cond_true,nO _ _ (by simp; omega),Option.bind_some,nO _ _ (by simp; omega),Option.bind_some,nO _ _ (by simp; omega),Option.bind_some,nO _ _ (by simp; omega),Option.bind_some,fP (show k ≤ 1099511627776 by omega)]
   congr 4
   show _ = fmtG f.Graph ++ [32,97,116] ++ (pieces (wP f) k ++ wP f k)
   unfold wP
   rw [hx]
   simp
  rw [e]
  rfl
section
theorem aEf (c:UInt8) (l:List UInt8):∀ w ∈ (cgo c l).1,w.length ≤ l.length:=by
 have key:∀ k,k ≤ l.length → ∀ w ∈ (cgo c (l.take k)).1,w.length ≤ l.length:=by
  intro k
  induction k with
  | zero => intro _ w hw; simp [cgo] at hw
  | succ k ih =>
   intro hk w hw
   have h2:=(EI c (l.take k)).2.1
   rw [List.length_take] at h2
   rw [QL c l k (by omega)] at hw
   unfold wZ at hw
   split at hw
   ·rcases List.mem_append.1 hw with hw | hw
    ·exact ih (by omega) w hw
    ·rw [List.mem_singleton.1 hw]; omega
   ·exact ih (by omega) w hw
 have:=key l.length (Nat.le_refl _)
 rwa [List.take_length] at this
theorem Kv {c:UInt8} {l w:List UInt8} (h:w ∈ jK c l):w.length ≤ l.length:=by
 unfold jK at h
 rcases List.mem_append.1 h with h | h
 ·exact aEf c l w h
 ·rw [List.mem_singleton.1 h]; exact (EI c l).2.1
theorem Ku (c:UInt8) (l:List UInt8):1 ≤ (jK c l).length ∧ (jK c l).length ≤ l.length + 1:=by
 unfold jK
 have:=(EI c l).1
 simp
 omega
section
variable {α β:Type} {R:β → Prop}
theorem Ex.rC {l:List UInt8} {i:Int} {f:Int → Option β} (h0:0 ≤ i) (h1:i < (l.length:Int)) (hf:∀ v,0 ≤ v → v ≤ 255 → Ex (f v) R):Ex ((Fw.rC (st l) i).bind f) R:=by
 have h:=PD l i.toNat (by omega)
 rw [Int.toNat_of_nonneg h0] at h
 rw [h,Option.bind_some]
 have:=(l[i.toNat]'(by omega)).toNat_lt
 exact hf _ (by omega) (by omega)
theorem Ex.cat {a b:List UInt8} {f:ByteArray → Option β} (h:a.length + b.length ≤ 1000000) (hf:Ex (f (st (a ++ b))) R):Ex ((kG (st a) (st b)).bind f) R:=by
 rw [nO a b h]
 exact hf
theorem Ex.nN {l:List UInt8} {i j:Int} {f:ByteArray → Option β} (h0:0 ≤ i) (h1:i ≤ j) (h2:j ≤ (l.length:Int)) (hf:∀ q:List UInt8,q.length ≤ l.length → Ex (f (st q)) R):Ex ((Fw.nN (st l) i j).bind f) R:=by
 have h:=DZ l i.toNat j.toNat (by omega) (by omega)
 rw [Int.toNat_of_nonneg h0,Int.toNat_of_nonneg (by omega)] at h
 rw [h,Option.bind_some]
 exact hf _ (by simp; omega)
end
theorem u8d:∀ d:Nat,d ≤ 9 → IntKind.u8.wrap (d:Int) = (d:Int)
 | 0,_ => by decide
 | 1,_ => by decide
 | 2,_ => by decide
 | 3,_ => by decide
 | 4,_ => by decide
 | 5,_ => by decide
 | 6,_ => by decide
 | 7,_ => by decide
 | 8,_ => by decide
 | 9,_ => by decide
 | n + 10,h => by omega
theorem u8x {x:Int} (h0:48 ≤ x) (h1:x ≤ 57):IntKind.u8.wrap (x - 48) = x - 48:=by
 have:=u8d (x - 48).toNat (by omega)
 rwa [Int.toNat_of_nonneg (by omega)] at this
theorem OT (l:List UInt8) (hl:l.length ≤ 100000):Ex (zF (st l)) fun _ => True:=by
 unfold zF
 simp only [qG]
 refine Ex.bind (Q:=fun b => b = true → 0 < l.length) (Ex.bif (fun h => Ex.rC (by omega) (of_decide_eq_true h) fun v _ _ => Ex.ret fun _ => by have:=of_decide_eq_true h; omega) (fun _ => Ex.ret fun h => by cases h)) fun j3 h3 => ?_
 refine Ex.bind (Q:=fun j => (j = 0 ∨ j = 1) ∧ j ≤ (l.length:Int)) (Ex.bif (fun h => Ex.ret ⟨.inr rfl,by have:=h3 h; omega⟩) (fun _ => Ex.ret ⟨.inl rfl,by omega⟩)) fun j7 h7 => ?_
 obtain ⟨h7,h7l⟩:=h7
 rw [KE,Option.bind_some,fD (by omega) (by omega)]
 refine Ex.bif (fun _ => Ex.ret trivial) (fun hw => ?_)
 have hs:(l.length:Int) - j7 ≤ 9:=by
  simp only [Bool.not_eq_false',Bool.and_eq_true,decide_eq_true_eq] at hw
  omega
 refine Ex.bind (Q:=fun r => ∀ p,r = .inl p → 0 ≤ p.2 ∧ p.2 < 10000000000) ?_ fun r hr => ?_
 ·refine pO (fun k s => s.2 = j7 + (k:Int) ∧ 0 ≤ s.1 ∧ s.1 < 10 ^ k) _ ((l.length:Int) - j7).toNat (by omega) ⟨by simp,by simp,by simp⟩ (fun k s hk hI => ?_) (fun s hI => ?_)
  ·obtain ⟨n,i⟩:=s
   obtain ⟨hi,n0,n1⟩:=hI
   change i = _ at hi
   change 0 ≤ n at n0
   change n < _ at n1
   have hpk:(10:Int) ^ k ≤ 1000000000:=by
    have:(10:Nat) ^ k ≤ 10 ^ 9:=Nat.pow_le_pow_right (by omega) (by omega)
    have h2:((10 ^ k:Nat):Int) ≤ ((10 ^ 9:Nat):Int):=by omega
    simpa using h2
   have hps:(10:Int) ^ (k + 1) = 10 ^ k * 10:=Int.pow_succ ..
   have key:Ex (Ic (st l) j7 (n,i)) fun r => (∃ t,r = .inl t ∧ t.2 = j7 + ((k + 1:Nat):Int) ∧ 0 ≤ t.1 ∧ t.1 < 10 ^ (k + 1)) ∨ ∃ q,r = .inr q ∧ ∀ p,q = .inl p → 0 ≤ p.2 ∧ p.2 < 10000000000:=by
    unfold Ic
    simp only [qG]
    have h:=PD l i.toNat (by omega)
    rw [Int.toNat_of_nonneg (by omega)] at h
    have hlt:=(l[i.toNat]'(by omega)).toNat_lt
    rw [decide_eq_true (by omega),cond_true]
    generalize ((l[i.toNat]'(by omega)).toNat:Int) = x at h
    simp only [h,Option.bind_some]
    by_cases hx:48 ≤ x ∧ x ≤ 57
    ·rw [decide_eq_false (by omega),cond_false,Option.bind_some,decide_eq_false (by omega),cond_false,u8x hx.1 hx.2,fD (n:=x - 48) (by omega) (by omega),fD (n:=10 * n) (by omega) (by omega),fD (n:=10 * n + (x - 48)) (by omega) (by omega),fD (n:=i + 1) (by omega) (by omega)]
     refine Ex.ret (.inl ⟨_,rfl,?_,?_,?_⟩)
     ·simp only; omega
     ·simp only; omega
     ·simp only; rw [hps]; omega
    ·have:(bif decide (x < 48) then some true else some (decide (57 < x)):Option Bool) = some true:=by
      by_cases h1:x < 48
      ·rw [decide_eq_true h1]; rfl
      ·rw [decide_eq_false h1,decide_eq_true (by omega)]; rfl
     rw [this]
     exact Ex.ret (.inr ⟨_,rfl,fun p hp => by cases hp⟩)
   obtain ⟨r,e,⟨t,rfl,ht⟩ | ⟨q,rfl,hq⟩⟩:=key
   ·exact .inl ⟨t,e,ht⟩
   ·exact .inr ⟨q,e,hq⟩
  ·obtain ⟨n,i⟩:=s
   obtain ⟨hi,n0,n1⟩:=hI
   change i = _ at hi
   change 0 ≤ n at n0
   change n < _ at n1
   have hpk:(10:Int) ^ ((l.length:Int) - j7).toNat ≤ 1000000000:=by
    have:(10:Nat) ^ ((l.length:Int) - j7).toNat ≤ 10 ^ 9:=Nat.pow_le_pow_right (by omega) (by omega)
    have h2:((10 ^ ((l.length:Int) - j7).toNat:Nat):Int) ≤ ((10 ^ 9:Nat):Int):=by omega
    simpa using h2
   refine ⟨.inl (j7,n),?_,fun p hp => ?_⟩
   ·unfold Ic
    rw [decide_eq_false (by rw [qG]; simp only; omega)]
    rfl
   ·injection hp with hp
    subst hp
    simp only
    omega
 ·cases r with
  | inr q => exact Ex.ret trivial
  | inl p =>
   obtain ⟨p0,p1⟩:=hr p rfl
   show Ex ((_:Option Int).bind _) _
   refine Ex.bind (Q:=fun j => j.natAbs < 10000000000) (Ex.bif (fun _ => Ex.ret (by rw [fD (by omega) (by omega)]; omega)) (fun _ => Ex.ret (by omega))) fun j hj => ?_
   exact (aFF hj).bind fun s _ => Ex.bif (fun _ => Ex.ret trivial) (fun _ => Ex.ret trivial)
theorem aIw (l:List UInt8) (hl:l.length ≤ 100000):Ex (JI (st l)) fun _ => True:=by
 unfold JI
 simp only [qG]
 refine Ex.bind (Q:=fun r => ∃ c:Nat,r.2 = (c:Int) ∧ 0 ≤ r.1 ∧ r.1 < 10 ^ c ∧ c ≤ 11) ?_ fun r hr => ?_
 ·refine pO (fun k s => s.2.2 = (k:Int) ∧ ∃ c:Nat,s.2.1 = (c:Int) ∧ 0 ≤ s.1 ∧ s.1 < 10 ^ c ∧ c ≤ k) _ 11 (by omega) ⟨rfl,0,rfl,by simp,by simp,by omega⟩ (fun k s hk hI => ?_) (fun s hI => ?_)
  ·obtain ⟨n,c',i⟩:=s
   obtain ⟨hi,c,hc,n0,n1,ck⟩:=hI
   change i = _ at hi
   change c' = _ at hc
   change 0 ≤ n at n0
   change n < _ at n1
   subst hi hc
   have hpk:(10:Int) ^ c ≤ 100000000000:=by
    have:(10:Nat) ^ c ≤ 10 ^ 11:=Nat.pow_le_pow_right (by omega) (by omega)
    have h2:((10 ^ c:Nat):Int) ≤ ((10 ^ 11:Nat):Int):=by omega
    simpa using h2
   have hps:(10:Int) ^ (c + 1) = 10 ^ c * 10:=Int.pow_succ ..
   have key:Ex (JJ (st l) (n,(c:Int),(k:Int))) fun r => (∃ t,r = .inl t ∧ t.2.2 = ((k + 1:Nat):Int) ∧ ∃ c:Nat,t.2.1 = (c:Int) ∧ 0 ≤ t.1 ∧ t.1 < 10 ^ c ∧ c ≤ k + 1) ∨ ∃ q,r = .inr q ∧ ∃ c:Nat,q.2 = (c:Int) ∧ 0 ≤ q.1 ∧ q.1 < 10 ^ c ∧ c ≤ 11:=by
    unfold JJ
    simp only [qG]
    by_cases hkl:k < l.length
    ·rw [decide_eq_true (by omega),cond_true,Option.bind_some,decide_eq_true (by omega),cond_true]
     have h:=PD l k hkl
     have hlt:=(l[k]'hkl).toNat_lt
     generalize ((l[k]'hkl).toNat:Int) = x at h
     simp only [h,Option.bind_some,fP (show k ≤ 1099511627776 by omega)]
     by_cases hx:48 ≤ x ∧ x ≤ 57
     ·rw [decide_eq_true hx.1,cond_true,Option.bind_some,decide_eq_true hx.2,cond_true,Option.bind_some,u8x hx.1 hx.2,fD (n:=x - 48) (by omega) (by omega),fD (n:=n * 10) (by omega) (by omega),fD (n:=n * 10 + (x - 48)) (by omega) (by omega),fP (show c ≤ 1099511627776 by omega)]
      refine Ex.ret (.inl ⟨_,rfl,rfl,c + 1,rfl,?_,?_,by omega⟩)
      ·simp only; omega
      ·simp only; rw [hps]; omega
     ·have:(bif decide (48 ≤ x) then some (decide (x ≤ 57)) else some false:Option Bool) = some false:=by
       by_cases h1:48 ≤ x
       ·rw [decide_eq_true h1,decide_eq_false (by omega)]; rfl
       ·rw [decide_eq_false h1]; rfl
      rw [this]
      exact Ex.ret (.inl ⟨_,rfl,rfl,c,rfl,n0,n1,by omega⟩)
    ·rw [decide_eq_false (by omega)]
     exact Ex.ret (.inr ⟨_,rfl,c,rfl,n0,n1,by omega⟩)
   obtain ⟨r,e,⟨t,rfl,ht⟩ | ⟨q,rfl,hq⟩⟩:=key
   ·exact .inl ⟨t,e,ht⟩
   ·exact .inr ⟨q,e,hq⟩
  ·obtain ⟨n,c',i⟩:=s
   obtain ⟨hi,hc⟩:=hI
   change i = _ at hi
   refine ⟨(n,c'),?_,hc⟩
   unfold JJ
   have:(bif decide (i < (l.length:Int)) then some (decide (i < 11)) else some false:Option Bool) = some false:=by
    rw [decide_eq_false (show ¬ i < 11 by omega)]
    cases decide (i < (l.length:Int)) <;> rfl
   simp only [qG,this]
   rfl
 ·obtain ⟨c,hc,r0,r1,c11⟩:=hr
  have hpk:(10:Int) ^ c ≤ 100000000000:=by
   have:(10:Nat) ^ c ≤ 10 ^ 11:=Nat.pow_le_pow_right (by omega) (by omega)
   have h2:((10 ^ c:Nat):Int) ≤ ((10 ^ 11:Nat):Int):=by omega
   simpa using h2
  refine Ex.bind (Q:=fun _ => True) (Ex.bif (fun h => Ex.rC (by omega) (of_decide_eq_true h) fun v _ _ => Ex.ret trivial) (fun _ => Ex.ret trivial)) fun j _ => ?_
  refine Ex.bind (Q:=fun j => j.natAbs = r.1.natAbs) (Ex.bif (fun _ => Ex.ret (by rw [fD (by omega) (by omega)]; omega)) (fun _ => Ex.ret rfl)) fun n hn => ?_
  refine Ex.bind (Q:=fun _ => True) (Ex.bif (fun _ => Ex.ret trivial) (fun h9 => Ex.bif (fun _ => Ex.ret trivial) (fun _ => ?_))) fun b _ => Ex.bif (fun _ => Ex.ret trivial) (fun _ => Ex.ret trivial)
  have h9:=of_decide_eq_false h9
  have hp9:(10:Int) ^ c ≤ 1000000000:=by
   have:(10:Nat) ^ c ≤ 10 ^ 9:=Nat.pow_le_pow_right (by omega) (by omega)
   have h2:((10 ^ c:Nat):Int) ≤ ((10 ^ 9:Nat):Int):=by omega
   simpa using h2
  exact (aFH (n:=n) (by omega)).bind fun s _ => Ex.ret trivial
theorem OM (l:List UInt8) (hl:l.length ≤ 100000):Ex (wK (st l)) fun _ => True:=by
 unfold wK
 exact (aIw l hl).bind fun r _ => Ex.bif (fun _ => Ex.ret trivial) (fun _ => Ex.ret trivial)
end
theorem xX {α:Type} {R:α → Prop} {c:UInt8} {l:List UInt8} {i:Int} {f:ByteArray → Option α} (h0:0 ≤ i) (h1:i < ((jK c l).length:Int)) (hf:∀ w:List UInt8,w.length ≤ l.length → Ex (f (st w)) R):Ex ((idx ((jK c l).map st) i).bind f) R :=
 Ex.idx h0 (by simpa using h1) fun v hv => by
  obtain ⟨w,hw,rfl⟩:=List.mem_map.1 hv
  exact hf w (Kv hw)
theorem TV {α:Type} {l:List α} {i:Int} (h0:0 ≤ i) (h1:i ≤ (l.length:Int)):∃ v,slc l i (l.length:Int) = some v:=by
 unfold slc
 rw [if_pos (by omega)]
 exact ⟨_,rfl⟩
theorem aAO (c:UInt8) (l:List UInt8):∃ w,w.length ≤ l.length ∧ idx ((jK c l).map st) 0 = some (st w):=by
 have hc:=Ku c l
 cases h:jK c l with
 | nil => rw [h] at hc; simp at hc
 | cons a b => exact ⟨a,Kv (c:=c) (by rw [h]; exact List.mem_cons_self),rfl⟩
theorem aIs (l:List UInt8) (hl:l.length ≤ 100000):Ex (Ey (st l)) fun r => r.1.aA.length ≤ 200000:=by
 have hc:=Ku 32 l
 obtain ⟨w0,hw0,hi0⟩:=aAO 32 l
 unfold Ey
 have hcut:=Bj l hl 32
 rw [show ((UInt8.toNat 32:Nat):Int) = 32 from rfl] at hcut
 rw [hcut,Option.bind_some,hi0,Option.bind_some,Option.bind_some,qG,fD (by omega) (by omega)]
 refine Ex.nN (by omega) (by split <;> omega) (by split <;> omega) fun q hq => (OT q (by omega)).bind fun r5 _ => ?_
 obtain ⟨v6,h6⟩:=TV (l:=(jK 32 l).map st) (i:=1) (by omega) (by simp; omega)
 rw [h6,Option.bind_some]
 refine Ex.bind (Q:=fun r => (∀ p,r = .inl p → p.2.length ≤ 200000) ∧ ∀ p,r = .inr p → p.1.aA.length ≤ 200000) ?_ fun r hr => ?_
 ·refine pO (fun k s => s.1 = (k:Int) ∧ s.2.length ≤ k) _ ((((jK 32 l).map st).take ((jK 32 l).map st).length).drop (Int.toNat 1)).length (by simp; omega) ⟨rfl,by simp⟩ (fun k s hk hI => ?_) (fun s hI => ?_)
  ·obtain ⟨i,bs⟩:=s
   obtain ⟨hi,hb⟩:=hI
   change i = _ at hi
   change bs.length ≤ k at hb
   subst hi
   have hk2:k ≤ 100001:=by simp at hk; omega
   have key:Ex (Aj ((jK 32 l).map st) r5 ((k:Int),bs)) fun r => (∃ t,r = .inl t ∧ t.1 = ((k + 1:Nat):Int) ∧ t.2.length ≤ k + 1) ∨ ∃ q,r = .inr q ∧ (∀ p,q = .inl p → p.2.length ≤ 200000) ∧ ∀ p,q = .inr p → p.1.aA.length ≤ 200000:=by
    unfold Aj
    rw [decide_eq_true (by simp only; omega),cond_true]
    refine Ex.idx (by omega) (by simp only; omega) fun v hv => ?_
    obtain ⟨w,hw,rfl⟩:=List.mem_map.1 (List.mem_of_mem_take (List.mem_of_mem_drop hv))
    have hwl:=Kv hw
    have hc2:=Bj w (by omega) 45
    rw [show ((UInt8.toNat 45:Nat):Int) = 45 from rfl] at hc2
    rw [hc2,Option.bind_some]
    refine Ex.bind (Q:=fun b => b = false → (jK 45 w).length = 2) (Ex.bif (fun _ => Ex.ret fun h => by cases h) (fun h => Ex.ret fun _ => by simp at h; omega)) fun b hb2 => Ex.bif (fun _ => Ex.ret (.inr ⟨_,rfl,(fun p hp => by cases hp),(fun p hp => by injection hp with hp; subst hp; simp)⟩)) (fun hbf => ?_)
    have h2:=hb2 hbf
    refine xX (by omega) (by omega) fun wa ha => (OT wa (by omega)).bind fun eH _ => xX (by omega) (by omega) fun wb hbb => (OT wb (by omega)).bind fun qF _ => Ex.lim (by simp; omega) (Ex.ret (.inl ⟨_,rfl,?_,by simp; omega⟩))
    simp only
    rw [fP (by omega)]
   obtain ⟨r,e,⟨t,rfl,ht⟩ | ⟨q,rfl,hq⟩⟩:=key
   ·exact .inl ⟨t,e,ht⟩
   ·exact .inr ⟨q,e,hq⟩
  ·obtain ⟨i,bs⟩:=s
   obtain ⟨hi,hb⟩:=hI
   change i = _ at hi
   refine ⟨.inl (r5.1,bs),?_,fun p hp => ?_,fun p hp => by cases hp⟩
   ·unfold Aj
    rw [decide_eq_false (by simp only; omega)]
    rfl
   ·injection hp with hp
    subst hp
    have:bs.length ≤ _:=hb
    simp at this
    simp only
    omega
 ·cases r with
  | inr q => exact Ex.ret (hr.2 q rfl)
  | inl p =>
   have hp:=hr.1 p rfl
   show Ex ((_:Option Bool).bind _) _
   refine Ex.bind (Q:=fun _ => True) (Ex.bif (fun _ => Ex.ret trivial) (fun _ => ?_)) fun b _ => Ex.bif (fun _ => Ex.ret (by simp)) (fun _ => Ex.ret hp)
   rw [U7 _ (by show p.2.length ≤ _; omega)]
   exact Ex.ret trivial
theorem aIt (l:List UInt8) (hl:l.length ≤ 100000):Ex (FH (st l)) fun r => r.1.aA.length ≤ 200000:=by
 have hc:=Ku 32 l
 obtain ⟨w0,hw0,hi0⟩:=aAO 32 l
 unfold FH
 have hcut:=Bl l hl 32
 rw [show ((UInt8.toNat 32:Nat):Int) = 32 from rfl] at hcut
 rw [hcut,Option.bind_some,hi0,Option.bind_some,qG]
 refine Ex.bif (fun _ => Ex.ret (by simp)) (fun h2 => ?_)
 have h2:=of_decide_eq_false h2
 rw [Option.bind_some,Option.bind_some,qG,fD (by omega) (by omega)]
 refine Ex.nN (by omega) (by omega) (by omega) fun q hq => (OM q (by omega)).bind fun r7 _ => ?_
 refine Ex.bind (Q:=fun r => (∀ p,r = .inl p → p.1.length ≤ 200000) ∧ ∀ p,r = .inr p → p.1.aA.length ≤ 200000) ?_ fun r hr => ?_
 ·refine pO (fun k s => s.1 = ((k + 1:Nat):Int) ∧ s.2.length ≤ k) _ ((jK 32 l).length - 1) (by omega) ⟨rfl,by simp⟩ (fun k s hk hI => ?_) (fun s hI => ?_)
  ·obtain ⟨i,bs⟩:=s
   obtain ⟨hi,hb⟩:=hI
   change i = _ at hi
   change bs.length ≤ k at hb
   subst hi
   have key:Ex (Aw ((jK 32 l).map st) r7 (((k + 1:Nat):Int),bs)) fun r => (∃ t,r = .inl t ∧ t.1 = ((k + 1 + 1:Nat):Int) ∧ t.2.length ≤ k + 1) ∨ ∃ q,r = .inr q ∧ (∀ p,q = .inl p → p.1.length ≤ 200000) ∧ ∀ p,q = .inr p → p.1.aA.length ≤ 200000:=by
    unfold Aw
    rw [decide_eq_true (by simp; omega),cond_true]
    refine xX (by omega) (by simp only; omega) fun w hwl => ?_
    have hc2:=Bl w (by omega) 45
    rw [show ((UInt8.toNat 45:Nat):Int) = 45 from rfl] at hc2
    rw [hc2,Option.bind_some]
    refine Ex.bif (fun _ => Ex.ret (.inr ⟨_,rfl,(fun p hp => by cases hp),(fun p hp => by injection hp with hp; subst hp; simp)⟩)) (fun hbf => ?_)
    have h2:(jK 45 w).length = 2:=by simp at hbf; omega
    refine xX (by omega) (by omega) fun wa ha => (OM wa (by omega)).bind fun eH _ => xX (by omega) (by omega) fun wb hbb => (OM wb (by omega)).bind fun qF _ => Ex.lim (by simp; omega) (Ex.ret (.inl ⟨_,rfl,?_,by simp; omega⟩))
    simp only
    rw [fP (by omega)]
   obtain ⟨r,e,⟨t,rfl,ht⟩ | ⟨q,rfl,hq⟩⟩:=key
   ·exact .inl ⟨t,e,ht⟩
   ·exact .inr ⟨q,e,hq⟩
  ·obtain ⟨i,bs⟩:=s
   obtain ⟨hi,hb⟩:=hI
   change i = _ at hi
   change bs.length ≤ _ at hb
   refine ⟨.inl (bs,r7),?_,fun p hp => ?_,fun p hp => by cases hp⟩
   ·unfold Aw
    rw [decide_eq_false (by simp; omega)]
    rfl
   ·injection hp with hp
    subst hp
    simp only
    omega
 ·cases r with
  | inr q => exact Ex.ret (hr.2 q rfl)
  | inl p =>
   have hp:=hr.1 p rfl
   show Ex ((_:Option ByteArray).bind _) _
   rw [U8 _ (by show p.1.length ≤ _; omega),Option.bind_some]
   exact Ex.bif (fun _ => Ex.ret (by simp)) (fun _ => Ex.ret hp)
theorem aH1 (ws:List ByteArray) (h:ws.length ≤ 200000) (v:ByteArray):Ex (FB ws v) fun r => -1 ≤ r ∧ r < (ws.length:Int):=by
 unfold FB
 refine Ex.bind (Q:=fun r => ∀ p,r = .inr p → -1 ≤ p ∧ p < (ws.length:Int)) ?_ fun r hr => ?_
 ·refine pO (fun k s => s = (k:Int)) _ ws.length (by omega) rfl (fun k s hk hI => ?_) (fun s hI => ?_)
  ·subst hI
   unfold CZ
   rw [decide_eq_true (by omega),cond_true,oH hk,Option.bind_some]
   cases (v.toList == ws[k].toList) with
   | true => exact .inr ⟨_,rfl,fun p hp => by injection hp with hp; subst hp; omega⟩
   | false => exact .inl ⟨_,rfl,fP (by omega)⟩
  ·subst hI
   refine ⟨.inl (),?_,fun p hp => by cases hp⟩
   unfold CZ
   rw [decide_eq_false (by omega)]
   rfl
 ·cases r with
  | inl u => exact Ex.ret ⟨Int.le_refl _,by omega⟩
  | inr p => exact Ex.ret (hr p rfl)
structure Rd (l:List UInt8) (r:aW × Bool):Prop where
 t:r.2 = true → sO r.1 = l
 b:SM r.1.Graph.aA.length
 p:SM r.1.Places.length
theorem Zp {a b:List UInt8} (h:(!((st a).toList == (st b).toList)) = false):a = b:=by
 rw [Dc,Dc,Bool.not_eq_false'] at h
 exact beq_iff_eq.1 h
theorem aFP (ws:List (List UInt8)) (h:ws.length ≤ 301) (hw:∀ w ∈ ws,w.length ≤ 300):Ex (E5 (ws.map st) (st [32])) fun r => ∃ a:List UInt8,r = st a ∧ a.length ≤ 100000:=by
 unfold E5
 refine Ex.bind (Q:=fun r => ∃ a:List UInt8,r = st a ∧ a.length ≤ 100000) ?_ fun r hr => Ex.ret hr
 refine pO (fun k s => s.2 = (k:Int) ∧ ∃ a:List UInt8,s.1 = st a ∧ a.length ≤ 301 * k) _ ws.length (by omega) ⟨rfl,[],rfl,by simp⟩ (fun k s hk hI => ?_) (fun s hI => ?_)
 ·obtain ⟨t,i⟩:=s
  obtain ⟨hi,a,ha,hal⟩:=hI
  change i = _ at hi
  change t = _ at ha
  subst hi ha
  have key:Ex (Ak (ws.map st) (st [32]) (st a,(k:Int))) fun r => ∃ t,r = .inl t ∧ t.2 = ((k + 1:Nat):Int) ∧ ∃ a:List UInt8,t.1 = st a ∧ a.length ≤ 301 * (k + 1):=by
   unfold Ak
   rw [decide_eq_true (by simp; omega),cond_true]
   refine Ex.idx (by omega) (by simp; omega) fun v hv => ?_
   obtain ⟨w,hwm,rfl⟩:=List.mem_map.1 hv
   have hwl:=hw w hwm
   refine Ex.bind (Q:=fun r => ∃ a:List UInt8,r = st a ∧ a.length ≤ 301 * k + 1) (Ex.bif (fun _ => Ex.cat (by simp; omega) (Ex.ret ⟨_,rfl,by simp; omega⟩)) (fun _ => Ex.ret ⟨a,rfl,by omega⟩)) fun r hr => ?_
   obtain ⟨b,rfl,hb⟩:=hr
   refine Ex.cat (by omega) (Ex.ret ⟨_,rfl,?_,_,rfl,by simp; omega⟩)
   simp only
   rw [fP (by omega)]
  obtain ⟨r,e,t,rfl,ht⟩:=key
  exact .inl ⟨t,e,ht⟩
 ·obtain ⟨t,i⟩:=s
  obtain ⟨hi,a,ha,hal⟩:=hI
  change i = _ at hi
  change t = _ at ha
  subst hi ha
  refine ⟨st a,?_,a,rfl,by omega⟩
  unfold Ak
  rw [decide_eq_false (by simp)]
  rfl
theorem aIp (l:List UInt8) (hl:l.length ≤ 300):Ex (yJ (st l)) (Rd l):=by
 have hc:=Ku 32 l
 have none:Rd l ((aW.mk (bM.mk 0 ([]:List aV)) ([]:List bG)),false):=⟨(fun h => by cases h),Nat.zero_le _,Nat.zero_le _⟩
 have hcut:=Bj l (by omega) 32
 rw [show ((UInt8.toNat 32:Nat):Int) = 32 from rfl] at hcut
 unfold yJ
 rw [hcut,Option.bind_some]
 refine (aH1 _ (by simp; omega) _).bind fun r2 h2 => ?_
 have h2l:=h2.2
 rw [List.length_map] at h2l
 refine Ex.bif (fun _ => Ex.ret none) (fun hn => ?_)
 have hn:=of_decide_eq_false hn
 have hs0:∃ v,slc ((jK 32 l).map st) 0 r2 = some v:=by
  unfold slc
  rw [if_pos (by simp; omega)]
  exact ⟨_,rfl⟩
 obtain ⟨v4,h4⟩:=hs0
 rw [h4,Option.bind_some,List.drop_zero,← List.map_take,DL]
 refine (aFP _ (by simp; omega) (fun w hw => by have:=Kv (List.mem_of_mem_take hw); omega)).bind fun r5 h5 => ?_
 obtain ⟨a,rfl,ha⟩:=h5
 refine (aIs a ha).bind fun r6 h6 => ?_
 rw [fD (n:=r2 + 1) (by omega) (by omega)]
 obtain ⟨v7,h7⟩:=TV (l:=(jK 32 l).map st) (i:=r2 + 1) (by omega) (by simp; omega)
 rw [h7,Option.bind_some]
 refine Ex.bind (Q:=fun r => (∀ p,r = .inl p → SM p.2.1.length ∧ SM p.2.2.length) ∧ ∀ p,r = .inr p → Rd l p) ?_ fun r hr => ?_
 ·refine pO (fun k s => s.1 = (k:Int) ∧ s.2.length ≤ k) _ ((((jK 32 l).map st).take ((jK 32 l).map st).length).drop ((aB (r2 + 1)).toNat)).length (by simp; omega) ⟨rfl,by simp⟩ (fun k s hk hI => ?_) (fun s hI => ?_)
  ·obtain ⟨i,bs⟩:=s
   obtain ⟨hi,hb⟩:=hI
   change i = _ at hi
   change bs.length ≤ k at hb
   subst hi
   have hk2:k ≤ 400:=by simp at hk; omega
   have key:Ex (Ai ((jK 32 l).map st) r2 r6 ((k:Int),bs)) fun r => (∃ t,r = .inl t ∧ t.1 = ((k + 1:Nat):Int) ∧ t.2.length ≤ k + 1) ∨ ∃ q,r = .inr q ∧ (∀ p,q = .inl p → SM p.2.1.length ∧ SM p.2.2.length) ∧ ∀ p,q = .inr p → Rd l p:=by
    unfold Ai
    rw [decide_eq_true (by simp only; omega),cond_true]
    refine Ex.idx (by omega) (by simp only; omega) fun v hv => ?_
    obtain ⟨w,hw,rfl⟩:=List.mem_map.1 (List.mem_of_mem_take (List.mem_of_mem_drop hv))
    have hwl:=Kv hw
    have hc2:=Bj w (by omega) 44
    rw [show ((UInt8.toNat 44:Nat):Int) = 44 from rfl] at hc2
    rw [hc2,Option.bind_some]
    refine Ex.bif (fun _ => Ex.ret (.inr ⟨_,rfl,(fun p hp => by cases hp),(fun p hp => by injection hp with hp; subst hp; exact none)⟩)) (fun hbf => ?_)
    have h2:(jK 44 w).length = 2:=by simp at hbf; omega
    refine xX (by omega) (by omega) fun wa ha => (OT wa (by omega)).bind fun eH _ => xX (by omega) (by omega) fun wb hbb => (OT wb (by omega)).bind fun qF _ => Ex.lim (by simp; omega) (Ex.ret (.inl ⟨_,rfl,?_,by simp; omega⟩))
    simp only
    rw [fP (by omega)]
   obtain ⟨r,e,⟨t,rfl,ht⟩ | ⟨q,rfl,hq⟩⟩:=key
   ·exact .inl ⟨t,e,ht⟩
   ·exact .inr ⟨q,e,hq⟩
  ·obtain ⟨i,bs⟩:=s
   obtain ⟨hi,hb⟩:=hI
   change i = _ at hi
   refine ⟨.inl (r6.1.aF,r6.1.aA,bs),?_,(fun p hp => ?_),(fun p hp => by cases hp)⟩
   ·unfold Ai
    rw [decide_eq_false (by simp only; omega)]
    rfl
   ·injection hp with hp
    subst hp
    have:bs.length ≤ _:=hb
    simp at this
    exact ⟨by show r6.1.aA.length ≤ _; omega,by show bs.length ≤ _; omega⟩
 ·cases r with
  | inr q => exact Ex.ret (hr.2 q rfl)
  | inl p =>
   obtain ⟨hp1,hp2⟩:=hr.1 p rfl
   show Ex ((_:Option ByteArray).bind _) _
   rw [U5 _ hp1 hp2,Option.bind_some]
   exact Ex.bif (fun _ => Ex.ret none) (fun h => Ex.ret ⟨fun _ => Zp h,hp1,hp2⟩)
theorem aIq (l:List UInt8) (hl:l.length ≤ 300):Ex (Aq (st l)) (Rd l):=by
 have hc:=Ku 32 l
 have none:Rd l ((aW.mk (bM.mk 0 ([]:List aV)) ([]:List bG)),false):=⟨(fun h => by cases h),Nat.zero_le _,Nat.zero_le _⟩
 have hcut:=Bl l (by omega) 32
 rw [show ((UInt8.toNat 32:Nat):Int) = 32 from rfl] at hcut
 unfold Aq
 rw [hcut,Option.bind_some]
 refine Ex.bind (Q:=fun b => 0 ≤ b.1 ∧ b.1 ≤ ((jK 32 l).length:Int) ∧ b.2 = (jK 32 l).map st) ?_ fun b15 qf => ?_
 ·refine pO (fun k s => s = (k:Int)) _ (jK 32 l).length (by omega) rfl (fun k s hk hI => ?_) (fun s hI => ?_)
  ·subst hI
   unfold Ci
   rw [decide_eq_true (by simp; omega),cond_true,oH (by simp; omega),Option.bind_some,Option.bind_some]
   cases (!(((jK 32 l).map st)[k]'(by simp; omega)).toList == (ByteArray.mk #[97,116]).toList) with
   | true => exact .inl ⟨_,rfl,fP (by omega)⟩
   | false => exact .inr ⟨_,rfl,by simp only; omega,by simp only; omega,rfl⟩
  ·subst hI
   refine ⟨(((jK 32 l).length:Int),(jK 32 l).map st),?_,by simp only; omega,Int.le_refl _,rfl⟩
   unfold Ci
   rw [decide_eq_false (by simp)]
   rfl
 ·obtain ⟨at0,ws⟩:=b15
  obtain ⟨q0,q1,q2⟩:=qf
  change ws = _ at q2
  change 0 ≤ at0 at q0
  change at0 ≤ _ at q1
  subst q2
  refine Ex.bind (Q:=fun b => b = false → 0 < at0 ∧ at0 < ((jK 32 l).length:Int)) (Ex.bif (fun _ => Ex.ret fun h => by cases h) (fun h => Ex.ret fun h2 => by
   simp at h h2
   omega)) fun j23 h23 => Ex.bif (fun _ => Ex.ret none) (fun hj => ?_)
  obtain ⟨a0,a1⟩:=h23 hj
  refine xX (by omega) (by omega) fun w0 hw0 => ?_
  refine Ex.bind (Q:=fun b => (∃ a:List UInt8,b.2.1 = st a ∧ a.length ≤ 100000) ∧ b.1 = at0 ∧ b.2.2 = (jK 32 l).map st) ?_ fun jT h36 => ?_
  ·refine pO (fun k s => s.2 = ((k + 1:Nat):Int) ∧ ∃ a:List UInt8,s.1 = st a ∧ a.length ≤ 301 * (k + 1)) _ (at0.toNat - 1) (by omega) ⟨rfl,w0,rfl,by omega⟩ (fun k s hk hI => ?_) (fun s hI => ?_)
   ·obtain ⟨t,i⟩:=s
    obtain ⟨hi,a,ha,hal⟩:=hI
    change i = _ at hi
    change t = _ at ha
    subst hi ha
    have key:Ex (Ar (at0,(jK 32 l).map st) (st a,((k + 1:Nat):Int))) fun r => ∃ t,r = .inl t ∧ t.2 = ((k + 1 + 1:Nat):Int) ∧ ∃ a:List UInt8,t.1 = st a ∧ a.length ≤ 301 * (k + 1 + 1):=by
     unfold Ar
     rw [decide_eq_true (by simp only; omega),cond_true,DL]
     refine Ex.cat (by simp; omega) (xX (by omega) (by simp only; omega) fun w hw => Ex.cat (by simp; omega) (Ex.ret ⟨_,rfl,?_,_,rfl,by simp; omega⟩))
     simp only
     rw [fP (by omega)]
    obtain ⟨r,e,t,rfl,ht⟩:=key
    exact .inl ⟨t,e,ht⟩
   ·obtain ⟨t,i⟩:=s
    obtain ⟨hi,a,ha,hal⟩:=hI
    change i = _ at hi
    change t = _ at ha
    subst hi ha
    refine ⟨(at0,st a,(jK 32 l).map st),?_,⟨a,rfl,by omega⟩,rfl,rfl⟩
    unfold Ar
    rw [decide_eq_false (by simp only; omega)]
    rfl
  ·obtain ⟨D8,text,ws⟩:=jT
   obtain ⟨⟨a,ha,hal⟩,q3,q4⟩:=h36
   change text = _ at ha
   change D8 = _ at q3
   change ws = _ at q4
   subst ha q3 q4
   refine (aIt a hal).bind fun eH h41 => ?_
   simp only []
   rw [fD (n:=D8 + 1) (by omega) (by omega)]
   refine Ex.bind (Q:=fun r => (∀ p,r = .inl p → SM p.2.1.length ∧ SM p.2.2.1.length) ∧ ∀ p,r = .inr p → Rd l p) ?_ fun r hr => ?_
   ·refine pO (fun k s => s.1 = D8 + 1 + (k:Int) ∧ s.2.length ≤ k) _ ((jK 32 l).length - (D8.toNat + 1)) (by omega) ⟨by simp,by simp⟩ (fun k s hk hI => ?_) (fun s hI => ?_)
    ·obtain ⟨i,bs⟩:=s
     obtain ⟨hi,hb⟩:=hI
     change i = _ at hi
     change bs.length ≤ k at hb
     subst hi
     have key:Ex (Au (D8,st a,(jK 32 l).map st) eH (D8 + 1 + (k:Int),bs)) fun r => (∃ t,r = .inl t ∧ t.1 = D8 + 1 + ((k + 1:Nat):Int) ∧ t.2.length ≤ k + 1) ∨ ∃ q,r = .inr q ∧ (∀ p,q = .inl p → SM p.2.1.length ∧ SM p.2.2.1.length) ∧ ∀ p,q = .inr p → Rd l p:=by
      unfold Au
      rw [decide_eq_true (by simp; omega),cond_true]
      refine xX (by simp only; omega) (by simp only; omega) fun w hwl => ?_
      have hc2:=Bl w (by omega) 44
      rw [show ((UInt8.toNat 44:Nat):Int) = 44 from rfl] at hc2
      rw [hc2,Option.bind_some]
      refine Ex.bif (fun _ => Ex.ret (.inr ⟨_,rfl,(fun p hp => by cases hp),(fun p hp => by injection hp with hp; subst hp; exact none)⟩)) (fun hbf => ?_)
      have h2:(jK 44 w).length = 2:=by simp at hbf; omega
      refine xX (by omega) (by omega) fun wa ha => (OM wa (by omega)).bind fun eH _ => xX (by omega) (by omega) fun wb hbb => (OM wb (by omega)).bind fun qF _ => Ex.lim (by simp; omega) (Ex.ret (.inl ⟨_,rfl,?_,by simp; omega⟩))
      simp only
      rw [fD (by omega) (by omega)]
      omega
     obtain ⟨r,e,⟨t,rfl,ht⟩ | ⟨q,rfl,hq⟩⟩:=key
     ·exact .inl ⟨t,e,ht⟩
     ·exact .inr ⟨q,e,hq⟩
    ·obtain ⟨i,bs⟩:=s
     obtain ⟨hi,hb⟩:=hI
     change i = _ at hi
     change bs.length ≤ _ at hb
     refine ⟨.inl (eH.2,eH.1.aA,bs,eH.1.aF),?_,(fun p hp => ?_),(fun p hp => by cases hp)⟩
     ·unfold Au
      rw [decide_eq_false (by simp; omega)]
      rfl
     ·injection hp with hp
      subst hp
      exact ⟨by show eH.1.aA.length ≤ _; omega,by show bs.length ≤ _; omega⟩
   ·cases r with
    | inr q => exact Ex.ret (hr.2 q rfl)
    | inl p =>
     obtain ⟨hp1,hp2⟩:=hr.1 p rfl
     show Ex ((_:Option Bool).bind _) _
     refine Ex.bind (Q:=fun b => b = false → sO (aW.mk (bM.mk p.2.2.2 p.2.1) p.2.2.1) = l) (Ex.bif (fun _ => Ex.ret fun h => by cases h) (fun _ => ?_)) fun b hb => Ex.bif (fun _ => Ex.ret none) (fun h => Ex.ret ⟨fun _ => hb h,hp1,hp2⟩)
     rw [Qh _ hp1 hp2,Option.bind_some]
     exact Ex.ret fun h => Zp h
section
theorem aEe (c:UInt8) (l m:List UInt8):cgo c (l ++ m) = m.foldl (wZ c) (cgo c l):=by unfold cgo; rw [List.foldl_append]
theorem VD {c:UInt8}:∀ (w:List UInt8) (r:List (List UInt8) × List UInt8),(∀ b ∈ w,b ≠ c) → w.foldl (wZ c) r = (r.1,r.2 ++ w)
 | [],r,_ => by simp
 | b :: w,r,h => by
  rw [List.foldl_cons]
  have hb:=h b List.mem_cons_self
  rw [show wZ c r b = (r.1,r.2 ++ [b]) from by unfold wZ; rw [if_neg hb],VD w _ fun x hx => h x (List.mem_cons_of_mem _ hx)]
  simp
theorem ZY {c:UInt8} {w:List UInt8} (h:∀ b ∈ w,b ≠ c):jK c w = [w]:=by
 unfold jK cgo
 rw [VD w _ h]
 rfl
theorem QT {c:UInt8} {l w:List UInt8} (h:∀ b ∈ w,b ≠ c):jK c (l ++ c :: w) = jK c l ++ [w]:=by
 unfold jK
 rw [aEe,List.foldl_cons,show wZ c (cgo c l) c = ((cgo c l).1 ++ [(cgo c l).2],[]) from by unfold wZ; rw [if_pos rfl],VD w _ h]
 simp
theorem EK:∀ d:Nat,d ≤ 9 → dN d ≠ 32 ∧ dN d ≠ 45 ∧ dN d ≠ 44 ∧ dN d ≠ 116
 | 0,_ => by decide
 | 1,_ => by decide
 | 2,_ => by decide
 | 3,_ => by decide
 | 4,_ => by decide
 | 5,_ => by decide
 | 6,_ => by decide
 | 7,_ => by decide
 | 8,_ => by decide
 | 9,_ => by decide
 | n + 10,h => by omega
def wd (s:UInt8) (a b:Int):List UInt8:=[dN a.toNat,s,dN b.toNat]
def nG (g:bM):List (List UInt8):=g.aA.map fun x => wd 45 x.A x.B
def lH (f:aW):List (List UInt8):=f.Places.map fun x => wd 44 x.X x.Y
theorem QU {s:UInt8} {a b:Int} (hs:s = 45 ∨ s = 44) (ha:a.toNat ≤ 9) (hb:b.toNat ≤ 9):jK s (wd s a b) = [[dN a.toNat],[dN b.toNat]]:=by
 have h1:=EK _ ha
 have h2:=EK _ hb
 show jK s ([dN a.toNat] ++ s :: [dN b.toNat]) = _
 rw [QT (by intro x hx; rw [List.mem_singleton.1 hx]; rcases hs with rfl | rfl; exact h2.2.1; exact h2.2.2.1),ZY (by intro x hx; rw [List.mem_singleton.1 hx]; rcases hs with rfl | rfl; exact h1.2.1; exact h1.2.2.1)]
 rfl
section
variable {g:bM} (hv:vG g = true)
include hv
theorem UY {k:Nat} {x:aV} (hx:g.aA[k]? = some x):x.A.toNat ≤ 9 ∧ x.B.toNat ≤ 9 ∧ 0 ≤ x.A ∧ 0 ≤ x.B:=by
 have H:=yX hv
 have:=H.a0 hx
 have:=H.ab hx
 have:=H.bp hx
 have:=H.p8
 omega
theorem YN (k:Nat) (hk:k ≤ g.aA.length):jK 32 ([dN g.aF.toNat,58] ++ pieces (wB g) k) = [dN g.aF.toNat,58] :: (nG g).take k:=by
 have H:=yX hv
 have hp:=EK g.aF.toNat (by have:=H.p8; omega)
 induction k with
 | zero =>
  rw [show [dN g.aF.toNat,58] ++ pieces (wB g) 0 = [dN g.aF.toNat,58] from rfl]
  exact ZY (by intro x hx; simp at hx; rcases hx with rfl | rfl; exact hp.1; decide)
 | succ k ih =>
  have hx:=List.getElem?_eq_getElem (show k < g.aA.length by omega)
  obtain ⟨d1,d2,_,_⟩:=UY hv hx
  have h1:=EK _ d1
  have h2:=EK _ d2
  rw [show [dN g.aF.toNat,58] ++ pieces (wB g) (k + 1) = ([dN g.aF.toNat,58] ++ pieces (wB g) k) ++ 32 :: wd 45 g.aA[k].A g.aA[k].B from by
   show [dN g.aF.toNat,58] ++ (pieces (wB g) k ++ wB g k) = _
   unfold wB wd
   rw [hx]
   simp,QT (by intro x hx; simp [wd] at hx; rcases hx with rfl | rfl | rfl; exact h1.1; decide; exact h2.1),ih (by omega)]
  unfold nG
  rw [List.take_succ_eq_append_getElem (by simp; omega),List.getElem_map]
  simp
omit hv in
theorem aKz {k:Nat} (hk:k < g.aA.length):idx (((([dN g.aF.toNat,58] :: nG g).map st).take (([dN g.aF.toNat,58] :: nG g).map st).length).drop (Int.toNat 1)) (k:Int) = some (st (wd 45 g.aA[k].A g.aA[k].B)):=by
 apply nV
 rw [List.take_length]
 simp [nG,hk]
theorem aIu:Ey (st (fmtG g)) = some (g,true):=by
 have H:=yX hv
 have hl:=H.len
 have p8:=H.p8
 have p1:=H.p1
 have hlen:=LM g
 have hf:fmtG g = [dN g.aF.toNat,58] ++ pieces (wB g) g.aA.length:=by unfold fmtG; rw [hv]; rfl
 have hcut:=Bj (fmtG g) (by omega) 32
 rw [show ((UInt8.toNat 32:Nat):Int) = 32 from rfl,hf,YN hv _ (Nat.le_refl _),show (nG g).take g.aA.length = nG g from by rw [List.take_of_length_le (by simp [nG])],← hf] at hcut
 have hi0:idx (([dN g.aF.toNat,58] :: nG g).map st) 0 = some (st [dN g.aF.toNat,58]):=rfl
 have WA:nN (st [dN g.aF.toNat,58]) 0 (if 0 < (aB (((st [dN g.aF.toNat,58]).size:Int) - 1)) then (aB (((st [dN g.aF.toNat,58]).size:Int) - 1)) else 0) = some (st [dN g.aF.toNat]):=by
  have:=DZ [dN g.aF.toNat,58] 0 1 (by omega) (by simp)
  rw [qG,fD (by simp) (by simp)]
  exact this
 have hpd:=OQ g.aF.toNat (by omega)
 rw [Int.toNat_of_nonneg (by omega)] at hpd
 obtain ⟨v6,h6⟩:=TV (l:=([dN g.aF.toNat,58] :: nG g).map st) (i:=1) (by omega) (by simp; omega)
 unfold Ey
 rw [hcut,Option.bind_some,hi0,Option.bind_some,Option.bind_some,WA,Option.bind_some,hpd,Option.bind_some,h6,Option.bind_some]
 have e:bW (Aj (([dN g.aF.toNat,58] :: nG g).map st) (g.aF,true)) BIG (0,([]:List aV)) = some (.inl (g.aF,g.aA)):=by
  refine jl (fun (k:Nat) => ((k:Int),g.aA.take k)) g.aA.length (by omega) (by simp) (fun k hk => ?_) ?_
  ·have hx:=List.getElem?_eq_getElem hk
   obtain ⟨d1,d2,d3,d4⟩:=UY hv hx
   have c2:=Bj (wd 45 g.aA[k].A g.aA[k].B) (by simp [wd]) 45
   rw [show ((UInt8.toNat 45:Nat):Int) = 45 from rfl,QU (.inl rfl) d1 d2] at c2
   have pa:=OQ _ d1
   have pb:=OQ _ d2
   rw [Int.toNat_of_nonneg d3] at pa
   rw [Int.toNat_of_nonneg d4] at pb
   unfold Aj
   simp only [aKz hk,Option.bind_some,c2]
   rw [decide_eq_true (by simp [nG]; omega),cond_true]
   have VK:((((g.aA.take k).length:Int) == 24)) = false:=by simp; omega
   rw [show ((([[dN g.aA[k].A.toNat],[dN g.aA[k].B.toNat]].map st).length:Int) != 2) = false from rfl,cond_false,VK,Option.bind_some,cond_false,show idx ([[dN g.aA[k].A.toNat],[dN g.aA[k].B.toNat]].map st) 0 = some (st [dN g.aA[k].A.toNat]) from rfl,Option.bind_some,pa,Option.bind_some,show idx ([[dN g.aA[k].A.toNat],[dN g.aA[k].B.toNat]].map st) 1 = some (st [dN g.aA[k].B.toNat]) from rfl,Option.bind_some,pb,Option.bind_some,jy (by simp; omega),Option.bind_some,fP (show k ≤ 1099511627776 by omega),List.take_succ_eq_append_getElem hk]
  ·unfold Aj
   rw [decide_eq_false (by simp [nG]),cond_false,List.take_length]
 rw [e,Option.bind_some]
 show ((_:Option Bool).bind _) = _
 have hne:((st (fmtG g)).toList == ByteArray.empty.toList) = false:=by
  rw [mkE,Dc,Dc,hf]
  rfl
 rw [hne,cond_false,show bM.mk g.aF g.aA = g from rfl,U7 g H.sm,Option.bind_some,Option.bind_some,beq_self_eq_true]
 rfl
theorem aIv:FH (st (fmtG g)) = some (g,true):=by
 have H:=yX hv
 have hl:=H.len
 have p8:=H.p8
 have p1:=H.p1
 have hlen:=LM g
 have hf:fmtG g = [dN g.aF.toNat,58] ++ pieces (wB g) g.aA.length:=by unfold fmtG; rw [hv]; rfl
 have hcut:=Bl (fmtG g) (by omega) 32
 rw [show ((UInt8.toNat 32:Nat):Int) = 32 from rfl,hf,YN hv _ (Nat.le_refl _),show (nG g).take g.aA.length = nG g from by rw [List.take_of_length_le (by simp [nG])],← hf] at hcut
 have hi0:idx (([dN g.aF.toNat,58] :: nG g).map st) 0 = some (st [dN g.aF.toNat,58]):=rfl
 have WA:nN (st [dN g.aF.toNat,58]) 0 (aB (((st [dN g.aF.toNat,58]).size:Int) - 1)) = some (st [dN g.aF.toNat]):=by
  have:=DZ [dN g.aF.toNat,58] 0 1 (by omega) (by simp)
  rw [qG,fD (by simp) (by simp)]
  exact this
 have num:∀ d:Int,0 ≤ d → d.toNat ≤ 9 → wK (st [dN d.toNat]) = some d:=fun d h0 h9 => by
  have:=aBt d.toNat h9
  rw [Int.toNat_of_nonneg h0] at this
  unfold wK
  rw [this]
  rfl
 unfold FH
 rw [hcut,Option.bind_some,hi0,Option.bind_some,decide_eq_false (by rw [qG]; simp),cond_false,Option.bind_some,Option.bind_some,WA,Option.bind_some,num g.aF (by omega) (by omega),Option.bind_some]
 have e:bW (Aw (([dN g.aF.toNat,58] :: nG g).map st) g.aF) BIG (1,([]:List aV)) = some (.inl (g.aA,g.aF)):=by
  refine jl (fun (k:Nat) => (((k + 1:Nat):Int),g.aA.take k)) g.aA.length (by omega) (by simp) (fun k hk => ?_) ?_
  ·have hx:=List.getElem?_eq_getElem hk
   obtain ⟨d1,d2,d3,d4⟩:=UY hv hx
   have c2:=Bl (wd 45 g.aA[k].A g.aA[k].B) (by simp [wd]) 45
   rw [show ((UInt8.toNat 45:Nat):Int) = 45 from rfl,QU (.inl rfl) d1 d2] at c2
   have hw:idx (([dN g.aF.toNat,58] :: nG g).map st) ((k + 1:Nat):Int) = some (st (wd 45 g.aA[k].A g.aA[k].B)):=nV (by simp [nG,hk])
   unfold Aw
   simp only [hw,Option.bind_some,c2]
   rw [decide_eq_true (by simp [nG]; omega),cond_true]
   rw [show ((([[dN g.aA[k].A.toNat],[dN g.aA[k].B.toNat]].map st).length:Int) != 2) = false from rfl,cond_false,show idx ([[dN g.aA[k].A.toNat],[dN g.aA[k].B.toNat]].map st) 0 = some (st [dN g.aA[k].A.toNat]) from rfl,Option.bind_some,num _ d3 d1,Option.bind_some,show idx ([[dN g.aA[k].A.toNat],[dN g.aA[k].B.toNat]].map st) 1 = some (st [dN g.aA[k].B.toNat]) from rfl,Option.bind_some,num _ d4 d2,Option.bind_some,jy (by simp; omega),Option.bind_some,fP (show k + 1 ≤ 1099511627776 by omega),List.take_succ_eq_append_getElem hk]
  ·unfold Aw
   rw [decide_eq_false (by simp [nG]),cond_false,List.take_length]
 rw [e,Option.bind_some]
 show ((_:Option ByteArray).bind _) = _
 rw [show bM.mk g.aF g.aA = g from rfl,U8 g H.sm,Option.bind_some,beq_self_eq_true]
 rfl
end
end
section
def ig (g:bM):List (List UInt8):=[dN g.aF.toNat,58] :: nG g
theorem EQ (g:bM):(ig g).length = g.aA.length + 1:=by simp [ig,nG]
theorem aAF {g:bM} (hv:vG g = true):∀ w ∈ ig g,w ≠ [97,116]:=fun w hw => by
 have H:=yX hv
 unfold ig at hw
 rcases List.mem_cons.1 hw with rfl | hw
 ·intro h
  injection h with _ h
  injection h with h _
  exact absurd h (by decide)
 ·obtain ⟨x,_,rfl⟩:=List.mem_map.1 hw
  intro h
  have:=congrArg List.length h
  simp [wd] at this
section
variable {f:aW} (hv:vF f = true)
include hv
theorem PS:vG f.Graph = true:=by
 unfold vF at hv
 simp only [Bool.and_eq_true] at hv
 exact hv.1.1.1.1.1
theorem Qi:sO f = fmtG f.Graph ++ [32,97,116] ++ pieces (wP f) f.Places.length:=by unfold sO; rw [hv]; rfl
theorem U9:fmtG f.Graph = [dN f.Graph.aF.toNat,58] ++ pieces (wB f.Graph) f.Graph.aA.length:=by unfold fmtG; rw [PS hv]; rfl
theorem XQ {k:Nat} {x:bG} (hx:f.Places[k]? = some x):x.X.toNat ≤ 9 ∧ x.Y.toNat ≤ 9 ∧ 0 ≤ x.X ∧ 0 ≤ x.Y:=by
 have:=(lY hv).grid hx
 omega
theorem aDU (k:Nat) (hk:k ≤ f.Places.length):jK 32 (fmtG f.Graph ++ [32,97,116] ++ pieces (wP f) k) = ig f.Graph ++ [97,116] :: (lH f).take k:=by
 induction k with
 | zero =>
  rw [show fmtG f.Graph ++ [32,97,116] ++ pieces (wP f) 0 = fmtG f.Graph ++ 32 :: [97,116] from by simp [pieces],QT (by decide),U9 hv,YN (PS hv) _ (Nat.le_refl _),show (nG f.Graph).take f.Graph.aA.length = nG f.Graph from by rw [List.take_of_length_le (by simp [nG])]]
  rfl
 | succ k ih =>
  have hx:=List.getElem?_eq_getElem (show k < f.Places.length by omega)
  obtain ⟨d1,d2,_,_⟩:=XQ hv hx
  have h1:=EK _ d1
  have h2:=EK _ d2
  rw [show fmtG f.Graph ++ [32,97,116] ++ pieces (wP f) (k + 1) = (fmtG f.Graph ++ [32,97,116] ++ pieces (wP f) k) ++ 32 :: wd 44 f.Places[k].X f.Places[k].Y from by
   show fmtG f.Graph ++ [32,97,116] ++ (pieces (wP f) k ++ wP f k) = _
   unfold wP wd
   rw [hx]
   simp,QT (by intro x hx; simp [wd] at hx; rcases hx with rfl | rfl | rfl; exact h1.1; decide; exact h2.1),ih (by omega)]
  unfold lH
  rw [List.take_succ_eq_append_getElem (show k < (f.Places.map fun x => wd 44 x.X x.Y).length by simp; omega),List.getElem_map]
  simp
end
theorem aH0 (gw pw:List (List UInt8)) (h:∀ w ∈ gw,w ≠ [97,116]) (hl:gw.length ≤ 1000):FB ((gw ++ [97,116] :: pw).map st) (st [97,116]) = some (gw.length:Int):=by
 have e:bW (CZ ((gw ++ [97,116] :: pw).map st) (st [97,116])) BIG 0 = some (.inr (gw.length:Int)):=by
  refine jl (fun (k:Nat) => (k:Int)) gw.length (by omega) rfl (fun k hk => ?_) ?_
  ·have hi:idx ((gw ++ [97,116] :: pw).map st) (k:Int) = some (st gw[k]):=nV (by rw [List.getElem?_map,List.getElem?_append_left hk,List.getElem?_eq_getElem hk]; rfl)
   unfold CZ
   rw [decide_eq_true (by simp; omega),cond_true,hi,Option.bind_some,Dc,Dc,beq_eq_false_iff_ne.2 (fun e => h _ (List.getElem_mem hk) e.symm),cond_false,fP (by omega)]
  ·have hi:idx ((gw ++ [97,116] :: pw).map st) (gw.length:Int) = some (st [97,116]):=nV (by rw [List.getElem?_map,List.getElem?_append_right (Nat.le_refl _),Nat.sub_self]; rfl)
   unfold CZ
   rw [decide_eq_true (by simp; omega),cond_true,hi,Option.bind_some,beq_self_eq_true]
   rfl
 unfold FB
 rw [e]
 rfl
section
variable {f:aW} (hv:vF f = true)
include hv
theorem aFO:E5 ((ig f.Graph).map st) (st [32]) = some (st (fmtG f.Graph)):=by
 have H:=(lY hv).g
 have hl:=H.len
 have e:bW (Ak ((ig f.Graph).map st) (st [32])) BIG (ByteArray.empty,0) = some (st (fmtG f.Graph)):=by
  refine jl (fun (k:Nat) => (st (if k = 0 then [] else [dN f.Graph.aF.toNat,58] ++ pieces (wB f.Graph) (k - 1)),(k:Int))) (ig f.Graph).length (by rw [EQ]; omega) rfl (fun k hk => ?_) ?_
  ·rw [EQ] at hk
   unfold Ak
   rw [decide_eq_true (by simp [EQ]; omega),cond_true]
   cases k with
   | zero =>
    rw [show idx ((ig f.Graph).map st) ((0:Nat):Int) = some (st [dN f.Graph.aF.toNat,58]) from rfl,Option.bind_some]
    rfl
   | succ k =>
    have hx:=List.getElem?_eq_getElem (show k < f.Graph.aA.length by omega)
    have hp:=pieces_len (f:=wB f.Graph) (c:=4) k (fun k _ => PW f.Graph k)
    have hi:idx ((ig f.Graph).map st) ((k + 1:Nat):Int) = some (st (wd 45 f.Graph.aA[k].A f.Graph.aA[k].B)):=nV (by simp [ig,nG,show k < f.Graph.aA.length from by omega])
    rw [hi,Option.bind_some,if_neg (by omega),Nat.add_sub_cancel,decide_eq_true (show (0:Int) < ((k + 1:Nat):Int) by omega),cond_true,nO _ _ (by simp; omega),Option.bind_some,Option.bind_some,nO _ _ (by simp [wd]; omega),Option.bind_some,fP (by omega),if_neg (by omega)]
    congr 4
    show _ = [dN f.Graph.aF.toNat,58] ++ pieces (wB f.Graph) (k + 1)
    show _ = [dN f.Graph.aF.toNat,58] ++ (pieces (wB f.Graph) k ++ wB f.Graph k)
    unfold wB
    rw [hx]
    simp [wd]
  ·unfold Ak
   rw [decide_eq_false (by simp),cond_false,if_neg (by rw [EQ]; omega),EQ,Nat.add_sub_cancel,← U9 hv]
 unfold E5
 rw [e]
 rfl
theorem aBs:yJ (st (sO f)) = some (f,true):=by
 have H:=lY hv
 have hl:=H.len
 have p6:=H.p6
 have hpl:=H.oO
 have hlen:=U6 f
 have hcut:=Bj (sO f) (by omega) 32
 rw [show ((UInt8.toNat 32:Nat):Int) = 32 from rfl,Qi hv,aDU hv _ (Nat.le_refl _),show (lH f).take f.Places.length = lH f from by rw [List.take_of_length_le (by simp [lH])],← Qi hv] at hcut
 have hgl:=EQ f.Graph
 have hidx:=aH0 (ig f.Graph) (lH f) (aAF (PS hv)) (by omega)
 unfold yJ
 rw [hcut,Option.bind_some,show ByteArray.mk #[97,116] = st [97,116] from rfl,hidx,Option.bind_some,decide_eq_false (by omega),cond_false]
 have h4:∃ v,slc ((ig f.Graph ++ [97,116] :: lH f).map st) 0 ((ig f.Graph).length:Int) = some v:=by
  unfold slc
  rw [if_pos (by simp; omega)]
  exact ⟨_,rfl⟩
 obtain ⟨v4,h4⟩:=h4
 rw [h4,Option.bind_some,List.drop_zero,Int.toNat_natCast,← List.map_take,List.take_left,DL,aFO hv,Option.bind_some,aIu (PS hv),Option.bind_some,fD (n:=((ig f.Graph).length:Int) + 1) (by omega) (by omega)]
 obtain ⟨v7,h7⟩:=TV (l:=(ig f.Graph ++ [97,116] :: lH f).map st) (i:=((ig f.Graph).length:Int) + 1) (by omega) (by simp; omega)
 rw [h7,Option.bind_some]
 have hdrop:(((ig f.Graph ++ [97,116] :: lH f).map st).take ((ig f.Graph ++ [97,116] :: lH f).map st).length).drop (aB (((ig f.Graph).length:Int) + 1)).toNat = (lH f).map st:=by
  rw [List.take_length,fD (by omega) (by omega),show (((ig f.Graph).length:Int) + 1).toNat = (ig f.Graph).length + 1 by omega,← List.map_drop]
  congr 1
  rw [List.drop_append]
  simp
 have e:bW (Ai ((ig f.Graph ++ [97,116] :: lH f).map st) ((ig f.Graph).length:Int) (f.Graph,true)) BIG (0,([]:List bG)) = some (.inl (f.Graph.aF,f.Graph.aA,f.Places)):=by
  refine jl (fun (k:Nat) => ((k:Int),f.Places.take k)) f.Places.length (by omega) (by simp) (fun k hk => ?_) ?_
  ·have hx:=List.getElem?_eq_getElem hk
   obtain ⟨d1,d2,d3,d4⟩:=XQ hv hx
   have c2:=Bj (wd 44 f.Places[k].X f.Places[k].Y) (by simp [wd]) 44
   rw [show ((UInt8.toNat 44:Nat):Int) = 44 from rfl,QU (.inr rfl) d1 d2] at c2
   have pa:=OQ _ d1
   have pb:=OQ _ d2
   rw [Int.toNat_of_nonneg d3] at pa
   rw [Int.toNat_of_nonneg d4] at pb
   have hi:idx ((lH f).map st) (k:Int) = some (st (wd 44 f.Places[k].X f.Places[k].Y)):=nV (by simp [lH,hk])
   unfold Ai
   simp only [hdrop,hi,Option.bind_some,c2]
   rw [decide_eq_true (by simp [lH]; omega),cond_true]
   rw [show ((([[dN f.Places[k].X.toNat],[dN f.Places[k].Y.toNat]].map st).length:Int) != 2) = false from rfl,cond_false,show idx ([[dN f.Places[k].X.toNat],[dN f.Places[k].Y.toNat]].map st) 0 = some (st [dN f.Places[k].X.toNat]) from rfl,Option.bind_some,pa,Option.bind_some,show idx ([[dN f.Places[k].X.toNat],[dN f.Places[k].Y.toNat]].map st) 1 = some (st [dN f.Places[k].Y.toNat]) from rfl,Option.bind_some,pb,Option.bind_some,jy (by simp; omega),Option.bind_some,fP (show k ≤ 1099511627776 by omega),List.take_succ_eq_append_getElem hk]
  ·unfold Ai
   simp only [hdrop]
   rw [decide_eq_false (by simp [lH]),cond_false,List.take_length]
 rw [e,Option.bind_some]
 show ((_:Option ByteArray).bind _) = _
 rw [show aW.mk (bM.mk f.Graph.aF f.Graph.aA) f.Places = f from rfl,U5 f (by show _ ≤ _; omega) (by show _ ≤ _; omega),Option.bind_some,beq_self_eq_true]
 rfl
theorem aIr:Aq (st (sO f)) = some (f,true):=by
 have H:=lY hv
 have hl:=H.len
 have p6:=H.p6
 have hpl:=H.oO
 have hlen:=U6 f
 have hgv:=PS hv
 have hcut:=Bl (sO f) (by omega) 32
 rw [show ((UInt8.toNat 32:Nat):Int) = 32 from rfl,Qi hv,aDU hv _ (Nat.le_refl _),show (lH f).take f.Places.length = lH f from by rw [List.take_of_length_le (by simp [lH])],← Qi hv] at hcut
 have hgl:=EQ f.Graph
 have num:∀ d:Int,0 ≤ d → d.toNat ≤ 9 → wK (st [dN d.toNat]) = some d:=fun d h0 h9 => by
  have:=aBt d.toNat h9
  rw [Int.toNat_of_nonneg h0] at this
  unfold wK
  rw [this]
  rfl
 have e1:bW (Ci ((ig f.Graph ++ [97,116] :: lH f).map st)) BIG 0 = some (((ig f.Graph).length:Int),(ig f.Graph ++ [97,116] :: lH f).map st):=by
  refine jl (fun (k:Nat) => (k:Int)) (ig f.Graph).length (by omega) rfl (fun k hk => ?_) ?_
  ·have hi:idx ((ig f.Graph ++ [97,116] :: lH f).map st) (k:Int) = some (st (ig f.Graph)[k]):=nV (by rw [List.getElem?_map,List.getElem?_append_left hk,List.getElem?_eq_getElem hk]; rfl)
   unfold Ci
   rw [decide_eq_true (by simp; omega),cond_true,hi,Option.bind_some,Option.bind_some,show ByteArray.mk #[97,116] = st [97,116] from rfl,Dc,Dc,beq_eq_false_iff_ne.2 (aAF hgv _ (List.getElem_mem hk)),Bool.not_false,cond_true,fP (by omega)]
  ·have hi:idx ((ig f.Graph ++ [97,116] :: lH f).map st) ((ig f.Graph).length:Int) = some (st [97,116]):=nV (by rw [List.getElem?_map,List.getElem?_append_right (Nat.le_refl _),Nat.sub_self]; rfl)
   unfold Ci
   rw [decide_eq_true (by simp; omega),cond_true,hi,Option.bind_some,Option.bind_some,show ByteArray.mk #[97,116] = st [97,116] from rfl,beq_self_eq_true]
   rfl
 have e2:bW (Ar (((ig f.Graph).length:Int),(ig f.Graph ++ [97,116] :: lH f).map st)) BIG (st [dN f.Graph.aF.toNat,58],1) = some (((ig f.Graph).length:Int),st (fmtG f.Graph),(ig f.Graph ++ [97,116] :: lH f).map st):=by
  refine jl (fun (k:Nat) => (st ([dN f.Graph.aF.toNat,58] ++ pieces (wB f.Graph) k),((k + 1:Nat):Int))) f.Graph.aA.length (by omega) (by simp [pieces]) (fun k hk => ?_) ?_
  ·have hx:=List.getElem?_eq_getElem hk
   have hp:=pieces_len (f:=wB f.Graph) (c:=4) k (fun k _ => PW f.Graph k)
   have hi:idx ((ig f.Graph ++ [97,116] :: lH f).map st) ((k + 1:Nat):Int) = some (st (wd 45 f.Graph.aA[k].A f.Graph.aA[k].B)):=nV (by
    rw [List.getElem?_map,List.getElem?_append_left (by omega)]
    simp [ig,nG,hk])
   unfold Ar
   simp only [hi,DL]
   rw [decide_eq_true (by omega),cond_true,nO _ _ (by simp; omega),Option.bind_some,Option.bind_some,nO _ _ (by simp [wd]; omega),Option.bind_some,fP (by omega)]
   congr 4
   show _ = [dN f.Graph.aF.toNat,58] ++ (pieces (wB f.Graph) k ++ wB f.Graph k)
   unfold wB
   rw [hx]
   simp [wd]
  ·unfold Ar
   rw [decide_eq_false (by simp only; omega),cond_false,← U9 hv]
 have e3:bW (Au (((ig f.Graph).length:Int),st (fmtG f.Graph),(ig f.Graph ++ [97,116] :: lH f).map st) (f.Graph,true)) BIG ((aB (((ig f.Graph).length:Int) + 1)),([]:List bG)) = some (.inl (true,f.Graph.aA,f.Places,f.Graph.aF)):=by
  refine jl (fun (k:Nat) => ((((ig f.Graph).length + 1 + k:Nat):Int),f.Places.take k)) f.Places.length (by omega) (by rw [fD (by omega) (by omega)]; simp) (fun k hk => ?_) ?_
  ·have hx:=List.getElem?_eq_getElem hk
   obtain ⟨d1,d2,d3,d4⟩:=XQ hv hx
   have c2:=Bl (wd 44 f.Places[k].X f.Places[k].Y) (by simp [wd]) 44
   rw [show ((UInt8.toNat 44:Nat):Int) = 44 from rfl,QU (.inr rfl) d1 d2] at c2
   have hi:idx ((ig f.Graph ++ [97,116] :: lH f).map st) (((ig f.Graph).length + 1 + k:Nat):Int) = some (st (wd 44 f.Places[k].X f.Places[k].Y)):=nV (by
    rw [List.getElem?_map,List.getElem?_append_right (by omega),show (ig f.Graph).length + 1 + k - (ig f.Graph).length = k + 1 by omega]
    simp [lH,hk])
   unfold Au
   simp only [hi,Option.bind_some,c2]
   rw [decide_eq_true (by simp [lH]; omega),cond_true]
   rw [show ((([[dN f.Places[k].X.toNat],[dN f.Places[k].Y.toNat]].map st).length:Int) != 2) = false from rfl,cond_false,show idx ([[dN f.Places[k].X.toNat],[dN f.Places[k].Y.toNat]].map st) 0 = some (st [dN f.Places[k].X.toNat]) from rfl,Option.bind_some,num _ d3 d1,Option.bind_some,show idx ([[dN f.Places[k].X.toNat],[dN f.Places[k].Y.toNat]].map st) 1 = some (st [dN f.Places[k].Y.toNat]) from rfl,Option.bind_some,num _ d4 d2,Option.bind_some,jy (by simp; omega),Option.bind_some,fP (by omega),List.take_succ_eq_append_getElem hk]
   rfl
  ·unfold Au
   rw [decide_eq_false (by simp [lH]; omega),cond_false,List.take_length]
 unfold Aq
 rw [hcut,Option.bind_some,e1,Option.bind_some,show (((((ig f.Graph).length:Int),(ig f.Graph ++ [97,116] :: lH f).map st):Int × List ByteArray).1 == 0) = false from beq_eq_false_iff_ne.2 (show ((ig f.Graph).length:Int) ≠ 0 by omega),cond_false]
 simp only [Option.bind_some]
 rw [show ((((ig f.Graph).length:Int)) == ((((ig f.Graph ++ [97,116] :: lH f).map st).length:Int))) = false from beq_eq_false_iff_ne.2 (by rw [List.length_map,List.length_append,List.length_cons]; omega),cond_false,show idx ((ig f.Graph ++ [97,116] :: lH f).map st) 0 = some (st [dN f.Graph.aF.toNat,58]) from rfl,Option.bind_some,e2,Option.bind_some,aIv hgv,Option.bind_some,e3,Option.bind_some]
 show ((_:Option Bool).bind _) = _
 rw [show aW.mk (bM.mk f.Graph.aF f.Graph.aA) f.Places = f from rfl,Qh f (by show _ ≤ _; omega) (by show _ ≤ _; omega)]
 rw [Bool.not_true,cond_false,Option.bind_some,Option.bind_some,beq_self_eq_true]
 rfl
end
theorem aDu (l:List UInt8) (hl:l.length ≤ 300):∃ x y,yJ (st l) = some x ∧ Aq (st l) = some y ∧ x.2 = y.2:=by
 obtain ⟨x,e1,h1⟩:=aIp l hl
 obtain ⟨y,e2,h2⟩:=aIq l hl
 refine ⟨x,y,e1,e2,?_⟩
 have ne:∀ z:aW × Bool,sO z.1 = l → vF z.1 = false → l = []:=fun z h hf => by
  rw [← h]
  unfold sO
  rw [hf]
  rfl
 have n1:yJ (st []) = some ((aW.mk (bM.mk 0 ([]:List aV)) ([]:List bG)),false):=by kernel_rfl
 have n2:Aq (st []) = some ((aW.mk (bM.mk 0 ([]:List aV)) ([]:List bG)),false):=by kernel_rfl
 cases hx:x.2 with
 | true =>
  cases hv:vF x.1 with
  | true =>
   have:=aIr hv
   rw [h1.t hx,e2] at this
   injection this with this
   rw [this]
  | false =>
   have h0:=ne x (h1.t hx) hv
   rw [h0,n1] at e1
   injection e1 with e1
   rw [← e1] at hx
   cases hx
 | false =>
  cases hy:y.2 with
  | false => rfl
  | true =>
   cases hv:vF y.1 with
   | true =>
    have:=aBs hv
    rw [h2.t hy,e1] at this
    injection this with this
    rw [this] at hx
    cases hx
   | false =>
    have h0:=ne y (h2.t hy) hv
    rw [h0,n2] at e2
    injection e2 with e2
    rw [← e2] at hy
    cases hy
end
section
theorem set_mid {α:Type} {A L:List α} {k:Nat} {y:α} (hA:A.length = k) (hk:k < L.length):(A ++ L.drop k).set k y = (A ++ [y]) ++ L.drop (k + 1):=by
 rw [List.set_append_right _ _ (by omega),hA,Nat.sub_self,List.drop_eq_getElem_cons hk,List.set_cons_zero]
 simp
theorem Rz {α:Type} {A L:List α} {k:Nat} (hA:A.length = k) (hk:k < L.length):idx (A ++ L.drop k) (k:Int) = some L[k]:=by
 apply nV
 rw [List.getElem?_append_right (by omega),hA,Nat.sub_self,List.getElem?_drop,Nat.add_zero,List.getElem?_eq_getElem hk]
theorem aIa {T:bG → bG} (f:aW):(moved T f).Graph = f.Graph ∧ (moved T f).Places.length = f.Places.length:=by
 unfold moved
 cases vF f with
 | false => exact ⟨rfl,rfl⟩
 | true => exact ⟨rfl,by simp [iw]⟩
section
variable (f:aW) (h0:SM f.Graph.aA.length) (h1:SM f.Places.length)
include h0 h1
theorem aJ6:NM f = some (moved lN f):=by
 unfold NM Rk moved
 rw [Uo f h0 h1,Option.bind_some,vN f h0 h1,Option.bind_some]
 cases hv:vF f with
 | false => rfl
 | true =>
  have H:=lY hv
  have e:bW (Io f f) BIG (0,f.Places) = some (f.Graph.aA,f.Places.map lN,f.Graph.aF):=by
   refine jl (fun (k:Nat) => ((k:Int),(f.Places.map lN).take k ++ f.Places.drop k)) f.Places.length (by omega) (by simp) (fun k hk => ?_) (by simp [Io]; exact List.take_of_length_le (by simp))
   have hx:=List.getElem?_eq_getElem hk
   have hg:=H.grid hx
   have hA:((f.Places.map lN).take k).length = k:=by simp; omega
   unfold Io Ri
   simp only [oH hk,Option.bind_some,Rz hA hk,Int.toNat_natCast,set_mid hA hk,fD (n:=4 - f.Places[k].Y) (by omega) (by omega)]
   rw [decide_eq_true (by omega),cond_true,fP (by omega),List.take_succ_eq_append_getElem (show k < (f.Places.map lN).length by simp; exact hk),List.getElem_map]
   rfl
  rw [cond_true,e]
  rfl
theorem aBM:Ia f = some (moved kW f):=by
 unfold Ia Rn moved
 rw [Uo f h0 h1,Option.bind_some,vN f h0 h1,Option.bind_some]
 cases hv:vF f with
 | false => rfl
 | true =>
  have H:=lY hv
  have e:bW (Ip f f) BIG (0,f.Places) = some (f.Graph.aA,f.Places.map kW,f.Graph.aF):=by
   refine jl (fun (k:Nat) => ((k:Int),(f.Places.map kW).take k ++ f.Places.drop k)) f.Places.length (by omega) (by simp) (fun k hk => ?_) (by simp [Ip]; exact List.take_of_length_le (by simp))
   have hx:=List.getElem?_eq_getElem hk
   have hg:=H.grid hx
   have hA:((f.Places.map kW).take k).length = k:=by simp; omega
   unfold Ip Rh
   simp only [oH hk,Option.bind_some,Rz hA hk,Int.toNat_natCast,set_mid hA hk,fD (n:=4 - f.Places[k].X) (by omega) (by omega)]
   rw [decide_eq_true (by omega),cond_true,fP (by omega),List.take_succ_eq_append_getElem (show k < (f.Places.map kW).length by simp; exact hk),List.getElem_map]
   rfl
  rw [cond_true,e]
  rfl
theorem aCr:JO f = some (moved lN f):=by
 unfold JO moved
 rw [QO f h0 h1,Option.bind_some]
 cases hv:vF f with
 | false =>
  have e:bW (C9 f f) BIG (0,f.Places) = some (f.Graph.aA,f.Places,f.Graph.aF):=by
   refine jl (fun _ => ((0:Int),f.Places)) 0 (by omega) rfl (fun k hk => by omega) ?_
   unfold C9
   rw [rX f h0 h1,hv]
   cases decide ((0:Int) < (f.Places.length:Int)) <;> rfl
  rw [e]
  rfl
 | true =>
  have H:=lY hv
  have e:bW (C9 f f) BIG (0,f.Places) = some (f.Graph.aA,f.Places.map lN,f.Graph.aF):=by
   refine jl (fun (k:Nat) => ((k:Int),(f.Places.map lN).take k ++ f.Places.drop k)) f.Places.length (by omega) (by simp) (fun k hk => ?_) (by simp [C9]; exact List.take_of_length_le (by simp))
   have hx:=List.getElem?_eq_getElem hk
   have hg:=H.grid hx
   have hA:((f.Places.map lN).take k).length = k:=by simp; omega
   unfold C9
   simp only [rX f h0 h1,hv,oH hk,Option.bind_some,Rz hA hk,Int.toNat_natCast,set_mid hA hk,fD (n:=4 - f.Places[k].Y) (by omega) (by omega)]
   rw [decide_eq_true (by simp; omega),cond_true,Option.bind_some,cond_true,fP (by omega),List.take_succ_eq_append_getElem (show k < (f.Places.map lN).length by simp; exact hk),List.getElem_map]
   rfl
  rw [e]
  rfl
theorem aBN:JG f = some (moved kW f):=by
 unfold JG moved
 rw [QO f h0 h1,Option.bind_some]
 cases hv:vF f with
 | false =>
  have e:bW (Ce f f) BIG (0,f.Places) = some (f.Graph.aA,f.Places,f.Graph.aF):=by
   refine jl (fun _ => ((0:Int),f.Places)) 0 (by omega) rfl (fun k hk => by omega) ?_
   unfold Ce
   rw [rX f h0 h1,hv]
   cases decide ((0:Int) < (f.Places.length:Int)) <;> rfl
  rw [e]
  rfl
 | true =>
  have H:=lY hv
  have e:bW (Ce f f) BIG (0,f.Places) = some (f.Graph.aA,f.Places.map kW,f.Graph.aF):=by
   refine jl (fun (k:Nat) => ((k:Int),(f.Places.map kW).take k ++ f.Places.drop k)) f.Places.length (by omega) (by simp) (fun k hk => ?_) (by simp [Ce]; exact List.take_of_length_le (by simp))
   have hx:=List.getElem?_eq_getElem hk
   have hg:=H.grid hx
   have hA:((f.Places.map kW).take k).length = k:=by simp; omega
   unfold Ce
   simp only [rX f h0 h1,hv,oH hk,Option.bind_some,Rz hA hk,Int.toNat_natCast,set_mid hA hk,fD (n:=4 - f.Places[k].X) (by omega) (by omega)]
   rw [decide_eq_true (by simp; omega),cond_true,Option.bind_some,cond_true,fP (by omega),List.take_succ_eq_append_getElem (show k < (f.Places.map kW).length by simp; exact hk),List.getElem_map]
   rfl
  rw [e]
  rfl
theorem aDt (v:Int) (p:bG):∃ r,NJ f v p = some r ∧ Nq f v p = some r ∧ SM r.1.Graph.aA.length ∧ SM r.1.Places.length:=by
 unfold NJ Nq
 rw [Uo f h0 h1,QO f h0 h1,vN f h0 h1,rX f h0 h1]
 simp only [Option.bind_some]
 cases hv:vF f with
 | false => exact ⟨(f,false),rfl,rfl,h0,h1⟩
 | true =>
  have H:=lY hv
  have hpl:=H.oO
  rw [has_eq H.g v]
  simp only [Bool.not_true,cond_false,Option.bind_some]
  by_cases h:0 ≤ v ∧ v < f.Graph.aF
  ·have hi:=H.yO h.1 h.2
   rw [decide_eq_true h.1,decide_eq_true h.2,decide_eq_false (show ¬ v < 0 by omega),decide_eq_false (show ¬ (f.Places.length:Int) ≤ v by omega)]
   simp only [Bool.and_self,Bool.not_true,cond_false,Option.bind_some,hi]
   have hs:SM (aW.mk f.Graph (f.Places.set v.toNat p)).Places.length:=by show (f.Places.set _ _).length ≤ _; rw [List.length_set]; exact h1
   rw [vN ⟨f.Graph,f.Places.set v.toNat p⟩ h0 hs,rX ⟨f.Graph,f.Places.set v.toNat p⟩ h0 hs]
   simp only [Option.bind_some]
   cases vF ⟨f.Graph,f.Places.set v.toNat p⟩ with
   | false => exact ⟨(f,false),rfl,rfl,h0,h1⟩
   | true => exact ⟨(⟨f.Graph,f.Places.set v.toNat p⟩,true),rfl,rfl,h0,hs⟩
  ·have e1:(decide (0 ≤ v) && decide (v < f.Graph.aF)) = false:=by
    cases hx:decide (0 ≤ v) && decide (v < f.Graph.aF) with
    | false => rfl
    | true =>
     simp only [Bool.and_eq_true,decide_eq_true_eq] at hx
     exact absurd hx h
   have e2:(bif decide (v < 0) then some true else some (decide ((f.Places.length:Int) ≤ v)):Option Bool) = some true:=by
    by_cases hv0:v < 0
    ·rw [decide_eq_true hv0]; rfl
    ·rw [decide_eq_false hv0,decide_eq_true (by omega)]; rfl
   rw [e1,e2]
   exact ⟨(f,false),rfl,rfl,h0,h1⟩
end
def coll (a b c:bG):Bool:=mO a && (mO b && (mO c && ((b.X - a.X) * (c.Y - a.Y) == (c.X - a.X) * (b.Y - a.Y))))
theorem Jk {p:bG} (h:mO p = true):0 ≤ p.X ∧ p.X ≤ 4 ∧ 0 ≤ p.Y ∧ p.Y ≤ 4:=by
 simp only [mO,Bool.and_eq_true,decide_eq_true_eq] at h
 exact ⟨h.1.1,h.1.2,h.2.1,h.2.2⟩
theorem Tq {a b c d:Int} (ha:0 ≤ a ∧ a ≤ 4) (hb:0 ≤ b ∧ b ≤ 4) (hc:0 ≤ c ∧ c ≤ 4) (hd:0 ≤ d ∧ d ≤ 4):aB (aB (a - b) * aB (c - d)) = (a - b) * (c - d):=by
 rw [fD (n:=a - b) (by omega) (by omega),fD (n:=c - d) (by omega) (by omega)]
 have:=aIc (x:=a - b) (y:=c - d) (B:=4) (C:=4) (by omega) (by omega)
 exact fD (by omega) (by omega)
theorem Um (a b c:bG):xB a b c = some (coll a b c):=by
 unfold xB coll
 simp only [aAv,Option.bind_some]
 cases ha:mO a with
 | false => rfl
 | true =>
  cases hb:mO b with
  | false => rfl
  | true =>
   cases hc:mO c with
   | false => rfl
   | true =>
    have ga:=Jk ha
    have gb:=Jk hb
    have gc:=Jk hc
    simp only [cond_true,Option.bind_some,Bool.true_and]
    rw [Tq ⟨gb.1,gb.2.1⟩ ⟨ga.1,ga.2.1⟩ gc.2.2 ga.2.2,Tq ⟨gc.1,gc.2.1⟩ ⟨ga.1,ga.2.1⟩ gb.2.2 ga.2.2]
theorem aEg (a b c:bG):Iz a b c = some (coll a b c):=by
 unfold Iz coll
 simp only [aIl,Option.bind_some]
 cases ha:mO a with
 | false => rfl
 | true =>
  cases hb:mO b with
  | false => rfl
  | true =>
   cases hc:mO c with
   | false => rfl
   | true =>
    have ga:=Jk ha
    have gb:=Jk hb
    have gc:=Jk hc
    simp only [Bool.not_true,cond_false,Option.bind_some,Bool.true_and]
    rw [Tq ⟨gb.1,gb.2.1⟩ ⟨ga.1,ga.2.1⟩ gc.2.2 ga.2.2,Tq gb.2.2 ga.2.2 ⟨gc.1,gc.2.1⟩ ⟨ga.1,ga.2.1⟩,Int.mul_comm (b.Y - a.Y)]
theorem ZO (a b c:bG):coll a b c = coll c a b:=by
 unfold coll
 have e:((b.X - a.X) * (c.Y - a.Y) == (c.X - a.X) * (b.Y - a.Y)) = ((a.X - c.X) * (b.Y - c.Y) == (b.X - c.X) * (a.Y - c.Y)):=by
  have hd:(b.X - a.X) * (c.Y - a.Y) - (c.X - a.X) * (b.Y - a.Y) = (a.X - c.X) * (b.Y - c.Y) - (b.X - c.X) * (a.Y - c.Y):=by grind
  rw [Bool.eq_iff_iff,beq_iff_eq,beq_iff_eq]
  omega
 rw [e]
 cases mO a <;> cases mO b <;> cases mO c <;> rfl
end
theorem aJx {c:dJ} (h:CO c):Ex (Nz c 3) fun r => ∃ l:List UInt8,r.1 = st l ∧ l.length ≤ 10:=by
 unfold Nz
 refine (nJ h 4).bind fun r1 h1 => (nJ h1.1 _).bind fun r2 h2 => ?_
 have a0:=h2.2.1
 have a1:=h2.2.2 (by rw [fD (by omega) (by omega)]; omega)
 rw [fD (by omega) (by omega)] at a1
 refine Ex.bind (Q:=fun b => b.2.2.2.length ≤ 10) ?_ fun b hb => Ex.ret ⟨_,O8 _,by simpa using hb⟩
 refine pO (fun k s => s.1 = r2.1 - (k:Int) ∧ CO ⟨s.2.1,s.2.2.1,s.2.2.2.1⟩ ∧ s.2.2.2.2.length ≤ k) _ r2.1.toNat (by omega) ⟨by simp,h2.1,by simp⟩ (fun k s hk hI => ?_) (fun s hI => ?_)
 ·obtain ⟨n,b,i,hh,l⟩:=s
  obtain ⟨hn,hc,hl⟩:=hI
  change n = _ at hn
  change l.length ≤ k at hl
  subst hn
  have key:Ex (JS r1 (r2.1 - (k:Int),b,i,hh,l)) fun q => ∃ t,q = .inl t ∧ t.1 = r2.1 - ((k + 1:Nat):Int) ∧ CO ⟨t.2.1,t.2.2.1,t.2.2.2.1⟩ ∧ t.2.2.2.2.length ≤ k + 1:=by
   unfold JS
   rw [decide_eq_true (by simp only; omega),cond_true]
   refine (ED hc).bind fun pW VK => Ex.bind (Q:=fun _ => True) (Ex.bif (fun _ => Ex.ret trivial) (fun _ => Ex.ret trivial)) fun j _ => Ex.bind (Q:=fun _ => True) (Ex.bif (fun _ => Ex.ret trivial) (fun _ => Ex.ret trivial)) fun j2 _ => Ex.lim (by simp; omega) (Ex.ret ⟨_,rfl,?_,VK.1,by simp; omega⟩)
   simp only
   rw [fD (by omega) (by omega)]
   omega
  obtain ⟨q,e,t,rfl,ht⟩:=key
  exact .inl ⟨t,e,ht⟩
 ·obtain ⟨n,b,i,hh,l⟩:=s
  obtain ⟨hn,hc,hl⟩:=hI
  change n = _ at hn
  change l.length ≤ _ at hl
  refine ⟨(b,i,hh,l),?_,by simp only; omega⟩
  unfold JS
  rw [decide_eq_false (by simp only; omega)]
  rfl
theorem aJh {c:dJ} (h:CO c) {l:List UInt8} (hl:l.length ≤ 250):Ex (Ny c (st l)) fun r => ∃ q:List UInt8,r.1 = st q ∧ q.length ≤ 300:=by
 unfold Ny
 rw [qG]
 refine Ex.bif (fun _ => (aJx h).bind fun r hr => ?_) (fun hz => ?_)
 ·obtain ⟨q,e,hq⟩:=hr
  exact Ex.ret ⟨q,e,by omega⟩
 ·have hpos:0 < l.length:=by simp at hz; exact List.length_pos_iff.2 hz
  refine (nJ h _).bind fun r3 h3 => (nJ h3.1 4).bind fun r4 h4 => ?_
  have b0:=h3.2.1
  have b1:=h3.2.2 (by omega)
  rw [fD (n:=r3.1 + 1) (by omega) (by omega)]
  have aLH:∀ {R:ByteArray × dJ → Prop} {f:ByteArray → Option (ByteArray × dJ)},(∀ q:List UInt8,q.length ≤ 250 → Ex (f (st q)) R) → Ex ((nN (st l) 0 r3.1).bind f) R:=fun hf => Ex.nN (by omega) (by omega) (by omega) fun q hq => hf q (by omega)
  have Ur:∀ {R:ByteArray × dJ → Prop} {f:ByteArray → Option (ByteArray × dJ)} {j:Int},0 ≤ j → j ≤ (l.length:Int) → (∀ q:List UInt8,q.length ≤ l.length - j.toNat → Ex (f (st q)) R) → Ex ((nN (st l) j (l.length:Int)).bind f) R:=fun {R f j} hj0 hj1 hf => by
   have h:=DZ l j.toNat l.length (by omega) (Nat.le_refl _)
   rw [Int.toNat_of_nonneg hj0] at h
   rw [h,Option.bind_some]
   exact hf _ (by simp)
  have QS:∀ {R:ByteArray × dJ → Prop} {f:ByteArray → Option (ByteArray × dJ)},(∀ q:List UInt8,q.length ≤ r3.1.toNat → Ex (f (st q)) R) → Ex ((nN (st l) 0 r3.1).bind f) R:=fun {R f} hf => by
   have h:=DZ l 0 r3.1.toNat (by omega) (by omega)
   rw [Int.toNat_of_nonneg b0] at h
   rw [show nN (st l) 0 r3.1 = _ from h,Option.bind_some]
   exact hf _ (by simp; omega)
  refine Ex.bif (fun _ => QS fun q1 h1 => Ur (by omega) (by omega) fun q2 h2 => Ex.cat (by omega) (Ex.ret ⟨_,rfl,by simp; omega⟩)) (fun _ => ?_)
  refine Ex.bif (fun _ => QS fun q1 h1 => (ED h4.1).bind fun r11 h11 => ?_) (fun _ => ?_)
  ·rw [O8]
   exact Ex.cat (by simp; omega) (Ur (by omega) (by omega) fun q2 h2 => Ex.cat (by simp; omega) (Ex.ret ⟨_,rfl,by simp; omega⟩))
  ·refine Ex.bif (fun _ => QS fun q1 h1 => Ex.ret ⟨_,rfl,by omega⟩) (fun _ => QS fun q1 h1 => Ex.rC (by omega) (by omega) fun v _ _ => (nJ h4.1 255).bind fun pV h19 => ?_)
   rw [O8]
   exact Ex.cat (by simp; omega) (Ur (by omega) (by omega) fun q2 h2 => Ex.cat (by simp; omega) (Ex.ret ⟨_,rfl,by simp; omega⟩))
theorem aEx {code:List Int} (h:code.length ≤ 1048576):Ex (Nc code) fun s => ∃ l:List UInt8,s = st l ∧ l.length ≤ 300:=by
 unfold Nc
 refine (Jg h).bind fun c hc => (D6 hc).bind fun r2 h2 => ?_
 have hb:=h2.2.b
 have hp:=h2.2.p
 have hl:=U6 r2.1
 rw [Qh r2.1 (by show _ ≤ _; omega) (by show _ ≤ _; omega),Option.bind_some]
 refine (nJ h2.1 4).bind fun r4 h4 => Ex.bif (fun _ => (aJh h4.1 (by omega)).bind fun r6 h6 => Ex.ret h6) (fun _ => Ex.bif (fun _ => ?_) (fun _ => Ex.ret ⟨_,rfl,by omega⟩))
 unfold Ru
 refine Ex.bind (Q:=fun r => ∃ l:List UInt8,r.1 = st l ∧ l.length ≤ 300) ?_ fun r hr => Ex.ret hr
 refine (nJ h4.1 _).bind fun r hr => Ex.idx hr.2.1 (hr.2.2 (by simp)) fun v hv => Ex.ret ?_
 simp only [List.mem_cons,List.not_mem_nil,or_false] at hv
 rcases hv with rfl | rfl | rfl | rfl | rfl | rfl | rfl | rfl
 ·exact ⟨[],rfl,by simp⟩
 ·exact ⟨[97,116],rfl,by simp⟩
 ·exact ⟨[50,58,32,48,45,49,32,97,116,32,48,44,48,32,49,44,48],rfl,by simp⟩
 ·exact ⟨[50,58,32,48,45,49,32,97,116,32,48,44,48,32,48,44,48],rfl,by simp⟩
 ·exact ⟨[50,58,32,97,116,32,48,44,48,32,48,44,48],rfl,by simp⟩
 ·exact ⟨[50,58,32,48,45,49,32,97,116,32,48,44,48],rfl,by simp⟩
 ·exact ⟨[50,58,32,48,45,49,32,97,116,32,48,44,48,32,53,44,48],rfl,by simp⟩
 ·exact ⟨[49,58,32,97,116,32,48],rfl,by simp⟩
theorem FS.moved {T:bG → bG} {f:aW} (h:FS f):FS (moved T f):=by
 obtain ⟨h1,h2⟩:=aIa (T:=T) f
 exact ⟨by rw [h1]; exact h.b,by rw [h2]; exact h.p⟩
theorem FS.s0 {f:aW} (h:FS f):SM f.Graph.aA.length:=by have:=h.b; show _ ≤ _; omega
theorem FS.s1 {f:aW} (h:FS f):SM f.Places.length:=by have:=h.p; show _ ≤ _; omega
theorem aEy {code:List Int} (h:code.length ≤ 1048576):Ex (NZ code) fun r => FS r.1 ∧ FS r.2:=by
 unfold NZ
 refine (Jg h).bind fun c hc => (D6 hc).bind fun r2 h2 => (nJ h2.1 3).bind fun r3 h3 => Ex.bif (fun _ => ?_) (fun _ => Ex.bif (fun _ => ?_) (fun _ => (D6 h3.1).bind fun r8 h8 => Ex.ret ⟨h2.2,h8.2⟩))
 ·rw [aBN _ h2.2.s0 h2.2.s1]
  exact Ex.ret ⟨h2.2,h2.2.moved⟩
 ·rw [aCr _ h2.2.s0 h2.2.s1]
  exact Ex.ret ⟨h2.2,h2.2.moved⟩
theorem aEw {code:List Int} (h:code.length ≤ 1048576):Ex (Nb code) fun r => FS r.1:=by
 unfold Nb
 exact (Jg h).bind fun c hc => (D6 hc).bind fun r2 h2 => (nJ h2.1 8).bind fun r3 h3 => (nJ h3.1 6).bind fun r4 h4 => (nJ h4.1 6).bind fun r5 h5 => (nJ h5.1 2).bind fun r6 h6 => Ex.ret h2.2
theorem aEu {code:List Int} (h:code.length ≤ 1048576):Ex (NY code) fun _ => True:=by
 unfold NY
 refine (Jg h).bind fun c hc => (SG hc (g:=bM.mk 3 []) ⟨by simp,by simp,by simp,fun x hx => by cases hx⟩).bind fun r2 h2 => (XJ h2.1 10).bind fun r3 h3 => ?_
 have hl:r2.1.Places.length = 3:=by have:=h2.2.2.1; simp only at this; omega
 refine Ex.bind (Q:=fun j => j.length = 3) (Ex.bif (fun _ => (aBy h3 _ (by simp)).bind fun r9 h9 => Ex.idx (by omega) (by omega) fun v _ => Ex.ret (by rw [List.length_set]; exact hl)) (fun _ => Ex.ret hl)) fun j hj => Ex.idx (by omega) (by omega) fun a _ => Ex.idx (by omega) (by omega) fun b _ => Ex.idx (by omega) (by omega) fun c _ => Ex.ret trivial
theorem aEv {code:List Int} (h:code.length ≤ 1048576):Ex (Na code) fun r => FS r.1 ∧ FS r.2:=by
 unfold Na
 refine (Jg h).bind fun c hc => (D6 hc).bind fun r2 h2 => (XJ h2.1 2).bind fun r3 h3 => Ex.bif (fun _ => ?_) (fun _ => (D6 h3).bind fun r8 h8 => Ex.ret ⟨h2.2,h8.2⟩)
 rw [QO _ h2.2.s0 h2.2.s1]
 exact Ex.ret ⟨h2.2,h2.2⟩
theorem ZV (a b:aW) (a0:SM a.Graph.aA.length) (a1:SM a.Places.length) (b0:SM b.Graph.aA.length) (b1:SM b.Places.length):Es a b = some (Gv a b):=by
 unfold Es Gv
 simp only [vN a a0 a1,vN b b0 b1,XL a a0 a1,XL b b0 b1,aCN _ _ (aBq a),Option.bind_some]
 cases vF a
 ·rfl
 ·cases vF b
  ·rfl
  ·cases (a.Graph.aF == b.Graph.aF) <;> rfl
theorem aEj (a b:aW) (a0:SM a.Graph.aA.length) (a1:SM a.Places.length) (b0:SM b.Graph.aA.length) (b1:SM b.Places.length):JD a b = some (Gv a b):=by
 unfold JD Gv
 simp only [rX a a0 a1,rX b b0 b1,XM a a0 a1,XM b b0 b1,aA3 _ _ (aBq a),Option.bind_some]
 cases vF a
 ·rfl
 ·cases vF b
  ·rfl
  ·cases (a.Graph.aF == b.Graph.aF) <;> rfl
theorem aIK (code:List Int):Rq code = some true:=by
 unfold Rq Rt
 rw [Option.bind_some]
 by_cases hbig:(1048576:Int) < (code.length:Int)
 ·rw [decide_eq_true hbig]
  rfl
 ·rw [decide_eq_false hbig,cond_false]
  have hc:code.length ≤ 1048576:=by omega
  have draw:Ex (Nh code) FS:=by
   unfold Nh
   exact (Jg hc).bind fun c hc => (D6 hc).bind fun r hr => Ex.ret hr.2
  obtain ⟨f,hf,ES⟩:=draw
  obtain ⟨u,hu,l,rfl,hl⟩:=aEx hc
  obtain ⟨⟨a,b⟩,hab,ha,hb⟩:=aEy hc
  obtain ⟨⟨g,v,p⟩,hg,hgF⟩:=aEw hc
  obtain ⟨⟨c,d,e⟩,hcd,_⟩:=aEu hc
  obtain ⟨⟨i,j⟩,hij,hi,hj⟩:=aEv hc
  change FS a at ha
  change FS b at hb
  change FS g at hgF
  change FS i at hi
  change FS j at hj
  have f0:=ES.s0
  have f1:=ES.s1
  have t0:=(ES.moved (T:=lN)).s0
  have t1:=(ES.moved (T:=lN)).s1
  have m0:=(ES.moved (T:=kW)).s0
  have m1:=(ES.moved (T:=kW)).s1
  obtain ⟨x,y,hx,hy,hxy⟩:=aDu l hl
  obtain ⟨mv,mv1,mv2,mv3,mv4⟩:=aDt g hgF.s0 hgF.s1 v p
  have sq:(uz f).length ≤ 100000:=by have:=Xv f; have:=ES.b; omega
  have pq:(vO f).length ≤ 100000:=by
   unfold vO
   cases hv:vF f with
   | false => simp
   | true => have:=aBr (lY hv); show (pairs f).length ≤ _; omega
  have tail:(xB c d e).bind (fun r1 => (xB e c d).bind fun r2 => some (r1 == r2)) = some true:=by
   rw [Um,Um,Option.bind_some,Option.bind_some,ZO c d e,beq_self_eq_true]
  simp only [hf,Option.bind_some,aJ6 f f0 f1,aBM f f0 f1,aCr f f0 f1,aBN f f0 f1,G5 (moved lN f) (moved lN f) t0 t1,G5 (moved kW f) (moved kW f) m0 m1,(LG (moved lN f) (moved lN f)).2 rfl,(LG (moved kW f) (moved kW f)).2 rfl,Bool.not_true,cond_false,vN f f0 f1,rX f f0 f1,bne_self_eq_false,Xt f f0 f1,Xu f f0 f1,aCO (uz f) sq,XL f f0 f1,XM f f0 f1,aCO (vO f) pq,U5 f f0 f1,Qh f f0 f1,hu,hx,hy,hxy,hab,hg,hcd,hij,mv1,mv2,beq_self_eq_true,cond_true,Xk a b ha.s0 ha.s1 hb.s0 hb.s1,aJT a b ha.s0 ha.s1 hb.s0 hb.s1,ZV a b ha.s0 ha.s1 hb.s0 hb.s1,aEj a b ha.s0 ha.s1 hb.s0 hb.s1,G5 mv.1 mv.1 mv3 mv4,(LG mv.1 mv.1).2 rfl,Um,aEg,ZO c d e,aE6 i j hi.s0 hi.s1,G5 i j hi.s0 hi.s1,Xk f (moved lN f) f0 f1 t0 t1,Xk f (moved kW f) f0 f1 m0 m1,Z5 (moved lN f) t0 t1,Z5 (moved kW f) m0 m1,aFL f f0 f1,ZV f (moved kW f) f0 f1 m0 m1,aBM (moved kW f) m0 m1]
  cases hv:vF f with
  | false =>
   have n1:yJ (st []) = some ((aW.mk (bM.mk 0 ([]:List aV)) ([]:List bG)),false):=by kernel_rfl
   have hfm:sO f = []:=by unfold sO; rw [hv]; rfl
   rw [hfm,n1]
   rfl
  | true =>
   have et:moved lN f = iw lN f:=by unfold moved; rw [hv]; rfl
   have em:moved kW f = iw kW f:=by unfold moved; rw [hv]; rfl
   have em2:moved kW (iw kW f) = f:=by unfold moved; rw [yV Md hv,cond_true,aBP]
   rw [et,em,em2,aCP Me hv,aCP Md hv,aJ8 hv,aIZ hv,aEk Md hv,G5 f f f0 f1,(LG f f).2 rfl,aBs hv]
   simp only [Option.bind_some,Bool.not_true,cond_false,cond_true,bne_self_eq_false,beq_self_eq_true,G5 f f f0 f1,(LG f f).2 rfl]
end Go.Proofs.Ytdmlaldifbmkpaa
end
section
namespace Go.Fw
section
def vk (ops:Array Oper) (σ:Slots) (o:Oper):Option (Bool × Bool):=match o.guard with
 | none => none
 | some (j,want) => ((ops[j]?).bind (·.dst)).bind fun d => match lk σ d with
  | some (.s (.c (.pv (.sc (.bool c))))) => some (c,want)
  | some (.dW []) => some (!want,want)
  | _ => none
theorem gH {ops:Array Oper} {σ:Slots} {o:Oper} {c c0 want b:Bool} (hc:c = c0) (h:vk ops σ o = some (c,want)) (hb:b = (c0 == want)):gX ops σ o b:=by
 subst hc hb
 unfold vk at h
 unfold gX
 cases hg:o.guard with
 | none => rw [hg] at h; cases h
 | some p =>
  obtain ⟨j,wt⟩:=p
  rw [hg] at h
  dsimp only at h
  cases hd:(ops[j]?).bind (·.dst) with
  | none => rw [hd] at h; cases h
  | some d =>
   rw [hd] at h
   refine ⟨d,hd,?_⟩
   simp only [Option.bind_some] at h
   split at h
   ·rename_i cc hl; injection h with h; injection h with h1 h2; subst h1 h2; exact .inl ⟨cc,hl,rfl⟩
   ·rename_i hl; injection h with h; injection h with h1 h2; subst h1 h2; exact .inr ⟨hl,by cases wt <;> rfl⟩
   ·cases h
theorem gS {ops:Array Oper} {σ:Slots} {o:Oper} {c want b:Bool} (h:vk ops σ o = some (c,want)) (hb:b = (c == want)):gX ops σ o b:=gH rfl h hb
abbrev FT (P:Program) {ρ:Type} (M:Option ρ) (f:FuncId) (args:List SV) (us:Mem) (rs:ρ → List SV) (iZ:ρ → Mem) (X:List Nat):Prop:=∀ t,M = some t → Fn P f args us (vP (rs t)) (iZ t) (keys us) X
section
variable {P:Program}
theorem FT.of (pn:List Nat) {f:FuncId} {fn:Func} {c:Code} {args:List SV} {us:Mem} {X:List Nat} {N:Nat} {ρ:Type} {M:Option ρ} {rs:ρ → List SV} {iZ:ρ → Mem} (hf:P.funcs[f]? = some fn) (hN:fn.ntmps = N) (hb:fn.body = some c)
  (hs:args.length.ble N = true ∧ (fF (keys us) (pn ++ X) && mY X pn && fF pn (keys us)) = true)
  (h:∀ w0 U0 R0 g0,aC P ⟨w0,U0,R0,g0,N,pn⟩ [.code c] (zh 0 args) us M (lI P fn.results.toList us X rs iZ)):FT P M f args us rs iZ X :=
 Fn.of hf hb hN (Nat.le_of_ble_eq_true hs.1) hs.2 h
theorem FT.A8 (pn:List Nat) {f:FuncId} {fn:Func} {c:Code} {args:List SV} {us:Mem} {X:List Nat} {N:Nat} {ρ:Type} {M:Option ρ} {rs:ρ → List SV} {iZ:ρ → Mem} (hf:P.funcs[f]? = some fn) (hN:fn.ntmps = N) (hb:fn.body = some c)
  (hs:args.length.ble N = true ∧ (fF (keys us) (pn ++ X) && mY X pn && fF pn (keys us)) = true)
  (h:∀ w0 U0 R0 g0,(∀ b,U0 b → ∃ n ∈ keys us,(g0 n).has b) → aC P ⟨w0,U0,R0,g0,N,pn⟩ [.code c] (zh 0 args) us M (lI P fn.results.toList us X rs iZ)):FT P M f args us rs iZ X :=
 Fn.A8 hf hb hN (Nat.le_of_ble_eq_true hs.1) hs.2 h
variable {C:Ctx} {σ:Slots} {m:Mem} {is:List It} {τ υ:Type} {M:Option τ} {K:τ → Post} {ops:Array Oper} {l:List Oper} {done:List Ct} {rest:List Oper} {o o':Oper}
theorem wJ (c:CV) {x:Operand} {t e:TypeId} {n off:Nat} {cs:List CV} (ho:o.op = .load t x) (h:kZ P t = some false) (hk:cs[off]? = some c:=by exact rfl):LT P o [(x,Cc (.pl n off))] [(n,.row e [cs])] (Cc c) [] [] []:=LT.KT ho h hk
theorem bD (out:List CV) {x:Operand} {t e:TypeId} {n off s:Nat} {cs:List CV} (ho:o.op = .load t x) (h:kZ P t = some true) (hi:(P.info? t).isSome = true) (hs:bZ P t = s) (ho2:(cs.drop off).take s = out:=by exact rfl) (hl:out.length = s:=by exact rfl) :
  LT P o [(x,Cc (.pl n off))] [(n,.row e [cs])] (Ag out) [] [] []:=LT.aDs ho h (fE hi) hs ho2 hl
theorem rD (v:SV) (out:List CV) {t e:TypeId} {n off s:Nat} {x y:Operand} {cs:List CV} (ho:o.op = .store t x y) (hd:o.dst = none) (hi:(P.info? t).isSome = true) (hs:bZ P t = s) (hl:(kR v).length = s:=by exact rfl) (hk:(off + s).ble cs.length = true:=by exact rfl)
  (hout:ow cs off (kR v) = out:=by exact rfl):LT P o [(x,Cc (.pl n off)),(y,.s v)] [(n,.row e [cs])] (.dW []) [(n,.row e [out])] [n] []:=LT.Yq ho hd (fE hi) hs hl (Nat.le_of_ble_eq_true hk) hout
theorem stA (v:List CV) {t e:TypeId} {n off s:Nat} {x y:Operand} {cs:List CV} (ho:o.op = .store t x y) (hd:o.dst = none) (hi:(P.info? t).isSome = true) (hs:bZ P t = s) (hl:(kR (.agg v)).length = s:=by exact rfl) (hk:(off + s).ble cs.length = true:=by exact rfl)
  (hout:ow cs off (kR (.agg v)) = v:=by exact rfl):LT P o [(x,Cc (.pl n off)),(y,Ag v)] [(n,.row e [cs])] (.dW []) [(n,.row e [v])] [n] []:=LT.Yq ho hd (fE hi) hs hl (Nat.le_of_ble_eq_true hk) hout
theorem dR (c:CV) {x x':Operand} {t t' e:TypeId} {i n off d:Nat} {cs:List CV} (hf:rO P t i = some d) (ha:kZ P t' = some false)
  (h:o.op = .fieldAddr t x i ∧ fQ σ x (Cc (.pl n off)) ∧ gX ops σ o true ∧ gU C.N o.dst = true ∧ o'.op = .load t' x' ∧ fQ (fB σ o.dst (Cc (.pl n (off + d)))) x' (Cc (.pl n (off + d))) ∧ lk m n = some (.row e [cs]) ∧ gX ops (fB σ o.dst (Cc (.pl n (off + d)))) o' true ∧ gU C.N o'.dst = true ∧ cs[off + d]? = some c)
  (k:aT P C ops rest is (fB (fB σ o.dst (Cc (.pl n (off + d)))) o'.dst (Cc c)) m M K):aT P C ops (o :: o' :: rest) is σ m M K :=
 have ⟨a,b,c1,d1,a2,b2,l,c2,d2,z⟩:=h
 au (LT.eu a hf) b c1 d1 (cZ (LT.KT a2 ha z) b2 l c2 d2 k)
theorem jf (c:CV) {x x':Operand} {t t' e:TypeId} {i n off d:Nat} {cs:List CV} {cb c0 w1 w2:Bool} (hf:rO P t i = some d) (ha:kZ P t' = some false) (hc:cb = c0)
  (h:o.op = .fieldAddr t x i ∧ fQ σ x (Cc (.pl n off)) ∧ vk ops σ o = some (cb,w1) ∧ true = (c0 == w1) ∧ gU C.N o.dst = true ∧ o'.op = .load t' x' ∧ fQ (fB σ o.dst (Cc (.pl n (off + d)))) x' (Cc (.pl n (off + d))) ∧ lk m n = some (.row e [cs]) ∧ vk ops (fB σ o.dst (Cc (.pl n (off + d)))) o' = some (cb,w2) ∧ true = (c0 == w2) ∧ gU C.N o'.dst = true ∧ cs[off + d]? = some c)
  (k:aT P C ops rest is (fB (fB σ o.dst (Cc (.pl n (off + d)))) o'.dst (Cc c)) m M K):aT P C ops (o :: o' :: rest) is σ m M K :=
 have ⟨a,b,c1,c2,d1,a2,b2,l,c3,c4,d2,z⟩:=h
 au (LT.eu a hf) b (gH hc c1 c2) d1 (cZ (LT.KT a2 ha z) b2 l (gH hc c3 c4) d2 k)
theorem dw (c:CV) {x x':Operand} {t t' e:TypeId} {i n off d:Nat} {cs:List CV} (hf:rO P t i = some d) (ha:kZ P t' = some false)
  (h:o.op = .fieldAddr t x i ∧ fQ σ x (Cc (.pl n off)) ∧ gX l.toArray σ o true ∧ gU C.N o.dst = true ∧ o'.op = .load t' x' ∧ fQ (fB σ o.dst (Cc (.pl n (off + d)))) x' (Cc (.pl n (off + d))) ∧ lk m n = some (.row e [cs]) ∧ gX l.toArray (fB σ o.dst (Cc (.pl n (off + d)))) o' true ∧ gU C.N o'.dst = true ∧ cs[off + d]? = some c)
  (k:aN P C l (⟨[(x',Cc (.pl n (off + d)))],[(n,.row e [cs])],Cc c,[],[],[],true⟩ :: ⟨[(x,Cc (.pl n off))],[],Cc (.pl n (off + d)),[],[],[],true⟩ :: done) rest is (fB (fB σ o.dst (Cc (.pl n (off + d)))) o'.dst (Cc c)) m M K):aN P C l done (o :: o' :: rest) is σ m M K :=
 have ⟨a,b,c1,d1,a2,b2,l,c2,d2,z⟩:=h
 bH (LT.eu a hf) b c1 d1 (bV (LT.KT a2 ha z) b2 l c2 d2 k)
theorem qA (c:CV) {x x':Operand} {t t' e:TypeId} {i n off d:Nat} {cs:List CV} {cb c0 w1 w2:Bool} (hf:rO P t i = some d) (ha:kZ P t' = some false) (hc:cb = c0)
  (h:o.op = .fieldAddr t x i ∧ fQ σ x (Cc (.pl n off)) ∧ vk l.toArray σ o = some (cb,w1) ∧ true = (c0 == w1) ∧ gU C.N o.dst = true ∧ o'.op = .load t' x' ∧ fQ (fB σ o.dst (Cc (.pl n (off + d)))) x' (Cc (.pl n (off + d))) ∧ lk m n = some (.row e [cs]) ∧ vk l.toArray (fB σ o.dst (Cc (.pl n (off + d)))) o' = some (cb,w2) ∧ true = (c0 == w2) ∧ gU C.N o'.dst = true ∧ cs[off + d]? = some c)
  (k:aN P C l (⟨[(x',Cc (.pl n (off + d)))],[(n,.row e [cs])],Cc c,[],[],[],true⟩ :: ⟨[(x,Cc (.pl n off))],[],Cc (.pl n (off + d)),[],[],[],true⟩ :: done) rest is (fB (fB σ o.dst (Cc (.pl n (off + d)))) o'.dst (Cc c)) m M K):aN P C l done (o :: o' :: rest) is σ m M K :=
 have ⟨a,b,c1,c2,d1,a2,b2,l,c3,c4,d2,z⟩:=h
 bH (LT.eu a hf) b (gH hc c1 c2) d1 (bV (LT.KT a2 ha z) b2 l (gH hc c3 c4) d2 k)
theorem bY {j:Nat} {want:Bool} {d:Tmp} {c:Bool} (h:o.guard = some (j,want) ∧ (ops[j]?).bind (·.dst) = some d ∧ lk σ d = some (Bv c) ∧ (c == want) = false ∧ gU C.N o.dst = true) (k:aT P C ops rest is (fB σ o.dst (.dW [])) m M K):aT P C ops (o :: rest) is σ m M K:=Ok h.1 h.2.1 h.2.2.1 h.2.2.2.1 h.2.2.2.2 k
theorem af {j:Nat} {want:Bool} {d:Tmp} {c c0:Bool} (hc:c = c0) (h:o.guard = some (j,want) ∧ (ops[j]?).bind (·.dst) = some d ∧ lk σ d = some (Bv c) ∧ (c0 == want) = false ∧ gU C.N o.dst = true) (k:aT P C ops rest is (fB σ o.dst (.dW [])) m M K):aT P C ops (o :: rest) is σ m M K:=Ok h.1 h.2.1 h.2.2.1 (hc ▸ h.2.2.2.1) h.2.2.2.2 k
theorem aH {c want:Bool} (h:vk l.toArray σ o = some (c,want) ∧ false = (c == want) ∧ gU C.N o.dst = true) (k:aN P C l (⟨[],[],.dW [],[],[],[],false⟩ :: done) rest is (fB σ o.dst (.dW [])) m M K):aN P C l done (o :: rest) is σ m M K:=aN.skip (gS h.1 h.2.1) h.2.2 k
theorem aS {c c0 want:Bool} (hc:c = c0) (h:vk l.toArray σ o = some (c,want) ∧ false = (c0 == want) ∧ gU C.N o.dst = true) (k:aN P C l (⟨[],[],.dW [],[],[],[],false⟩ :: done) rest is (fB σ o.dst (.dW [])) m M K):aN P C l done (o :: rest) is σ m M K:=aN.skip (gH hc h.1 h.2.1) h.2.2 k
theorem aG (v:AV) {x:Operand} (h:o.op = .move x ∧ fQ σ x v ∧ gX ops σ o true ∧ gU C.N o.dst = true) (k:aT P C ops rest is (fB σ o.dst v) m M K):aT P C ops (o :: rest) is σ m M K:=mv v h.1 h.2.1 h.2.2.1 h.2.2.2 k
theorem aI (v:AV) {x:Operand} (h:o.op = .assign x ∧ fQ σ x v ∧ gX ops σ o true ∧ gU C.N o.dst = true) (k:aT P C ops rest is (fB σ o.dst v) m M K):aT P C ops (o :: rest) is σ m M K:=asg v h.1 h.2.1 h.2.2.1 h.2.2.2 k
theorem iy (v:AV) {x:Operand} {c c0 w:Bool} (hc:c = c0) (h:o.op = .move x ∧ fQ σ x v ∧ vk ops σ o = some (c,w) ∧ true = (c0 == w) ∧ gU C.N o.dst = true) (k:aT P C ops rest is (fB σ o.dst v) m M K):aT P C ops (o :: rest) is σ m M K:=mv v h.1 h.2.1 (gH hc h.2.2.1 h.2.2.2.1) h.2.2.2.2 k
theorem aY (v:AV) {x:Operand} (h:o.op = .move x ∧ fQ σ x v ∧ gX l.toArray σ o true ∧ gU C.N o.dst = true) (k:aN P C l (⟨[(x,v)],[],v,[],[],[],true⟩ :: done) rest is (fB σ o.dst v) m M K):aN P C l done (o :: rest) is σ m M K:=bH (LT.move h.1) h.2.1 h.2.2.1 h.2.2.2 k
theorem kD (v:AV) {x:Operand} {c c0 w:Bool} (hc:c = c0) (h:o.op = .move x ∧ fQ σ x v ∧ vk l.toArray σ o = some (c,w) ∧ true = (c0 == w) ∧ gU C.N o.dst = true) (k:aN P C l (⟨[(x,v)],[],v,[],[],[],true⟩ :: done) rest is (fB σ o.dst v) m M K):aN P C l done (o :: rest) is σ m M K:=bH (LT.move h.1) h.2.1 (gH hc h.2.2.1 h.2.2.2.1) h.2.2.2.2 k
theorem aZ {x0 x1:Operand} {v0 v1 v:AV} {A:Prop} (f:A → LT P o [(x0,v0),(x1,v1)] [] v [] [] []) (h:A ∧ fQ σ x0 v0 ∧ fQ σ x1 v1 ∧ gX ops σ o true ∧ gU C.N o.dst = true) (k:aT P C ops rest is (fB σ o.dst v) m M K):aT P C ops (o :: rest) is σ m M K:=dU (f h.1) h.2.1 h.2.2.1 h.2.2.2.1 h.2.2.2.2 k
theorem iV {x0 x1:Operand} {v0 v1 v:AV} {A:Prop} {c c0 w:Bool} (f:A → LT P o [(x0,v0),(x1,v1)] [] v [] [] []) (hc:c = c0) (h:A ∧ fQ σ x0 v0 ∧ fQ σ x1 v1 ∧ vk ops σ o = some (c,w) ∧ true = (c0 == w) ∧ gU C.N o.dst = true) (k:aT P C ops rest is (fB σ o.dst v) m M K):aT P C ops (o :: rest) is σ m M K:=dU (f h.1) h.2.1 h.2.2.1 (gH hc h.2.2.2.1 h.2.2.2.2.1) h.2.2.2.2.2 k
theorem jS {x0 x1:Operand} {v0 v1 v:AV} {A:Prop} (f:A → LT P o [(x0,v0),(x1,v1)] [] v [] [] []) (h:A ∧ fQ σ x0 v0 ∧ fQ σ x1 v1 ∧ gX l.toArray σ o true ∧ gU C.N o.dst = true) (k:aN P C l (⟨[(x0,v0),(x1,v1)],[],v,[],[],[],true⟩ :: done) rest is (fB σ o.dst v) m M K):aN P C l done (o :: rest) is σ m M K:=bQ (f h.1) h.2.1 h.2.2.1 h.2.2.2.1 h.2.2.2.2 k
theorem sN {x0 x1:Operand} {v0 v1 v:AV} {A:Prop} {c c0 w:Bool} (f:A → LT P o [(x0,v0),(x1,v1)] [] v [] [] []) (hc:c = c0) (h:A ∧ fQ σ x0 v0 ∧ fQ σ x1 v1 ∧ vk l.toArray σ o = some (c,w) ∧ true = (c0 == w) ∧ gU C.N o.dst = true) (k:aN P C l (⟨[(x0,v0),(x1,v1)],[],v,[],[],[],true⟩ :: done) rest is (fB σ o.dst v) m M K):aN P C l done (o :: rest) is σ m M K:=bQ (f h.1) h.2.1 h.2.2.1 (gH hc h.2.2.2.1 h.2.2.2.2.1) h.2.2.2.2.2 k
theorem dn (v:AV) {c x y:Operand} {b:Bool} (hb:b = true) (h:o.op = .pick c x y ∧ fQ σ c (Bv b) ∧ fQ σ x v ∧ gX ops σ o true ∧ gU C.N o.dst = true) (k:aT P C ops rest is (fB σ o.dst v) m M K):aT P C ops (o :: rest) is σ m M K:=dU (LT.pU h.1 hb) h.2.1 h.2.2.1 h.2.2.2.1 h.2.2.2.2 k
theorem gK (v:AV) {c x y:Operand} {b:Bool} (hb:b = false) (h:o.op = .pick c x y ∧ fQ σ c (Bv b) ∧ fQ σ y v ∧ gX ops σ o true ∧ gU C.N o.dst = true) (k:aT P C ops rest is (fB σ o.dst v) m M K):aT P C ops (o :: rest) is σ m M K:=dU (LT.wO h.1 hb) h.2.1 h.2.2.1 h.2.2.2.1 h.2.2.2.2 k
theorem gW (v:AV) {c x y:Operand} {b:Bool} (hb:b = true) (h:o.op = .pick c x y ∧ fQ σ c (Bv b) ∧ fQ σ x v ∧ gX l.toArray σ o true ∧ gU C.N o.dst = true) (k:aN P C l (⟨[(c,Bv b),(x,v)],[],v,[],[],[],true⟩ :: done) rest is (fB σ o.dst v) m M K):aN P C l done (o :: rest) is σ m M K:=bQ (LT.pU h.1 hb) h.2.1 h.2.2.1 h.2.2.2.1 h.2.2.2.2 k
theorem dD (v:AV) {c x y:Operand} {b:Bool} (hb:b = false) (h:o.op = .pick c x y ∧ fQ σ c (Bv b) ∧ fQ σ y v ∧ gX l.toArray σ o true ∧ gU C.N o.dst = true) (k:aN P C l (⟨[(c,Bv b),(y,v)],[],v,[],[],[],true⟩ :: done) rest is (fB σ o.dst v) m M K):aN P C l done (o :: rest) is σ m M K:=bQ (LT.wO h.1 hb) h.2.1 h.2.2.1 h.2.2.2.1 h.2.2.2.2 k
theorem aX {t:τ} {σ':Slots} {m':Mem} (e:K t .normal σ m = (Exit.normal = Exit.normal ∧ aj P C σ m σ' m')) (h1:zf σ' σ) (h2:zZ m' m):aC P C [] σ m (some t) K:=aC.nil (by rw [e]; exact ⟨rfl,aj.of h1 h2⟩)
theorem cF (xs:List SV) (sh:Mem) {cf:Operand} {f:FuncId} {os:Array Operand} {ts:Array TypeId} {ys:List SV} {us df:Mem} {v:AV} {W X:List Nat} (hf:Fn P f ys us v df W X) (hb:dL P f = true) (hsh:qI sh xs ys) (hus:Dy (keys sh) us)
  (h:o.op = .call { callee:=.value cf,args:=os,argTypes:=ts } ∧ os.size = xs.length ∧ (mY (keys sh) (W ++ X ++ keys us ++ keys df ++ []) && fF W (keys us)) = true):LT P o ((cf,Cc (.fn f [])) :: KH os.toList xs) (us ++ sh) v df W X:=LT.Ub hf h.1 hb hsh h.2.1 h.2.2 hus
theorem bU (xs:List SV) {cf:Operand} {f:FuncId} {os:Array Operand} {ts:Array TypeId} {ys:List SV} {us df:Mem} {v:AV} {W X:List Nat} (hf:Fn P f ys us v df W X) (hb:dL P f = true) (hsh:qI [] xs ys) (hus:Dy (keys ([]:Mem)) us)
  (h:o.op = .call { callee:=.value cf,args:=os,argTypes:=ts } ∧ os.size = xs.length ∧ (mY (keys ([]:Mem)) (W ++ X ++ keys us ++ keys df ++ []) && fF W (keys us)) = true):LT P o ((cf,Cc (.fn f [])) :: KH os.toList xs) (us ++ []) v df W X:=LT.Ub hf h.1 hb hsh h.2.1 h.2.2 hus
theorem fZ (n:Nat) (v:SV) {t:TypeId} {s:Nat} {x:Operand} (hs:bZ P t = s) (h:o.op = .box t x ∧ (kR v).length = s ∧ fQ σ x (.s v) ∧ gX ops σ o true ∧ (gU C.N o.dst && fF [] ([n] ++ keys [(n,Ob.row t [(kR v).map (cO [n])])]) && fF [] (keys ([]:Mem)) && fF (keys [(n,Ob.row t [(kR v).map (cO [n])])]) ([n] ++ []) && mY [n] C.pn) = true)
  (k:aT P C ops rest is (fB (lK [n] σ) o.dst (Cc (.pl n 0))) ([(n,Ob.row t [(kR v).map (cO [n])])] ++ jV [n] m) M K):aT P C ops (o :: rest) is σ m M K :=
 oC (LT.box h.1 hs h.2.1) h.2.2.1 h.2.2.2.1 h.2.2.2.2 k
theorem dQ (n:Nat) (cells:List CV) {t:TypeId} {s b:Nat} {z:Value} (ht:TI P t z s b) (h:o.op = .alloc t ∧ z.cells.toList.map sC = cells ∧ z.cells.toList.all (·.oneCell') = true ∧ cells.length = s ∧ gX ops σ o true ∧ (gU C.N o.dst && fF [] ([n] ++ keys [(n,Ob.row t [cells.map (cO [n])])]) && fF [] (keys ([]:Mem)) && fF (keys [(n,Ob.row t [cells.map (cO [n])])]) ([n] ++ []) && mY [n] C.pn) = true)
  (k:aT P C ops rest is (fB (lK [n] σ) o.dst (Cc (.pl n 0))) ([(n,Ob.row t [cells.map (cO [n])])] ++ jV [n] m) M K):aT P C ops (o :: rest) is σ m M K :=
 ny (LT.alloc h.1 ht h.2.1 h.2.2.1 h.2.2.2.1) h.2.2.2.2.1 h.2.2.2.2.2 k
theorem gy {α:Type} (n:Nat) (enc:α → List PV) (ps:Parts) (xs:List α) {t e:TypeId} {len:Nat} {parts:Array (Nat × Operand)} {z:Value} {s b:Nat} {zc:List CV} (he:P.underlying t = some (.slice e)) (hz:TI P e z s b)
  (h:o.op = .buildSlice t len parts ∧ parts.toList = Parts.ops ps ∧ z.cells.toList.map sC = zc ∧ z.cells.toList.all (·.oneCell') = true ∧ zc.length = s ∧ xs.length = len ∧ EN (fun i => some (i * s,s)) ((List.range (len * s)).map fun i => zc.getD (i % s) .junk) (Parts.vals ps) = some (gY (xs.map enc)).flatten)
  (hel:∀ a,(enc a).length = s:=by exact fun _ => rfl) (hmax:len * s ≤ 16777216 ∧ 0 < s:=by decide):LT P o (Parts.ins ps) [] (Cc (.loc n 0 xs.length)) [(n,.fA e (xs.map enc))] [] [n] :=
 LT.aJt ps xs h.1 h.2.1 he hz h.2.2.1 h.2.2.2.1 h.2.2.2.2.1 h.2.2.2.2.2.1 hmax hel h.2.2.2.2.2.2
theorem jc (v:SV) {x:Operand} {k:Nat} {vs:List SV} (h:o.op = .extract x k ∧ fQ σ x (.dW vs) ∧ vs[k]? = some v ∧ gX ops σ o true ∧ gU C.N o.dst = true) (k:aT P C ops rest is (fB σ o.dst (.s v)) m M K):aT P C ops (o :: rest) is σ m M K:=au (LT.extract h.1 h.2.2.1) h.2.1 h.2.2.2.1 h.2.2.2.2 k
theorem Zq (v:SV) {x:Operand} {k:Nat} {vs:List SV} (h:o.op = .extract x k ∧ fQ σ x (.dW vs) ∧ vs[k]? = some v ∧ gX l.toArray σ o true ∧ gU C.N o.dst = true) (k:aN P C l (⟨[(x,.dW vs)],[],.s v,[],[],[],true⟩ :: done) rest is (fB σ o.dst (.s v)) m M K):aN P C l done (o :: rest) is σ m M K:=bH (LT.extract h.1 h.2.2.1) h.2.1 h.2.2.2.1 h.2.2.2.2 k
theorem kC {x:Operand} {t:TypeId} {q:Bool} {cs:List PV} {s:Nat} (ho:o.op = .load t x) (h:kZ P t = some true) (hi:(P.info? t).isSome = true) (hs:bZ P t = s) (hl:cs.length = s:=by exact rfl):LT P o [(x,Cc (.px q cs))] [] (Ag (cs.map .pv)) [] [] []:=LT.aIP ho h (fE hi) (hl.trans hs.symm)
theorem oK {α:Type} {enc:α → List PV} (k:Nat) {x:Operand} {t e:TypeId} {n off:Nat} {i:Int} {xs:List α} {b:α} {p:PV} (ho:o.op = .load t x) (h:kZ P t = some false) (hi:idx xs i = some b) (hk:(enc b)[k]? = some p:=by exact rfl)
  (ha:off = i.toNat * bZ P e + k:=by exact rfl):LT P o [(x,Cc (.pl n off))] [(n,.fA e (xs.map enc))] (Cc (.pv p)) [] [] []:=LT.aJ0 ho h hi hk ha
theorem qW {α:Type} {enc:α → List PV} (k:Nat) (v:SV) (b':α) {t e:TypeId} {n off s:Nat} {x y:Operand} {i:Int} {xs:List α} {b:α} (ho:o.op = .store t x y) (hd:o.dst = none) (hit:(P.info? t).isSome = true) (hs:bZ P t = s) (hi:idx xs i = some b)
  (hl:(kR v).length = s:=by exact rfl) (ha:off = i.toNat * bZ P e + k:=by exact rfl) (hk:(k + s).ble (enc b).length = true:=by exact rfl) (hb:ow ((enc b).map .pv) k (kR v) = (enc b').map .pv:=by exact rfl) :
  LT P o [(x,Cc (.pl n off)),(y,.s v)] [(n,.fA e (xs.map enc))] (.dW []) [(n,.fA e ((xs.set i.toNat b').map enc))] [n] []:=LT.aCq ho hd (fE hit) hs hl hi ha (Nat.le_of_ble_eq_true hk) hb
theorem bT {ρ:Type} {res:List ResultVar} {us:Mem} {X:List Nat} {rs:ρ → List SV} {iZ:ρ → Mem} {t:ρ} (h1:vZ P σ m res (rs t)) (h2:oV m (iZ t)) (h3:yZ (rs t)) (h4:D5 (iZ t))
  (hs:(fF (keys us) (keys (iZ t)) && fF X (keys (iZ t)) && okA (keys us ++ X) (vP (rs t)) && (iZ t).all (fun p => (keys us ++ X).elem p.1 && okO (keys us ++ X) p.2)) = true:=by exact rfl):aC P C (.code .ret :: is) σ m (some t) (lI P res us X rs iZ):=aC.ret (lI.mk (.inr rfl) h1 h2 hs h3 h4)
theorem qc {ρ:Type} {res:List ResultVar} {us:Mem} {X:List Nat} {rs:ρ → List SV} {iZ:ρ → Mem} {t:ρ} (h1:vZ P σ m res (rs t)) (h2:oV m (iZ t)) (h3:yZ (rs t)) (h4:D5 (iZ t))
  (hs:(fF (keys us) (keys (iZ t)) && fF X (keys (iZ t)) && okA (keys us ++ X) (vP (rs t)) && (iZ t).all (fun p => (keys us ++ X).elem p.1 && okO (keys us ++ X) p.2)) = true:=by exact rfl):lI P res us X rs iZ t .ret σ m:=lI.mk (.inr rfl) h1 h2 hs h3 h4
theorem jC (xs:List SV) {cf:Operand} {f:FuncId} {os:Array Operand} {ts:Array TypeId} {ys:List SV} {v:AV} (hf:Fn P f ys [] v [] [] []) (hb:dL P f = true) (hsh:qI [] xs ys)
  (h:o.op = .call { callee:=.value cf,args:=os,argTypes:=ts } ∧ os.size = xs.length ∧ (mY (keys ([]:Mem)) ([] ++ [] ++ keys ([]:Mem) ++ keys ([]:Mem) ++ []) && fF [] (keys ([]:Mem))) = true ∧ gX ops σ o true ∧ gU C.N o.dst = true) (he:EvL σ ((cf,Cc (.fn f [])) :: KH os.toList xs))
  (k:aT P C ops rest is (fB σ o.dst v) m M K):aT P C ops (o :: rest) is σ m M K:=aT.pure (LT.Ub (us:=[]) hf h.1 hb hsh h.2.1 h.2.2.1 trivial) he trivial h.2.2.2.1 h.2.2.2.2 k
theorem gJ {id:Nat} {t:τ} {σ':Slots} {m':Mem} (e:xq id is = false ∧ K t (.exit id) σ m = (Exit.exit id = Exit.exit id ∧ aj P C σ m σ' m')) (h1:zf σ' σ) (h2:zZ m' m):aC P C (.code (.exit id) :: is) σ m (some t) K:=aC.LJ e.1 (by rw [e.2]; exact ⟨rfl,aj.of h1 h2⟩)
theorem qj {ρ:Type} {K:ρ → Post}:∀ (r t:ρ) (σ:Slots) (m:Mem),(some r:Option ρ) = some t → K r .ret σ m → K t .ret σ m:=fun r t σ m ht hk => by
 injection ht with ht
 subst ht
 exact hk
theorem dF (h:aC P C is σ m M K) (hd:QZ l done.reverse = true:=by kernel_rfl):aN P C l done [] is σ m M K:=aN.nil hd h
end
end
end Go.Fw
end
