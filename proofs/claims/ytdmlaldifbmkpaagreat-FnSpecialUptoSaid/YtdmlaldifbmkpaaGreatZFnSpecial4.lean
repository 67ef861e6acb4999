/- Parts of a proof that a law of the program holds: what the program computes, and why that is right. -/
import Derived.Test.YtdmlaldifbmkpaaGreatProg
import Derived.Test.YtdmlaldifbmkpaaGreatZFnSpecial3
set_option linter.unusedVariables false
set_option linter.unusedSimpArgs false
set_option linter.unnecessarySimpa false
set_option maxRecDepth 100000
set_option maxHeartbeats 8000000
section
namespace Go.Mx
def lay:List (List Int) → Ext → Ext
 | [],y => y
 | u :: U,y => wed u (lay U y)
theorem aBu {n:Nat}:∀ (U:List (List Int)) (x y:Ext),(∀ u ∈ U,u.length = n) → ip n (lay U y) x = ip n y (ct U x)
 | [],x,y,_ => rfl
 | u :: U,x,y,h => by
  show ip n (wed u (lay U y)) x = ip n y (ct U (con u x))
  rw [adj n u _ _ (h u List.mem_cons_self),aBu U (con u x) y fun v hv => h v (List.mem_cons_of_mem _ hv)]
theorem aJl (U:List (List Int)):lay U one = om U:=by
 induction U with
 | nil => rfl
 | cons u U ih => show wed u (lay U one) = wed u (om U); rw [ih]
theorem aJS:∀ (n:Nat) (x:Ext),ip n one x = sc n x:=by
 intro n
 induction n with
 | zero => intro x; unfold ip sc one; simp
 | succ n ih =>
  intro x
  unfold ip
  have h1:=ih (fun m => x (false :: m))
  have e1:(fun m => one (false :: m)) = one:=by funext m; simp [one]
  have e2:∀ y:Ext,ip n (fun m => one (true :: m)) y = 0:=fun y => by
   have:=DV 0 0 n one one y
   have e:(fun m => one (true :: m)) = fun m => 0 * one m + 0 * one m:=by funext m; simp [one]
   rw [DU,e,this]
   omega
  rw [e1,e2,h1]
  unfold sc
  simp [List.replicate_succ]
theorem aNO {n:Nat} {U V:List (List Int)} (hU:ku n U) (h:Zo n U):jU n U V = 0:=by
 unfold jU
 rw [← aJS,← aBu U (om V) one hU,aJl,DU]
 have:=BL n (om V) (om V) (om U) (fun m => 0 * om U m + 0 * om U m) (fun _ _ => rfl) (fun m hm => by rw [h m hm]; rfl)
 rw [this,DV]
 omega
open Go.Proofs.YtdmlaldifbmkpaaGreat in
theorem aDx (N:Nat) (B:fM):kT B.length (turned N B):=fun i hi => by
 rw [sS] at hi
 rw [Ky hi,List.length_map]
open Go.Proofs.YtdmlaldifbmkpaaGreat in
theorem aDw {N:Nat} {B:fM} (hB:kT N B):(iE B.length (turned N B) B.length).piv.length ≤ (iE N B N).piv.length:=by
 obtain ⟨V,hV⟩:=QS hB
 obtain ⟨M',h⟩:=yM (aDx N B) B.length (Nat.le_refl _)
 generalize iE B.length (turned N B) B.length = s at h
 have aAy:∀ j,j < B.length → (mY B [] j).length = N:=fun j hj => by
  unfold mY
  rw [if_pos hj]
  exact hB j hj
 have hre:=h.re
 rw [aDy (ld:=[])] at hre
 have hC:∀ c ∈ s.piv.reverse,c < B.length:=fun c hc => h.pc c (by simpa using hc)
 obtain ⟨I,i1,i2,i3,i4⟩:=aDt (n:=B.length) (ld:=[]) aAy hre (C:=s.piv.reverse) (by have:=h.rl; rw [sS] at this; simpa using this) hC
 rw [List.length_reverse] at i4
 have hd:jU N (s.piv.reverse.map (mY B [])) (units N I) ≠ 0:=by rw [← i4,h.last]; exact h.nz
 have hall:ku N (s.piv.reverse.map (mY B [])):=fun v hv => by
  obtain ⟨c,hc,rfl⟩:=List.mem_map.1 hv
  exact aAy c (hC c hc)
 have:=EN.le hV hV (W:=s.piv.reverse.map (mY B [])) (fun hz => hd (aNO hall hz)) (fun v hv => by
  obtain ⟨c,hc,rfl⟩:=List.mem_map.1 hv
  have hcB:=hC c hc
  refine hV.span _ ?_
  unfold mY
  rw [if_pos hcB]
  exact VY hcB)
 rw [List.length_map,List.length_reverse] at this
 exact this
open Go.Proofs.YtdmlaldifbmkpaaGreat in
theorem aLr {N:Nat} {B:fM} (hB:kT N B):turned B.length (turned N B) = B:=by
 apply List.ext_getElem
 ·rw [sS]
 ·intro i h1 h2
  have e:(turned B.length (turned N B))[i] = (turned B.length (turned N B)).getD i []:=by rw [List.getD_eq_getElem?_getD,List.getElem?_eq_getElem h1]; rfl
  have e2:B[i] = B.getD i []:=by rw [List.getD_eq_getElem?_getD,List.getElem?_eq_getElem h2]; rfl
  rw [e,Ky h2,e2]
  refine yx (n:=N) (by rw [List.length_map,sS]) (hB i h2) fun k hk => ?_
  rw [List.getD_eq_getElem?_getD,List.getElem?_map]
  have hk':(turned N B)[k]? = some ((turned N B).getD k []):=by
   rw [List.getD_eq_getElem?_getD,List.getElem?_eq_getElem (by rw [sS]; exact hk)]
   rfl
  rw [hk',Ky hk]
  simp only [Option.map_some,Option.getD_some]
  rw [List.getD_eq_getElem?_getD,List.getElem?_map,List.getElem?_eq_getElem h2]
  simp only [Option.map_some,Option.getD_some]
  rw [e2]
open Go.Proofs.YtdmlaldifbmkpaaGreat in
theorem aLq {N:Nat} {B:fM} (hB:kT N B):(iE B.length (turned N B) B.length).piv.length = (iE N B N).piv.length:=by
 refine Nat.le_antisymm (aDw hB) ?_
 have:=aDw (aDx N B)
 rw [aLr hB,sS] at this
 exact this
end Go.Mx
namespace Go.Mx
theorem aKp {n:Nat} {M M':fM} {s:BS} (hrows:kT n M) (h:BInv n M n s M') {i:Nat} (hi:i < M.length):Sp n (jv M' s.piv.length) (M'.getD i []):=by
 have Ey:=h.re.rows hrows
 have hl:=h.re.len
 have hall:=Kt Ey (show s.piv.length ≤ M'.length by rw [hl]; exact h.rl)
 have hd:jU n (units n s.piv.reverse) (jv M' s.piv.length) ≠ 0:=by rw [h.last]; exact h.nz
 have hxl:(M'.getD i []).length = n:=Ey i (by omega)
 by_cases hir:i < s.piv.length
 ·refine Sp.mem hall ?_
  have:∀ r,i < r → M'.getD i [] ∈ jv M' r:=by
   intro r
   induction r with
   | zero => intro h; omega
   | succ r ih =>
    intro h
    show M'.getD i [] ∈ M'.getD r [] :: jv M' r
    by_cases e:i = r
    ·rw [e]; exact List.mem_cons_self
    ·exact List.mem_cons_of_mem _ (ih (by omega))
  exact this _ hir
 ·have h0:∀ k:Nat,(jQ n s.piv.reverse (jv M' s.piv.length) (M'.getD i [])).getD k 0 = 0:=fun k => by
   by_cases hk:k < n
   ·rw [← h.lo i (by omega) hi]
    exact h.zero i (by omega) hi k hk
   ·exact jA (by rw [jQ,dO]; omega)
  have hs:=(Ai (C:=s.piv.reverse) hall hxl).sp
  refine ⟨hxl,fun m hm => ?_⟩
  have h1:=hs.2 m hm
  rw [AX (- jU n (units n s.piv.reverse) (jv M' s.piv.length)) 0 (M'.getD i []) (M'.getD i []) _ _ m (by rw [dO]; exact hxl) (by rw [dO]; exact hxl) fun k => by
   by_cases hk:k < n
   ·rw [gV _ hk,h0 k,Int.neg_mul]; omega
   ·rw [jA (by rw [dO]; omega),jA (v:=M'.getD i []) (by omega)]; omega] at h1
  rw [Int.zero_mul,Int.add_zero] at h1
  rcases Int.mul_eq_zero.1 h1 with e | e
  ·exact absurd (Int.neg_eq_zero.1 e) hd
  ·exact e
end Go.Mx
open Go Go.Fw Go.Mx
namespace Go.Proofs.YtdmlaldifbmkpaaGreat
theorem aCj {α:Type} {f:Nat → List α} (p:Nat → Bool):∀ n,(∀ k,k < n → (f k).length = if p k then 0 else 1) → (pieces f n).length = n - ((List.range n).filter p).length ∧ ((List.range n).filter p).length ≤ n
 | 0,_ => ⟨rfl,Nat.le_refl _⟩
 | n + 1,h => by
  obtain ⟨i1,i2⟩:=aCj p n fun k hk => h k (by omega)
  have hn:=h n (by omega)
  rw [List.range_succ,List.filter_append,List.length_append]
  show (pieces f n ++ f n).length = _ ∧ _
  rw [List.length_append,i1,hn]
  cases hp:p n with
  | true =>
   have:([n].filter p).length = 1:=by simp [hp]
   rw [this]
   simp only [if_true]
   omega
  | false =>
   have:([n].filter p).length = 0:=by simp [hp]
   rw [this]
   simp only [Bool.false_eq_true,if_false]
   omega
theorem aKA {n:Nat} {M:fM} (hn:n ≤ 1000000) (hM:M.length ≤ 1000000) (hrows:kT n M) (hT:wF n M):(yj n M).length = n - (iE n M n).piv.length:=by
 have h:=Hg hn hM hrows hT
 unfold yj
 generalize iE n M n = s at h
 obtain ⟨e,_⟩:=aCj (f:=xY n s) (fun k => decide (k ∈ s.piv)) n fun k hk => by
  unfold xY
  rcases h.rm hk with ⟨i,hi,e1,e2⟩ | ⟨hno,e2⟩
  ·rw [e2,if_pos (by omega),if_pos (decide_eq_true (J9.2 ⟨i,hi,e1⟩))]
   rfl
  ·rw [e2,if_neg (by omega),if_neg (by
    intro hd
    obtain ⟨i,hi,e1⟩:=J9.1 (of_decide_eq_true hd)
    exact hno i hi e1)]
   rfl
 rw [e]
 have hp:((List.range n).filter fun k => decide (k ∈ s.piv)).Perm s.piv:=by
  refine (List.perm_ext_iff_of_nodup (List.nodup_range.filter _) h.nd).2 fun k => ?_
  simp only [List.mem_filter,List.mem_range,decide_eq_true_eq]
  exact ⟨fun hk => hk.2,fun hk => ⟨h.pc k hk,hk⟩⟩
 rw [hp.length_eq]
theorem VH:∀ u v:List Int,(∀ k:Nat,u.getD k 0 * v.getD k 0 = 0) → dot u v = 0
 | [],_,_ => by cases ‹List Int› <;> rfl
 | _ :: _,[],_ => rfl
 | a :: u,b :: v,h => by
  have h0:a * b = 0:=h 0
  have h1:=VH u v fun k => h (k + 1)
  show a * b + dot u v = 0
  omega
theorem aGM {n p q:Nat} {y w:List Int} (hy:y.length = n) (hw:w.length = n) (hp:p < n) (hq:q < n) (hpq:p ≠ q) (h0:∀ k:Nat,k ≠ p → k ≠ q → y.getD k 0 * w.getD k 0 = 0):dot y w = y.getD p 0 * w.getD p 0 + y.getD q 0 * w.getD q 0:=by
 have e1:=zL y w p 0 (by omega) (by omega)
 have e2:=zL (y.set p 0) w q 0 (by simp; omega) (by simp; omega)
 have g:∀ (l:List Int) (i j:Nat),i ≠ j → (l.set i 0).getD j 0 = l.getD j 0:=fun l i j hij => by
  rw [List.getD_eq_getElem?_getD,List.getD_eq_getElem?_getD,List.getElem?_set,if_neg hij]
 have aDd:∀ (l:List Int) (k:Nat),k < l.length → (l.set k 0).getD k 0 = 0:=fun l k hk => by
  rw [List.getD_eq_getElem?_getD,List.getElem?_set,if_pos rfl,if_pos hk]; rfl
 have z:dot ((y.set p 0).set q 0) w = 0:=VH _ _ fun k => by
  by_cases c2:k = q
  ·subst c2; rw [aDd _ _ (by simp; omega),Int.zero_mul]
  ·rw [g _ _ _ (fun h => c2 h.symm)]
   by_cases c1:k = p
   ·subst c1; rw [aDd _ _ (by omega),Int.zero_mul]
   ·rw [g _ _ _ (fun h => c1 h.symm)]
    exact h0 k c1 c2
 rw [z,g _ _ _ hpq] at e2
 have h1:y.getD p 0 * w.getD p 0 = -((0 - y.getD p 0) * w.getD p 0):=by grind
 have h2:y.getD q 0 * w.getD q 0 = -((0 - y.getD q 0) * w.getD q 0):=by grind
 rw [h1,h2]
 omega
theorem aDY {n:Nat} {V:List (List Int)} {w:List Int} (hw:w.length = n) {d:Int} (hd:d ≠ 0):∀ (C:List Nat) (D:List Nat) (b:Nat → List Int),(∀ y,Sp n V y → (∀ c ∈ D ++ C,y.getD c 0 = 0) → ∀ k:Nat,y.getD k 0 = 0) → (∀ c ∈ C,Sp n V (b c) ∧ (b c).getD c 0 = d ∧ (∀ c' ∈ D ++ C,c' ≠ c → (b c).getD c' 0 = 0) ∧ dot (b c) w = 0) → ∀ y,Sp n V y → (∀ c ∈ D,y.getD c 0 = 0) → dot y w = 0
 | [],D,b,hz,_,y,hy,h0 => VH _ _ fun k => by rw [hz y hy (by simpa using h0) k,Int.zero_mul]
 | c :: C,D,b,hz,hb,y,hy,h0 => by
  obtain ⟨b1,b2,b3,b4⟩:=hb c List.mem_cons_self
  have hlin:∀ k:Nat,(vec n fun k => d * y.getD k 0 + (- y.getD c 0) * (b c).getD k 0).getD k 0 = d * y.getD k 0 + (- y.getD c 0) * (b c).getD k 0:=fun k => by
   by_cases hk:k < n
   ·exact gV _ hk
   ·rw [jA (by rw [dO]; omega),jA (v:=y) (k:=k) (by rw [hy.1]; omega),jA (v:=b c) (k:=k) (by rw [b1.1]; omega)]
    simp
  have hs:=Sp.comb d (- y.getD c 0) hy b1 (dO ..) hlin
  have aA0:=HY d (- y.getD c 0) y (b c) _ w (by rw [dO]; exact hy.1) (by rw [dO]; exact b1.1) hlin
  have ih:=aDY hw hd C (D ++ [c]) b (fun y hy h => hz y hy (by simpa using h)) (fun c' hc' => by
   obtain ⟨q1,q2,q3,q4⟩:=hb c' (List.mem_cons_of_mem _ hc')
   exact ⟨q1,q2,by simpa using q3,q4⟩) _ hs (fun k hk => by
   rw [hlin]
   rcases List.mem_append.1 hk with hk' | hk
   ·by_cases e:k = c
    ·subst e; rw [h0 k hk',b2]; simp
    ·rw [h0 k hk',b3 k (List.mem_append_left _ hk') e]; simp
   ·have:=List.mem_singleton.1 hk
    subst this
    rw [b2,Int.neg_mul,Int.mul_comm]
    omega)
  rw [ih,b4,Int.mul_zero,Int.add_zero] at aA0
  rcases Int.mul_eq_zero.1 aA0.symm with e | e
  ·exact absurd e hd
  ·exact e
theorem aKC {n:Nat} {M:fM} (hn:n ≤ 1000000) (hM:M.length ≤ 1000000) (hrows:kT n M) (hT:wF n M) {v:List Int} (hv:v ∈ yj n M) {x:List Int} (hx:x ∈ M):dot x v = 0:=by
 have hF:=Hg hn hM hrows hT
 obtain ⟨V,hB⟩:=QS hrows
 obtain ⟨M',h⟩:=yM hrows n (Nat.le_refl _)
 unfold yj at hv
 generalize iE n M n = s at h hF hv hB
 have hxl:x.length = n:=(hB.span x hx).1
 clear hB
 obtain ⟨f,hf,hvf⟩:=(F9 _).1 hv
 unfold xY at hvf
 split at hvf
 ·cases hvf
 rename_i hfree
 rw [List.mem_singleton] at hvf
 subst hvf
 have hnp:f ∉ s.piv:=fun hm => by
  obtain ⟨i,hi,e⟩:=J9.1 hm
  have:=hF.aDA hi
  rw [e] at this
  rw [this] at hfree
  exact hfree (by omega)
 have Ey:=h.re.rows hrows
 have hall:=Kt Ey (show s.piv.length ≤ M'.length by rw [h.re.len]; exact h.rl)
 have hd:jU n (units n s.piv.reverse) (jv M' s.piv.length) ≠ 0:=by rw [h.last]; exact h.nz
 have hwl:(vec n (nval n s f)).length = n:=dO ..
 obtain ⟨V,hB⟩:=QS hrows
 have main:dot x (vec n (nval n s f)) = 0:=by
  have hsp:Sp n (jv M' s.piv.length) x:=by
   obtain ⟨⟨fi,f1,f2,f3⟩,hl⟩:=h.re
   obtain ⟨j,hj,rfl⟩:=List.getElem_of_mem hx
   obtain ⟨i,hi,e⟩:=aBi f1 f2 hj
   have e2:M[j] = M'.getD i []:=by
    rw [f3 i hi,e,List.getD_eq_getElem?_getD,List.getElem?_eq_getElem hj]
    rfl
   rw [e2]
   exact aKp hrows h hi
  refine aDY hwl hd s.piv [] (fun c => s.a.getD (s.piv.idxOf c) []) (fun y hy hc k => ?_) (fun c hc => ?_) x hsp (fun c hc => by cases hc)
  ·by_cases hk:k < n
   ·have:=uniq (u:=unit n k) hy (yB n s.piv.reverse) (ru ..) fun w hw => by
     obtain ⟨c,hcm,rfl⟩:=List.mem_map.1 hw
     have hcp:c ∈ s.piv:=by simpa using hcm
     rw [vI hy.1 (h.pc c hcp)]
     exact hc c (by simpa using hcp)
    rw [vI hy.1 hk] at this
    rcases Int.mul_eq_zero.1 this with e | e
    ·exact e
    ·exact absurd e hd
   ·exact jA (by rw [hy.1]; omega)
  ·have hi:s.piv.idxOf c < s.piv.length:=List.idxOf_lt_length_iff.2 hc
   have hci:s.piv[s.piv.idxOf c] = c:=List.getElem_idxOf hi
   have hb:=h.hi _ hi
   rw [hci] at hb
   refine ⟨hb.sp,hb.piv,fun c' hc' hne => hb.col c' (by simpa using hc') hne,?_⟩
   have hcn:=h.pc c hc
   have hcf:c ≠ f:=fun e => hnp (e ▸ hc)
   have hrm:(lm n s.piv s.piv.length).getD c 0 = (s.piv.idxOf c:Int):=by
    have h9:=hF.aDA hi
    have e9:s.piv.getD (s.piv.idxOf c) 0 = c:=by rw [List.getD_eq_getElem?_getD,List.getElem?_eq_getElem hi,Option.getD_some,hci]
    rw [e9] at h9
    exact h9
   rw [aGM hb.len hwl hcn hf hcf fun k k1 k2 => ?_,gV _ hcn,gV _ hf]
   ·unfold nval
    rw [if_neg hcf,if_pos rfl,hrm,if_pos (by omega),Int.toNat_natCast,hb.piv,h.last]
    unfold at2
    grind
   ·by_cases hk:k < n
    ·rw [gV _ hk]
     rcases hF.rm hk with ⟨j,hj,e1,e2⟩ | ⟨_,e2⟩
     ·rw [hb.col k (by simpa using J9.2 ⟨j,hj,e1⟩) k1,Int.zero_mul]
     ·unfold nval
      rw [if_neg k2,e2,if_neg (by omega),Int.mul_zero]
    ·rw [jA (v:=s.a.getD (s.piv.idxOf c) []) (by rw [hb.len]; omega),Int.zero_mul]
 obtain ⟨t,ht,e⟩:=KR (vec n (nval n s f))
 have hl:=HY t 0 (bW (vec n (nval n s f))) (bW (vec n (nval n s f))) (vec n (nval n s f)) x (by rw [xg]) (by rw [xg]) fun k => by rw [e k]; omega
 rw [dot_comm,main] at hl
 rw [dot_comm]
 rcases Int.mul_eq_zero.1 (show t * dot (bW (vec n (nval n s f))) x = 0 by omega) with h | h
 ·exact absurd h ht
 ·exact h
end Go.Proofs.YtdmlaldifbmkpaaGreat
end
section
open Go Go.Fw Go.Mx
namespace Go.Proofs.YtdmlaldifbmkpaaGreat
structure NV (n:Nat) (v:List Int):Prop where
 len:v.length = n
 bnd:∀ k:Nat,(v.getD k 0).natAbs ≤ BB
theorem aKB {n:Nat} {M:fM} (hn:n ≤ 1000000) (hM:M.length ≤ 1000000) (hrows:kT n M) (hT:wF n M) {v:List Int} (hv:v ∈ yj n M):NV n v:=by
 have hF:=Hg hn hM hrows hT
 obtain ⟨f,hf,hv⟩:=(F9 _).1 hv
 unfold xY at hv
 split at hv
 ·cases hv
 ·rw [List.mem_singleton] at hv
  subst hv
  refine ⟨by rw [xg,dO],fun k => ?_⟩
  have:=TQ (vec n (nval n (iE n M n) f)) (B:=(BB:Nat)) (fun j => by
   by_cases hj:j < n
   ·rw [gV _ hj]
    have:=aCT hF f j
    omega
   ·rw [jA (by rw [dO]; omega)]
    show ((0:Int).natAbs:Int) ≤ _
    omega) k
  omega
section
def spread (keep v:List Int):Nat → Nat → Int
 | 0,_ => 0
 | i + 1,j => if keep.getD i 0 = (j:Int) then v.getD i 0 else spread keep v i j
theorem YS {keep v:List Int} {j:Nat}:∀ n,(∀ i,i < n → keep.getD i 0 ≠ (j:Int)) → spread keep v n j = 0
 | 0,_ => rfl
 | n + 1,h => by
  rw [spread,if_neg (h n (by omega))]
  exact YS n fun i hi => h i (by omega)
theorem aDZ {keep v:List Int} {j k:Nat} (hk:keep.getD k 0 = (j:Int)):∀ n,k < n → (∀ i,i < n → keep.getD i 0 = (j:Int) → i = k) → spread keep v n j = v.getD k 0
 | 0,h,_ => by omega
 | n + 1,h,hu => by
  rw [spread]
  by_cases e:keep.getD n 0 = (j:Int)
  ·rw [if_pos e,hu n (by omega) e]
  ·rw [if_neg e]
   have:k ≠ n:=fun h => e (h ▸ hk)
   exact aDZ hk n (by omega) fun i hi => hu i (by omega)
def jc (f:bF):List (List Int):=xq ⟨only f.Graph (acc f.Graph 2 3),f.Places⟩
def special (f:bF):List Int × Bool:=bif vF f && !decide ((jc f).length = 0) then (vec f.Graph.aC.length (spread (acc f.Graph 2 3) ((jc f).getD 0 []) (acc f.Graph 2 3).length),true) else ([],false)
theorem UJ {f:bF} {v:List Int} (h:v ∈ xq f):vF f = true ∧ NV f.Graph.aC.length v:=by
 unfold xq at h
 cases hv:vF f with
 | false => rw [hv] at h; cases h
 | true =>
  cases hb:decide (0 < f.Graph.aC.length) with
  | false => rw [hv,hb] at h; cases h
  | true =>
   rw [hv,hb] at h
   have hV:=qG hv
   have hn:=Bf hV
   have hl:=hV.len
   obtain ⟨t1,t2⟩:=P5 f hv
   exact ⟨rfl,aKB (by omega) (by rw [sS]; omega) t2 t1 h⟩
theorem aKu {l:List Int} {k:Nat} {x:Int} (h:k < l.length) (hx:l.getD k 0 = x):l.set k x = l:=by
 rw [← hx]
 exact aDS 0 h
theorem getD_mem {α:Type} {l:List α} {d:α} {k:Nat} (h:k < l.length):l.getD k d ∈ l:=by
 rw [List.getD_eq_getElem?_getD,List.getElem?_eq_getElem h]
 exact List.getElem_mem h
section
variable (f:bF) (h0:SM f.Graph.aC.length) (h1:SM f.Places.length)
include h0 h1
theorem aLJ:Oq f = some (special f):=by
 have ha:=Lh f.Graph 2 3
 have hs:=Tm f.Graph h0 2 3
 have ho:=aCa h0 (acc f.Graph 2 3)
 unfold Oq special
 rw [yY f h0 h1,Option.bind_some]
 cases hv:vF f with
 | false => rfl
 | true =>
  have hV:=qG hv
  have hl:=hV.len
  simp only [Bool.not_true,cond_false,aE3 _ h0,aKH _ h0 _ hs,aLT ⟨only f.Graph (acc f.Graph 2 3),f.Places⟩ ho h1,Option.bind_some,Bool.true_and]
  show (bif (((jc f).length:Int) == 0) then _ else _) = _
  by_cases hz:(jc f).length = 0
  ·rw [decide_eq_true hz,beq_iff_eq.2 (show ((jc f).length:Int) = 0 by omega)]
   rfl
  ·rw [decide_eq_false hz,beq_eq_false_iff_ne.2 (show ((jc f).length:Int) ≠ 0 by omega)]
   have hm:(jc f).getD 0 [] ∈ jc f:=getD_mem (by omega)
   obtain ⟨_,hN⟩:=UJ hm
   have hNl:=hN.len
   rw [show (bF.mk (only f.Graph (acc f.Graph 2 3)) f.Places).Graph.aC.length = (acc f.Graph 2 3).length from PU ha.nd ha.rng] at hNl
   have e0:=iD (l:=jc f) [] (show 0 < _ by omega)
   simp only [cond_false,Bool.not_false,cond_true,BO (show (0:Int) ≤ (f.Graph.aC.length:Int) by omega) (show (f.Graph.aC.length:Int) ≤ 2147483648 by omega),Option.bind_some,Int.toNat_natCast]
   have hL:bG (Jh (acc f.Graph 2 3) (jc f)) BIG (0,List.replicate f.Graph.aC.length 0) = some (vec f.Graph.aC.length (spread (acc f.Graph 2 3) ((jc f).getD 0 []) (acc f.Graph 2 3).length)):=by
    refine kX (fun (i:Nat) => ((i:Int),vec f.Graph.aC.length (spread (acc f.Graph 2 3) ((jc f).getD 0 []) i))) (acc f.Graph 2 3).length (by have:=ha.len; omega) (by rw [Tc]; rfl) (fun i hi => ?_) ?_
    ·have e1:=iD (l:=acc f.Graph 2 3) 0 hi
     obtain ⟨q0,q1⟩:=ha.rng _ (getD_mem (d:=0) hi)
     have e2:=iD (l:=(jc f).getD 0 []) 0 (show i < _ by omega)
     have e3:=iD (l:=vec f.Graph.aC.length (spread (acc f.Graph 2 3) ((jc f).getD 0 []) i)) 0 (show ((acc f.Graph 2 3).getD i 0).toNat < _ by rw [dO]; omega)
     rw [show ((((acc f.Graph 2 3).getD i 0).toNat:Nat):Int) = (acc f.Graph 2 3).getD i 0 by omega] at e3
     unfold Jh
     simp only [e1,show idx (jc f) 0 = some ((jc f).getD 0 []) from e0,e2,e3,Option.bind_some,gW (show i ≤ 1099511627776 by omega)]
     rw [decide_eq_true (by omega),cond_true,LC (g:=spread (acc f.Graph 2 3) ((jc f).getD 0 []) (i + 1)) (show ((acc f.Graph 2 3).getD i 0).toNat < _ by omega) (by rw [spread,if_pos (by omega)]) fun j hj hne => by rw [spread,if_neg (by omega)]]
    ·unfold Jh
     simp only []
     rw [decide_eq_false (by omega),cond_false]
   rw [show xq ⟨only f.Graph (acc f.Graph 2 3),f.Places⟩ = jc f from rfl,hL]
   rfl
theorem aLI:OG f = some (special f):=by
 have ha:=Lh f.Graph 2 3
 have hs:=Tm f.Graph h0 2 3
 have ho:=aCa h0 (acc f.Graph 2 3)
 unfold OG special
 rw [DW f h0 h1,Option.bind_some]
 cases hv:vF f with
 | false => rfl
 | true =>
  have hV:=qG hv
  have hl:=hV.len
  simp only [Bool.not_true,cond_false,aE2 _ h0,aKG _ h0 _ hs,aLS ⟨only f.Graph (acc f.Graph 2 3),f.Places⟩ ho h1,Option.bind_some,Bool.true_and]
  show (bif (((jc f).length:Int) == 0) then _ else _) = _
  by_cases hz:(jc f).length = 0
  ·rw [decide_eq_true hz,beq_iff_eq.2 (show ((jc f).length:Int) = 0 by omega)]
   rfl
  ·rw [decide_eq_false hz,beq_eq_false_iff_ne.2 (show ((jc f).length:Int) ≠ 0 by omega)]
   have hm:(jc f).getD 0 [] ∈ jc f:=getD_mem (by omega)
   obtain ⟨_,hN⟩:=UJ hm
   have hNl:=hN.len
   rw [show (bF.mk (only f.Graph (acc f.Graph 2 3)) f.Places).Graph.aC.length = (acc f.Graph 2 3).length from PU ha.nd ha.rng] at hNl
   have e0:=iD (l:=jc f) [] (show 0 < _ by omega)
   simp only [cond_false,Bool.not_false,cond_true,BO (show (0:Int) ≤ (f.Graph.aC.length:Int) by omega) (show (f.Graph.aC.length:Int) ≤ 2147483648 by omega),Option.bind_some,Int.toNat_natCast]
   have hL:bG (Iq f (acc f.Graph 2 3) (jc f)) BIG (0,List.replicate f.Graph.aC.length 0) = some (vec f.Graph.aC.length (spread (acc f.Graph 2 3) ((jc f).getD 0 []) (acc f.Graph 2 3).length)):=by
    refine kX (fun (i:Nat) => ((i:Int),vec f.Graph.aC.length fun j => if j < i then spread (acc f.Graph 2 3) ((jc f).getD 0 []) (acc f.Graph 2 3).length j else 0)) f.Graph.aC.length (by omega) (by rw [Tc]; rfl) (fun i hi => ?_) ?_
    ·obtain ⟨r,r1,r2,r3⟩:=aBg (acc f.Graph 2 3) hs (i:Int)
     have e3:=iD (l:=vec f.Graph.aC.length fun j => if j < i then spread (acc f.Graph 2 3) ((jc f).getD 0 []) (acc f.Graph 2 3).length j else 0) 0 (show i < _ by rw [dO]; exact hi)
     unfold Iq
     simp only [List.length_replicate,Int.toNat_natCast,r1,Option.bind_some,gW (show i ≤ 1099511627776 by omega)]
     rw [decide_eq_true (by omega),cond_true]
     have hset:∀ x,spread (acc f.Graph 2 3) ((jc f).getD 0 []) (acc f.Graph 2 3).length i = x → (vec f.Graph.aC.length fun j => if j < i then spread (acc f.Graph 2 3) ((jc f).getD 0 []) (acc f.Graph 2 3).length j else 0).set i x = vec f.Graph.aC.length fun j => if j < i + 1 then spread (acc f.Graph 2 3) ((jc f).getD 0 []) (acc f.Graph 2 3).length j else 0:=fun x hx =>
      LC hi (by rw [if_pos (by omega)]; exact hx) fun j hj hne => by
       by_cases h:j < i
       ·rw [if_pos h,if_pos (by omega)]
       ·rw [if_neg h,if_neg (by omega)]
     rcases r3 with rfl | ⟨k,rfl,hk,hfirst⟩
     ·have hn:spread (acc f.Graph 2 3) ((jc f).getD 0 []) (acc f.Graph 2 3).length i = 0:=YS _ fun q hq e => by
       have:lY (acc f.Graph 2 3) (i:Int) = true:=Q5.2 (e ▸ getD_mem hq)
       rw [this] at r2
       exact absurd r2 (by decide)
      have hss:=hset 0 hn
      rw [aKu (by rw [dO]; exact hi) (by rw [gV _ hi,if_neg (Nat.lt_irrefl _)])] at hss
      rw [decide_eq_false (by decide),cond_false,Option.bind_some,hss]
     ·have hkl:=(List.getElem?_eq_some_iff.1 hk).1
      have hk2:(acc f.Graph 2 3).getD k 0 = (i:Int):=by rw [List.getD_eq_getElem?_getD,hk]; rfl
      have hn:spread (acc f.Graph 2 3) ((jc f).getD 0 []) (acc f.Graph 2 3).length i = ((jc f).getD 0 []).getD k 0:=aDZ hk2 _ hkl fun q hq e => by
       have hq2:=List.getElem?_eq_getElem hq
       have e':(acc f.Graph 2 3)[q]? = (acc f.Graph 2 3)[k]?:=by
        rw [hk,hq2]
        rw [List.getD_eq_getElem?_getD,hq2] at e
        exact congrArg some e
       rcases Nat.lt_trichotomy q k with h | h | h
       ·exact absurd e' (Xo ha.nd h hkl)
       ·exact h
       ·exact absurd e'.symm (Xo ha.nd h hq)
      have e2:=iD (l:=(jc f).getD 0 []) 0 (show k < _ by omega)
      rw [decide_eq_true (by omega),cond_true,show idx (jc f) 0 = some ((jc f).getD 0 []) from e0,Option.bind_some,e2,Option.bind_some,e3,Option.bind_some,Option.bind_some,hset _ hn]
    ·unfold Iq
     simp only [List.length_replicate,Int.toNat_natCast]
     rw [decide_eq_false (by omega),cond_false]
     congr 2
     refine yx (dO ..) (dO ..) fun j hj => ?_
     rw [gV _ hj,gV _ hj,if_pos hj]
   rw [show xq ⟨only f.Graph (acc f.Graph 2 3),f.Places⟩ = jc f from rfl,hL]
   rfl
end
end
theorem YG {N i j:Nat} {dx dy:Int} {k:Nat} (h1:k ≠ i) (h2:k ≠ i + 1) (h3:k ≠ j) (h4:k ≠ j + 1):(sQ N i j dx dy).getD k 0 = 0:=by
 unfold sQ
 have g:∀ (l:List Int) (a:Nat) (x:Int),k ≠ a → (l.set a x).getD k 0 = l.getD k 0:=fun l a x h => by
  rw [List.getD_eq_getElem?_getD,List.getD_eq_getElem?_getD,List.getElem?_set,if_neg (fun e => h e.symm)]
 rw [g _ _ _ h4,g _ _ _ h3,g _ _ _ h2,g _ _ _ h1,List.getD_eq_getElem?_getD,List.getElem?_replicate]
 split <;> rfl
def jf (f:bF) (w:List Int) (c:Nat):Nat → Int
 | 0 => 0
 | k + 1 => jf f w c k + ((iG f).getD k []).getD c 0 * w.getD k 0
theorem aAO:∀ (u v:List Int) (a b:Int),u.length = v.length → dot (u ++ [a]) (v ++ [b]) = dot u v + a * b
 | [],[],a,b,_ => by show a * b + 0 = 0 + a * b; omega
 | x :: u,y :: v,a,b,h => by
  have:=aAO u v a b (by simpa using h)
  show x * y + dot (u ++ [a]) (v ++ [b]) = (x * y + dot u v) + a * b
  omega
 | [],_ :: _,_,_,h => by cases h
 | _ :: _,[],_,_,h => by cases h
theorem aCv {f:bF} {w:List Int} {c:Nat} (hw:w.length = f.Graph.aC.length):∀ k,k ≤ f.Graph.aC.length → jf f w c k = dot ((((iG f).map fun r => r.getD c 0)).take k) (w.take k)
 | 0,_ => by rw [List.take_zero,List.take_zero]; rfl
 | k + 1,hk => by
  have h1:k < (iG f).length:=by rw [vU]; omega
  have e1:((iG f).map fun r => r.getD c 0).take (k + 1) = ((iG f).map fun r => r.getD c 0).take k ++ [((iG f).getD k []).getD c 0]:=by
   rw [List.take_add_one,List.getElem?_map,List.getElem?_eq_getElem h1]
   simp [List.getD_eq_getElem?_getD,List.getElem?_eq_getElem h1]
  have e2:w.take (k + 1) = w.take k ++ [w.getD k 0]:=by
   rw [List.take_add_one,List.getElem?_eq_getElem (show k < w.length by omega)]
   simp [List.getD_eq_getElem?_getD,List.getElem?_eq_getElem (show k < w.length by omega)]
  rw [e1,e2,aAO _ _ _ _ (by rw [List.length_take,List.length_take,List.length_map,vU]; omega),← aCv hw k (by omega)]
  rfl
theorem aCE {x y B C:Int} (hx:-B ≤ x ∧ x ≤ B) (hy:-C ≤ y ∧ y ≤ C):-(B * C) ≤ x * y ∧ x * y ≤ B * C:=by
 have h1:x.natAbs * y.natAbs ≤ B.toNat * C.toNat:=Nat.mul_le_mul (by omega) (by omega)
 have h2:(x * y).natAbs ≤ B.toNat * C.toNat:=by rw [Int.natAbs_mul]; exact h1
 have h3:((B.toNat * C.toNat:Nat):Int) = B * C:=by
  rw [Int.natCast_mul,show ((B.toNat:Nat):Int) = B by omega,show ((C.toNat:Nat):Int) = C by omega]
 omega
theorem aGj {f:bF} {w:List Int} (h:vg f w f.Graph.aC.length = true) {v:Nat} (hv:(v:Int) < f.Graph.aH):force f w (v:Int) = (jf f w (2 * v) f.Graph.aC.length,jf f w (2 * v + 1) f.Graph.aC.length):=by
 have hV:=Yg h
 have H:=hV.fr
 have hl:=hV.len
 have hlen:=H.len
 have key:∀ k,k ≤ f.Graph.aC.length → iter (DF f w (v:Int)) k (0,0) = (jf f w (2 * v) k,jf f w (2 * v + 1) k) ∧ (-(80000000000 * (k:Int)) ≤ jf f w (2 * v) k ∧ jf f w (2 * v) k ≤ 80000000000 * (k:Int)) ∧ (-(80000000000 * (k:Int)) ≤ jf f w (2 * v + 1) k ∧ jf f w (2 * v + 1) k ≤ 80000000000 * (k:Int)):=by
  intro k
  induction k with
  | zero => exact fun _ => ⟨rfl,by simp [jf],by simp [jf]⟩
  | succ k ih =>
   intro hk
   obtain ⟨i1,i2,i3⟩:=ih (by omega)
   have hx:f.Graph.aC[k]? = some (f.Graph.aC[k]'(by omega)):=List.getElem?_eq_getElem (by omega)
   have hc:w[k]? = some (w[k]'(by omega)):=List.getElem?_eq_getElem (by omega)
   have hcs:=hV.sm hc
   have hwk:w.getD k 0 = w[k]'(by omega):=by rw [List.getD_eq_getElem?_getD,hc]; rfl
   have hrow:(iG f).getD k [] = rowOf f (f.Graph.aC[k]'(by omega)):=by
    unfold iG
    rw [List.getD_eq_getElem?_getD,List.getElem?_map,hx]
    rfl
   have hpos:=ET H hx
   have a0:=H.g.a0 hx
   have ab:=H.g.ab hx
   have bp:=H.g.bp hx
   have hpl:=H.tY
   generalize f.Graph.aC[k]'(by omega) = x at hx hrow hpos a0 ab bp
   generalize w[k]'(by omega) = c at hc hcs hwk
   have grid:∀ u:Int,0 ≤ u → u < f.Graph.aH → 0 ≤ (dD f u).X ∧ (dD f u).X ≤ 4 ∧ 0 ≤ (dD f u).Y ∧ (dD f u).Y ≤ 4:=fun u u0 u1 => by
    have hu:f.Places[u.toNat]? = some (f.Places[u.toNat]'(by omega)):=List.getElem?_eq_getElem (by omega)
    have:=H.grid hu
    unfold dD
    rw [hu]
    exact this
   have gA:=grid x.A a0 (by omega)
   have gB:=grid x.B (by omega) bp
   have gv:=grid (v:Int) (by omega) hv
   obtain ⟨r1,r2,r3,r4⟩:=aDF (dx:=(dD f x.A).X - (dD f x.B).X) (dy:=(dD f x.A).Y - (dD f x.B).Y) hpos.1 hpos.2
   have step:DF f w (v:Int) k (jf f w (2 * v) k,jf f w (2 * v + 1) k) = (jf f w (2 * v) (k + 1),jf f w (2 * v + 1) (k + 1)) ∧ (-(80000000000 * ((k + 1:Nat):Int)) ≤ jf f w (2 * v) (k + 1) ∧ jf f w (2 * v) (k + 1) ≤ 80000000000 * ((k + 1:Nat):Int)) ∧ (-(80000000000 * ((k + 1:Nat):Int)) ≤ jf f w (2 * v + 1) (k + 1) ∧ jf f w (2 * v + 1) (k + 1) ≤ 80000000000 * ((k + 1:Nat):Int)):=by
    have p1:jf f w (2 * v) (k + 1) = jf f w (2 * v) k + (rowOf f x).getD (2 * v) 0 * c:=by rw [jf,hrow,hwk]
    have p2:jf f w (2 * v + 1) (k + 1) = jf f w (2 * v + 1) k + (rowOf f x).getD (2 * v + 1) 0 * c:=by rw [jf,hrow,hwk]
    rw [p1,p2]
    unfold DF
    rw [hx,hc]
    simp only
    have fin:∀ (dx dy:Int),(-4 ≤ dx ∧ dx ≤ 4) → (-4 ≤ dy ∧ dy ≤ 4) → (rowOf f x).getD (2 * v) 0 = dx → (rowOf f x).getD (2 * v + 1) 0 = dy → (aB (jf f w (2 * v) k + aB (c * aB dx)),aB (jf f w (2 * v + 1) k + aB (c * aB dy))) = (jf f w (2 * v) k + (rowOf f x).getD (2 * v) 0 * c,jf f w (2 * v + 1) k + (rowOf f x).getD (2 * v + 1) 0 * c) ∧ (-(80000000000 * ((k + 1:Nat):Int)) ≤ jf f w (2 * v) k + (rowOf f x).getD (2 * v) 0 * c ∧ jf f w (2 * v) k + (rowOf f x).getD (2 * v) 0 * c ≤ 80000000000 * ((k + 1:Nat):Int)) ∧ (-(80000000000 * ((k + 1:Nat):Int)) ≤ jf f w (2 * v + 1) k + (rowOf f x).getD (2 * v + 1) 0 * c ∧ jf f w (2 * v + 1) k + (rowOf f x).getD (2 * v + 1) 0 * c ≤ 80000000000 * ((k + 1:Nat):Int)):=fun dx dy hdx hdy e1 e2 => by
     have m1:=aCE hcs hdx
     have m2:=aCE hcs hdy
     rw [e1,e2,Int.mul_comm dx,Int.mul_comm dy,gZ (n:=dx) (by omega) (by omega),gZ (n:=dy) (by omega) (by omega)]
     generalize c * dx = t1 at m1
     generalize c * dy = t2 at m2
     rw [gZ (n:=t1) (by omega) (by omega),gZ (n:=t2) (by omega) (by omega),gZ (by omega) (by omega),gZ (by omega) (by omega)]
     exact ⟨rfl,by omega,by omega⟩
    by_cases hA:x.A = (v:Int)
    ·rw [beq_iff_eq.2 hA,Bool.true_or,cond_true]
     have e:nY x (v:Int) = x.B:=by unfold nY; rw [beq_iff_eq.2 hA]; rfl
     rw [e]
     refine fin _ _ (by omega) (by omega) ?_ ?_
     ·show (sQ _ _ _ _ _).getD _ 0 = _
      rw [show 2 * v = 2 * x.A.toNat by omega,r1,hA]
     ·show (sQ _ _ _ _ _).getD _ 0 = _
      rw [show 2 * v + 1 = 2 * x.A.toNat + 1 by omega,r2,hA]
    ·by_cases hB:x.B = (v:Int)
     ·rw [beq_iff_eq.2 hB,Bool.or_true,cond_true]
      have e:nY x (v:Int) = x.A:=by unfold nY; rw [beq_eq_false_iff_ne.2 hA]; rfl
      rw [e]
      refine fin _ _ (by omega) (by omega) ?_ ?_
      ·show (sQ _ _ _ _ _).getD _ 0 = _
       rw [show 2 * v = 2 * x.B.toNat by omega,r3,hB]
       omega
      ·show (sQ _ _ _ _ _).getD _ 0 = _
       rw [show 2 * v + 1 = 2 * x.B.toNat + 1 by omega,r4,hB]
       omega
     ·rw [beq_eq_false_iff_ne.2 hA,beq_eq_false_iff_ne.2 hB]
      have z1:(rowOf f x).getD (2 * v) 0 = 0:=YG (by omega) (by omega) (by omega) (by omega)
      have z2:(rowOf f x).getD (2 * v + 1) 0 = 0:=YG (by omega) (by omega) (by omega) (by omega)
      rw [z1,z2]
      simp only [Bool.or_self,cond_false,Int.zero_mul,Int.add_zero,true_and]
      omega
   refine ⟨?_,step.2⟩
   show DF f w (v:Int) k (iter (DF f w (v:Int)) k (0,0)) = _
   rw [i1]
   exact step.1
 exact (key _ (Nat.le_refl _)).1
theorem aLU {f:bF} {w:List Int} (h:w ∈ xq f):vF f = true ∧ vg f w f.Graph.aC.length = true ∧ (∀ c,c < nC f → jf f w c f.Graph.aC.length = 0) ∧ ∃ k:Nat,w.getD k 0 ≠ 0:=by
 obtain ⟨hv,hN⟩:=UJ h
 have H:=qG hv
 have hl:=H.len
 obtain ⟨hT,hR⟩:=P5 f hv
 have NE:=Bf H
 unfold xq at h
 cases hb:decide (0 < f.Graph.aC.length) with
 | false => rw [hv,hb] at h; cases h
 | true =>
  rw [hv,hb] at h
  have h:w ∈ yj f.Graph.aC.length (turned (nC f) (iG f)):=h
  refine ⟨hv,?_,fun c hc => ?_,?_⟩
  ·unfold vg GY
   have:(List.range' 0 w.length).any (ql w fun x => !EC x) = false:=Af.2 fun k _ hk => by
    have hk':k < w.length:=by omega
    have hx:=List.getElem?_eq_getElem hk'
    have Vr:=hN.bnd k
    rw [List.getD_eq_getElem?_getD,hx] at Vr
    simp only [Option.getD_some] at Vr
    unfold BB at Vr
    unfold ql
    rw [hx]
    simp only [EC,Bool.not_eq_false',Bool.and_eq_true,decide_eq_true_eq]
    omega
   rw [this,hv,hN.len]
   simp
  ·rw [aCv hN.len _ (Nat.le_refl _),List.take_of_length_le (by rw [List.length_map,vU]; exact Nat.le_refl _),List.take_of_length_le (by rw [hN.len]; exact Nat.le_refl _)]
   have:=aKC (x:=(turned (nC f) (iG f)).getD c []) (by omega) (by rw [sS]; omega) hR hT h (VY (by rw [sS]; exact hc))
   rw [Ky hc] at this
   exact this
  ·obtain ⟨g,hg,hw⟩:=(F9 _).1 h
   have hF:=Hg (by omega) (by rw [sS]; omega) hR hT
   unfold xY at hw
   split at hw
   ·cases hw
   ·rw [List.mem_singleton] at hw
    refine ⟨g,?_⟩
    rw [hw]
    intro e
    have:=(KT _ _).1 e
    rw [gV _ hg] at this
    unfold nval at this
    rw [if_pos rfl] at this
    exact hF.nz this
theorem aNP {n:Nat} {V W:List (List Int)} (h:V.Sublist W):ku n W → ∀ pre:List (List Int),ku n pre → Zo n (pre ++ V) → Zo n (pre ++ W):=by
 induction h with
 | slnil => exact fun _ pre _ h => h
 | cons a h ih =>
  intro hW pre hp hz
  exact Zo.front (hW a List.mem_cons_self) hp (Zo.cons (ih (fun x hx => hW x (List.mem_cons_of_mem _ hx)) pre hp hz))
 | cons_cons a h ih =>
  intro hW pre hp hz
  have:=ih (fun x hx => hW x (List.mem_cons_of_mem _ hx)) (pre ++ [a]) (fun x hx => by
   rcases List.mem_append.1 hx with hx | hx
   ·exact hp x hx
   ·rw [List.mem_singleton.1 hx]; exact hW a List.mem_cons_self) (by rw [List.append_assoc]; exact hz)
  rwa [List.append_assoc] at this
theorem aBf {n:Nat}:∀ {V:List (List Int)},ku n V → ¬ Zo n V → V.Nodup
 | [],_,_ => List.nodup_nil
 | v :: V,hV,h => List.nodup_cons.2 ⟨fun hm => h (Go.Mx.Sp.mem hV.tail hm).2,aBf hV.tail fun hz => h hz.cons⟩
theorem aCJ {α β:Type} {f:α → β}:∀ {L:List α},(L.map f).Nodup → L.Nodup
 | [],_ => List.nodup_nil
 | x :: L,h => by
  rw [List.map_cons] at h
  obtain ⟨h1,h2⟩:=List.nodup_cons.1 h
  exact List.nodup_cons.2 ⟨fun hx => h1 (List.mem_map.2 ⟨x,hx,rfl⟩),aCJ h2⟩
theorem of_map {α β:Type} {f:α → β} {L:List α}:∀ V:List β,(∀ v ∈ V,v ∈ L.map f) → ∃ K:List α,K.map f = V ∧ ∀ x ∈ K,x ∈ L
 | [],_ => ⟨[],rfl,fun x hx => by cases hx⟩
 | v :: V,h => by
  obtain ⟨K,h1,h2⟩:=of_map V fun x hx => h x (List.mem_cons_of_mem _ hx)
  obtain ⟨x,hx,e⟩:=List.mem_map.1 (h v List.mem_cons_self)
  refine ⟨x :: K,by rw [List.map_cons,h1,e],fun y hy => ?_⟩
  rcases List.mem_cons.1 hy with rfl | hy
  ·exact hx
  ·exact h2 y hy
theorem aLs {f:bF} {i j:Nat} (hi:i < f.Graph.aH.toNat) (hj:j < f.Graph.aH.toNat) (hij:i ≠ j) (hd:(dD f (j:Int)).X ≠ (dD f (i:Int)).X ∨ (dD f (j:Int)).Y ≠ (dD f (i:Int)).Y) :
  ∃ e e':Nat,e / 2 = j ∧ (∀ k:Nat,k / 2 = j → k = e ∨ k = e') ∧ ∀ y:List Int,y.length = nC f → (∀ a b g,dot y (yv (nC f) (fun k => (dD f (k:Int)).X) (fun k => (dD f (k:Int)).Y) a b g) = 0) → (∀ k:Nat,k ≠ 2 * i → k ≠ 2 * i + 1 → k ≠ e → y.getD k 0 = 0) → ∀ k:Nat,y.getD k 0 = 0:=by
 have three:∀ e:Nat,e = 2 * j ∨ e = 2 * j + 1 → ∀ y:List Int,y.length = nC f → (∀ k:Nat,k ≠ 2 * i → k ≠ 2 * i + 1 → k ≠ e → y.getD k 0 = 0) → ∀ a b g,dot y (yv (nC f) (fun k => (dD f (k:Int)).X) (fun k => (dD f (k:Int)).Y) a b g) = y.getD (2 * i) 0 * (a - g * (dD f (i:Int)).Y) + y.getD (2 * i + 1) 0 * (b + g * (dD f (i:Int)).X) + y.getD e 0 * (if e % 2 = 0 then a - g * (dD f (j:Int)).Y else b + g * (dD f (j:Int)).X):=fun e he y hy hz a b g => by
  have hn:nC f = 2 * f.Graph.aH.toNat:=rfl
  rw [aGL hy (aNN ..) (show 2 * i < nC f by omega) (show 2 * i + 1 < nC f by omega) (show e < nC f by omega) (by omega) (by omega) (by omega) hz,Yy (by omega),Yy (by omega),Yy (by omega),if_pos (by omega),if_neg (by omega),show e / 2 = j by omega,show 2 * i / 2 = i by omega,show (2 * i + 1) / 2 = i by omega]
 rcases hd with hX | hY
 ·refine ⟨2 * j + 1,2 * j,by omega,by omega,fun y hy hk hz => ?_⟩
  have t:=three (2 * j + 1) (.inr rfl) y hy hz
  have t1:=t 1 0 0
  have t2:=t 0 1 0
  have t3:=t 0 0 1
  rw [hk,if_neg (by omega)] at t1 t2 t3
  have e0:y.getD (2 * i) 0 = 0:=by omega
  have e1:y.getD (2 * i + 1) 0 = - y.getD (2 * j + 1) 0:=by omega
  rw [e0,e1] at t3
  have e2:y.getD (2 * j + 1) 0 * ((dD f (j:Int)).X - (dD f (i:Int)).X) = 0:=by grind
  have e3:y.getD (2 * j + 1) 0 = 0:=by
   rcases Int.mul_eq_zero.1 e2 with h | h
   ·exact h
   ·omega
  intro k
  by_cases c0:k = 2 * i
  ·rw [c0]; exact e0
  ·by_cases c1:k = 2 * i + 1
   ·rw [c1]; omega
   ·by_cases c2:k = 2 * j + 1
    ·rw [c2]; exact e3
    ·exact hz k c0 c1 c2
 ·refine ⟨2 * j,2 * j + 1,by omega,by omega,fun y hy hk hz => ?_⟩
  have t:=three (2 * j) (.inl rfl) y hy hz
  have t1:=t 1 0 0
  have t2:=t 0 1 0
  have t3:=t 0 0 1
  rw [hk,if_pos (by omega)] at t1 t2 t3
  have e1:y.getD (2 * i + 1) 0 = 0:=by omega
  have e0:y.getD (2 * i) 0 = - y.getD (2 * j) 0:=by omega
  rw [e0,e1] at t3
  have e2:y.getD (2 * j) 0 * ((dD f (i:Int)).Y - (dD f (j:Int)).Y) = 0:=by grind
  have e3:y.getD (2 * j) 0 = 0:=by
   rcases Int.mul_eq_zero.1 e2 with h | h
   ·exact h
   ·omega
  intro k
  by_cases c0:k = 2 * i
  ·rw [c0]; omega
  ·by_cases c1:k = 2 * i + 1
   ·rw [c1]; exact e1
   ·by_cases c2:k = 2 * j
    ·rw [c2]; exact e3
    ·exact hz k c0 c1 c2
theorem aBw (p:Nat → Bool):∀ n,((List.range n).filter p).length = Go.Sp.su (fun v => if p v then 1 else 0) n
 | 0 => rfl
 | n + 1 => by
  rw [List.range_succ,List.filter_append,List.length_append,aBw p n]
  show _ = Go.Sp.su _ n + (if p n then 1 else 0)
  cases hp:p n <;> simp [hp]
theorem aCf:∀ l:List Nat,(l.flatMap fun v => [2 * v,2 * v + 1]).length = 2 * l.length
 | [] => rfl
 | v :: l => by
  rw [List.flatMap_cons,List.length_append,aCf l]
  simp
  omega
theorem aFF {f:bF} (hv:vF f = true) {K:List aW} (hK:∀ b ∈ K,b ∈ f.Graph.aC) (hi:¬ Zo (nC f) (K.map (rowOf f))) {X:Nat → Bool} (hX:∀ b ∈ K,X b.A.toNat = true ∧ X b.B.toNat = true) (h0:0 < K.length):K.length + 3 ≤ 2 * Go.Sp.size X:=by
 have H:=qG hv
 have p6:=H.p6
 have hn:nC f = 2 * f.Graph.aH.toNat:=rfl
 obtain ⟨b,hb⟩:∃ b,b ∈ K:=by
  cases K with
  | nil => cases h0
  | cons b K => exact ⟨b,List.mem_cons_self⟩
 obtain ⟨k,hk⟩:=Si (f:=f) (hK b hb)
 have a0:=H.g.a0 hk
 have ab:=H.g.ab hk
 have bp:=H.g.bp hk
 have Me:=H.dif hk
 have hd:(dD f (b.B.toNat:Int)).X ≠ (dD f (b.A.toNat:Int)).X ∨ (dD f (b.B.toNat:Int)).Y ≠ (dD f (b.A.toNat:Int)).Y:=by
  rw [show ((b.B.toNat:Nat):Int) = b.B by omega,show ((b.A.toNat:Nat):Int) = b.A by omega]
  apply Classical.byContradiction
  intro hn
  have e1:(dD f b.B).X = (dD f b.A).X:=Classical.byContradiction fun h => hn (.inl h)
  have e2:(dD f b.B).Y = (dD f b.A).Y:=Classical.byContradiction fun h => hn (.inr h)
  rw [MG.2 ⟨e1.symm,e2.symm⟩] at Me
  cases Me
 obtain ⟨e,e',Q7,hee,aHm⟩:=aLs (f:=f) (i:=b.A.toNat) (j:=b.B.toNat) (by omega) (by omega) (by omega) hd
 obtain ⟨xa,xb⟩:=hX b hb
 apply Classical.byContradiction
 intro hgt
 have hP:∀ v:Nat,v = b.A.toNat ∨ v = b.B.toNat ∨ v ≠ b.A.toNat ∧ v ≠ b.B.toNat:=fun v => by omega
 refine hi (TA (e' :: ((List.range 8).filter fun v => X v && (decide (v ≠ b.A.toNat) && decide (v ≠ b.B.toNat))).flatMap fun v => [2 * v,2 * v + 1])
  (fun y => y.length = nC f ∧ (∀ k:Nat,X (k / 2) = false → y.getD k 0 = 0) ∧ ∀ a b g,dot y (yv (nC f) (fun k => (dD f (k:Int)).X) (fun k => (dD f (k:Int)).Y) a b g) = 0)
  (fun y hy => hy.1) (fun u v y a b hu hv hy e => ⟨hy,fun k hk => by rw [e k,hu.2.1 k hk,hv.2.1 k hk]; omega,fun a' b' g' => by
   rw [HY a b u v y _ (by omega) (by omega) e,hu.2.2,hv.2.2]; omega⟩) (fun y hy hc => aHm y hy.1 hy.2.2 fun k k0 k1 k2 => ?_) (K.map (rowOf f)) (fun v hv => ?_) ?_)
 ·by_cases hkn:k < nC f
  ·cases hx:X (k / 2) with
   | false => exact hy.2.1 k hx
   | true =>
    by_cases hj:k / 2 = b.B.toNat
    ·rcases hee k hj with h | h
     ·exact absurd h k2
     ·exact hc k (by rw [h]; exact List.mem_cons_self)
    ·refine hc k (List.mem_cons_of_mem _ (List.mem_flatMap.2 ⟨k / 2,List.mem_filter.2 ⟨List.mem_range.2 (by omega),?_⟩,?_⟩))
     ·rw [hx,decide_eq_true (show k / 2 ≠ b.A.toNat by omega),decide_eq_true hj]
      rfl
     ·simp only [List.mem_cons,List.not_mem_nil,or_false]
      omega
  ·exact jA (by rw [hy.1]; omega)
 ·obtain ⟨x,hx,rfl⟩:=List.mem_map.1 hv
  obtain ⟨q,hq⟩:=Si (f:=f) (hK x hx)
  have hpos:=ET H hq
  obtain ⟨x1,x2⟩:=hX x hx
  have hr:rowOf f x ∈ iG f:=List.mem_map.2 ⟨x,hK x hx,rfl⟩
  refine ⟨(Pq H).len _ hr,fun k hk => ?_,(Pq H).kill _ hr⟩
  have hA:k / 2 ≠ x.A.toNat:=fun h => by rw [h,x1] at hk; cases hk
  have hB:k / 2 ≠ x.B.toNat:=fun h => by rw [h,x2] at hk; cases hk
  exact YG (by omega) (by omega) (by omega) (by omega)
 ·rw [List.length_cons,aCf,aBw,List.length_map]
  have s1:=Go.Sp.xu (f:=fun v => if (X v && (decide (v ≠ b.A.toNat) && decide (v ≠ b.B.toNat))) = true then 1 else 0) (g:=fun v => if (X v && decide (v ≠ b.B.toNat)) = true then 1 else 0) (j:=b.A.toNat) (c:=1) 8 (by omega) (by simp [xa]; omega) (fun i _ hne => by simp [hne])
  have s2:=Go.Sp.xu (f:=fun v => if (X v && decide (v ≠ b.B.toNat)) = true then 1 else 0) (g:=fun v => if X v = true then 1 else 0) (j:=b.B.toNat) (c:=1) 8 (by omega) (by simp [xb]) (fun i _ hne => by simp [hne])
  have s3:Go.Sp.size X = Go.Sp.su (fun v => if X v = true then 1 else 0) 8:=rfl
  omega
theorem aJz {K:List aW} (hn:K.Nodup) (hok:∀ x ∈ K,uI x) (i:Nat):mult K i ≤ 1:=by
 induction K with
 | nil => exact Nat.zero_le _
 | cons x K ih =>
  obtain ⟨h1,h2⟩:=List.nodup_cons.1 hn
  have ih:=ih h2 fun y hy => hok y (List.mem_cons_of_mem _ hy)
  show (if i = qM x then mult K i + 1 else mult K i) ≤ 1
  by_cases e:i = qM x
  ·rw [if_pos e]
   by_cases h0:mult K i = 0
   ·omega
   ·obtain ⟨y,hy,hc⟩:=Sl (L:=K) (i:=i) (by omega)
    have d1:=(hok x List.mem_cons_self).dm
    have d2:=(hok y (List.mem_cons_of_mem _ hy)).dm
    have o1:=hok x List.mem_cons_self
    have o2:=hok y (List.mem_cons_of_mem _ hy)
    rw [hc,e] at d2
    have q1:=o1.a0; have q2:=o1.b0; have q3:=o2.a0; have q4:=o2.b0
    have:y = x:=by
     cases x; cases y
     simp only at d1 d2 q1 q2 q3 q4
     congr 1 <;> omega
    exact absurd (this ▸ hy) h1
  ·rw [if_neg e]
   exact ih
theorem aKn {g:aj} (hv:vG g = true):rk g 2 3 = (pr g.aH g.aC:Int):=by
 unfold rk uo
 rw [hv]
 rfl
theorem aGl {f:bF} (hv:vF f = true):qp f ≤ rk f.Graph 2 3:=by
 have H:=qG hv
 have XB:vG f.Graph = true:=by
  unfold vF at hv
  simp only [Bool.and_eq_true] at hv
  exact hv.1.1.1.1.1
 obtain ⟨V,hV,hr⟩:=VX hv
 rw [aKn XB,hr,← hV.len]
 obtain ⟨K,Vh,Vg⟩:=of_map (f:=rowOf f) (L:=f.Graph.aC) V hV.mem
 have hok:∀ x ∈ K,uI x:=fun x hx => by
  obtain ⟨q,hq⟩:=Si (f:=f) (Vg x hx)
  have a0:=H.g.a0 hq
  have ab:=H.g.ab hq
  have bp:=H.g.bp hq
  have p8:=H.g.p8
  exact ⟨by omega,by omega,by omega,by omega,by omega⟩
 have hnd:K.Nodup:=by
  have:=aBf hV.all hV.ind
  rw [← Vh] at this
  exact aCJ this
 have hm1:=aJz hnd hok
 have key:=(aKa H.g.gb).mx (mult K) (fun i hi => by
  by_cases h0:mult K i = 0
  ·omega
  ·obtain ⟨x,hx,rfl⟩:=Sl (L:=K) (i:=i) (by omega)
   have:=aJy (Vg x hx)
   have:=hm1 (qM x)
   omega) ⟨fun X hX => ?_,aJx hok⟩
 ·rw [ZY hok] at key
  have:V.length = K.length:=by rw [← Vh,List.length_map]
  omega
 ·rw [UI hok,List.countP_eq_length_filter] at hX ⊢
  refine aFF hv (fun b hb => Vg b (List.mem_filter.1 hb).1) (fun hz => hV.ind ?_) (fun b hb => ?_) hX
  ·have:=aNP (n:=nC f) (V:=(K.filter fun x => X x.A.toNat && X x.B.toNat).map (rowOf f)) (W:=V) (by rw [← Vh]; exact List.filter_sublist.map _) hV.all [] (fun x hx => by cases hx)
   exact this hz
  ·have:=(List.mem_filter.1 hb).2
   simp only [Bool.and_eq_true] at this
   exact this
theorem aJs {f:bF} (hv:vF f = true):0 ≤ xU f:=by
 have:=aGl hv
 unfold xU
 rw [hv,cond_true]
 omega
section
def QT (g:aj) (K:List Int):List aW:=K.map fun e => (g.aC[e.toNat]?).getD ⟨0,0⟩
theorem aEt {n:Int}:∀ {K:List Int},K.Pairwise (fun a b => a < b) → K.filter (fun e => decide (e < n + 1)) = K.filter (fun e => decide (e < n)) ++ (bif lY K n then [n] else [])
 | [],_ => rfl
 | x :: K,h => by
  obtain ⟨h1,h2⟩:=List.pairwise_cons.1 h
  have ih:=aEt (n:=n) h2
  have hc:lY (x :: K) n = (x == n || lY K n):=rfl
  rw [hc]
  rcases Int.lt_trichotomy x n with hx | hx | hx
  ·rw [List.filter_cons_of_pos (by simp; omega),List.filter_cons_of_pos (by simp; omega),ih,show (x == n) = false from by simp; omega]
   rfl
  ·subst hx
   have e1:K.filter (fun e => decide (e < x + 1)) = []:=List.filter_eq_nil_iff.2 fun e he => by have:=h1 e he; simp; omega
   have e2:K.filter (fun e => decide (e < x)) = []:=List.filter_eq_nil_iff.2 fun e he => by have:=h1 e he; simp; omega
   rw [List.filter_cons_of_pos (by simp; omega),List.filter_cons_of_neg (by simp),e1,e2]
   simp
  ·have e1:K.filter (fun e => decide (e < n + 1)) = []:=List.filter_eq_nil_iff.2 fun e he => by have:=h1 e he; simp; omega
   have e2:K.filter (fun e => decide (e < n)) = []:=List.filter_eq_nil_iff.2 fun e he => by have:=h1 e he; simp; omega
   have e3:lY K n = false:=by
    cases hh:lY K n with
    | false => rfl
    | true => have:=h1 n (Q5.1 hh); omega
   rw [List.filter_cons_of_neg (by simp; omega),List.filter_cons_of_neg (by simp; omega),e1,e2,e3,show (x == n) = false from by simp; omega]
   rfl
theorem aEu {g:aj} {K:List Int} (hK:K.Pairwise fun a b => a < b) (h0:∀ e ∈ K,0 ≤ e):∀ n,n ≤ g.aC.length → pieces (fun k => match g.aC[k]? with | some x => bif lY K k then [x] else [] | none => []) n = QT g (K.filter fun e => decide (e < (n:Int)))
 | 0,_ => by
  have:K.filter (fun e => decide (e < ((0:Nat):Int))) = []:=List.filter_eq_nil_iff.2 fun e he => by have:=h0 e he; simp; omega
  rw [this]
  rfl
 | n + 1,hn => by
  have hx:=List.getElem?_eq_getElem (show n < g.aC.length by omega)
  have e:=aEt (n:=(n:Int)) hK
  have e':K.filter (fun e => decide (e < ((n + 1:Nat):Int))) = K.filter (fun e => decide (e < (n:Int) + 1)):=rfl
  show pieces _ n ++ (match g.aC[n]? with | some x => bif lY K n then [x] else [] | none => []) = _
  rw [aEu hK h0 n (by omega),e',e,hx]
  unfold QT
  rw [List.map_append]
  cases lY K (n:Int)
  ·rfl
  ·simp [hx]
theorem aKI {g:aj} {K:List Int} (hK:K.Pairwise fun a b => a < b) (h0:∀ e ∈ K,0 ≤ e ∧ e < (g.aC.length:Int)):(only g K).aC = QT g K:=by
 have:=aEu (g:=g) hK (fun e he => (h0 e he).1) g.aC.length (Nat.le_refl _)
 rw [List.filter_eq_self.2 fun e he => by have:=h0 e he; simp; omega] at this
 rw [← this]
 exact aCi _ fun k hk => by simp only [List.getElem?_eq_getElem hk]
theorem aEs (g:aj) (k l:Int):(acc g k l).Pairwise fun a b => a < b:=by
 unfold acc uo
 cases hv:vG g && ((decide (1 ≤ k) && decide (k ≤ 3)) && (decide (0 ≤ l) && decide (l ≤ 2 * k - 1))) with
 | false => exact List.Pairwise.nil
 | true =>
  simp only [Bool.and_eq_true,decide_eq_true_eq] at hv
  have hV:=ve hv.1
  have hP:=D5 hV.gb hv.2.1.1 hv.2.1.2 hv.2.2 g.aC.length (Nat.le_refl _)
  refine List.pairwise_iff_getElem.2 fun i j hi hj hij => ?_
  exact XO hP.inc (j - (i + 1)) i _ _ (List.getElem?_eq_getElem hi) (by rw [show i + 1 + (j - (i + 1)) = j by omega]; exact List.getElem?_eq_getElem hj)
theorem aKK {f:bF} (H:VF f) {i:Nat} {x y:aW} (hx:f.Graph.aC[i]? = some x):∀ {d:Nat},f.Graph.aC[i + 1 + d]? = some y → x.A < y.A ∨ x.A = y.A ∧ x.B < y.B:=fun {d} => by
 have one:∀ {j:Nat} {x y:aW},f.Graph.aC[j]? = some x → f.Graph.aC[j + 1]? = some y → x.A < y.A ∨ x.A = y.A ∧ x.B < y.B:=fun {j x y} h1 h2 => by
  have s:=H.g.srt h1 h2
  have d:=H.nod h1 h2
  have d2:¬ (x.A = y.A ∧ x.B = y.B):=fun e => by rw [MG.2 e] at d; cases d
  unfold sZ at s
  simp only [Bool.or_eq_false_iff,Bool.and_eq_false_iff,decide_eq_false_iff_not,beq_eq_false_iff_ne] at s
  omega
 induction d generalizing y with
 | zero => exact fun hy => one hx hy
 | succ d ih =>
  intro hy
  have hlt:=(List.getElem?_eq_some_iff.1 hy).1
  have hm:f.Graph.aC[i + 1 + d]? = some (f.Graph.aC[i + 1 + d]'(by omega)):=List.getElem?_eq_getElem (by omega)
  generalize f.Graph.aC[i + 1 + d]'(by omega) = z at hm
  have s1:=ih hm
  have s2:=one hm hy
  omega
section
variable {f:bF} (hv:vF f = true) {K:List Int} (hK:K.Pairwise fun a b => a < b) (hr:∀ e ∈ K,0 ≤ e ∧ e < (f.Graph.aC.length:Int))
include hv hK hr
omit hv in
theorem KI {i:Nat} {x:aW} (hx:(only f.Graph K).aC[i]? = some x):∃ e:Nat,K[i]? = some (e:Int) ∧ f.Graph.aC[e]? = some x:=by
 rw [aKI hK hr] at hx
 unfold QT at hx
 rw [List.getElem?_map] at hx
 cases hk:K[i]? with
 | none => rw [hk] at hx; cases hx
 | some e =>
  rw [hk] at hx
  injection hx with hx
  change (f.Graph.aC[e.toNat]?).getD ⟨0,0⟩ = x at hx
  obtain ⟨q0,q1⟩:=hr e (List.mem_of_getElem? hk)
  refine ⟨e.toNat,by rw [show ((e.toNat:Nat):Int) = e by omega],?_⟩
  have h:=List.getElem?_eq_getElem (show e.toNat < f.Graph.aC.length by omega)
  rw [h] at hx ⊢
  exact congrArg some hx
theorem aCb {i:Nat} {x y:aW} (hx:(only f.Graph K).aC[i]? = some x) (hy:(only f.Graph K).aC[i + 1]? = some y):x.A < y.A ∨ x.A = y.A ∧ x.B < y.B:=by
 obtain ⟨a,ha,hxa⟩:=KI hK hr hx
 obtain ⟨b,hb,hyb⟩:=KI hK hr hy
 have h1:=List.getElem?_eq_some_iff.1 ha
 have h2:=List.getElem?_eq_some_iff.1 hb
 obtain ⟨l1,e1⟩:=h1
 obtain ⟨l2,e2⟩:=h2
 have:=List.pairwise_iff_getElem.1 hK i (i + 1) l1 l2 (by omega)
 rw [e1,e2] at this
 exact aKK (qG hv) hxa (d:=b - (a + 1)) (by rw [show a + 1 + (b - (a + 1)) = b by omega]; exact hyb)
theorem aL9:vF ⟨only f.Graph K,f.Places⟩ = true:=by
 have H:=qG hv
 have hnd:K.Nodup:=hK.imp fun h => by omega
 have hl:=PU hnd hr
 have hKl:K.length ≤ f.Graph.aC.length:=by
  have:=sub_le K ((List.range f.Graph.aC.length).map Int.ofNat) hnd fun x hx => by
   obtain ⟨q0,q1⟩:=hr x hx
   exact List.mem_map.2 ⟨x.toNat,List.mem_range.2 (by omega),Int.toNat_of_nonneg q0⟩
  rw [List.length_map,List.length_range] at this
  exact this
 have p1:=H.g.p1
 have p6:=H.p6
 have hb:=H.len
 have hpl:=H.tY
 have hgr:(List.range' 0 f.Places.length).any (ql f.Places fun p => !wu p) = false:=by
  unfold vF at hv
  simp only [Bool.and_eq_true,Bool.not_eq_true'] at hv
  exact hv.1.2
 have h1:(List.range' 0 (only f.Graph K).aC.length).any (Cm (only f.Graph K)) = false:=Af.2 fun k _ hk => by
  have hx:=List.getElem?_eq_getElem (show k < (only f.Graph K).aC.length by omega)
  generalize (only f.Graph K).aC[k]'(by omega) = x at hx
  obtain ⟨e,_,he⟩:=KI hK hr hx
  have a0:=H.g.a0 he
  have ab:=H.g.ab he
  have bp:=H.g.bp he
  unfold Cm
  rw [hx]
  have e1:decide ((only f.Graph K).aH ≤ x.B) = false:=decide_eq_false (by show ¬ f.Graph.aH ≤ x.B; omega)
  simp only []
  rw [decide_eq_false (show ¬ x.A < 0 by omega),decide_eq_false (show ¬ x.B ≤ x.A by omega),e1]
  by_cases hk0:0 < k
  ·have hy:=List.getElem?_eq_getElem (show k - 1 < (only f.Graph K).aC.length by omega)
   generalize (only f.Graph K).aC[k - 1]'(by omega) = y at hy
   have:=aCb hv hK hr hy (show (only f.Graph K).aC[k - 1 + 1]? = some x by rw [show k - 1 + 1 = k by omega]; exact hx)
   rw [hy]
   unfold sZ
   simp only [Bool.false_or,Bool.and_eq_false_iff,Bool.or_eq_false_iff,decide_eq_false_iff_not,beq_eq_false_iff_ne]
   omega
  ·rw [decide_eq_false hk0]
   rfl
 have h2:(List.range' 0 (only f.Graph K).aC.length).any (yL ⟨only f.Graph K,f.Places⟩) = false:=Af.2 fun k _ hk => by
  have hx:=List.getElem?_eq_getElem (show k < (only f.Graph K).aC.length by omega)
  generalize (only f.Graph K).aC[k]'(by omega) = x at hx
  obtain ⟨e,_,he⟩:=KI hK hr hx
  unfold yL
  simp only []
  rw [hx]
  simp only []
  have hd:jZ [(dD ⟨only f.Graph K,f.Places⟩ x.A).X,(dD ⟨only f.Graph K,f.Places⟩ x.A).Y] [(dD ⟨only f.Graph K,f.Places⟩ x.B).X,(dD ⟨only f.Graph K,f.Places⟩ x.B).Y] = false:=H.dif he
  rw [hd,Bool.false_or]
  by_cases hk0:0 < k
  ·have hy:=List.getElem?_eq_getElem (show k - 1 < (only f.Graph K).aC.length by omega)
   generalize (only f.Graph K).aC[k - 1]'(by omega) = y at hy
   have:=aCb hv hK hr hy (show (only f.Graph K).aC[k - 1 + 1]? = some x by rw [show k - 1 + 1 = k by omega]; exact hx)
   rw [hy]
   simp only []
   cases he:jZ [y.A,y.B] [x.A,x.B] with
   | false => exact Bool.and_false _
   | true => have:=MG.1 he; omega
  ·rw [decide_eq_false hk0]
   rfl
 unfold vF vG
 simp only []
 rw [h1,h2,hgr]
 simp only [Bool.and_eq_true,Bool.not_eq_true',decide_eq_true_eq,decide_eq_false_iff_not,Bool.not_false,and_true]
 refine ⟨⟨⟨⟨⟨?_,?_⟩,?_⟩,?_⟩,?_⟩,?_⟩
 ·show 1 ≤ f.Graph.aH; omega
 ·show f.Graph.aH ≤ 8; omega
 ·omega
 ·show ¬ 6 < f.Graph.aH; omega
 ·show ((f.Places.length:Int) != f.Graph.aH) = false
  rw [hpl]
  simp
 ·omega
end
theorem aKm {g:aj} (hv:vG g = true):rk g 2 3 = ((acc g 2 3).length:Int):=by
 unfold rk acc uo
 rw [hv]
 rfl
theorem aLK {f:bF} (hv:vF f = true) (h:0 < xU f):(special f).2 = true:=by
 have H:=qG hv
 have ha:=Lh f.Graph 2 3
 have hK:=aEs f.Graph 2 3
 have XB:vG f.Graph = true:=by
  unfold vF at hv
  simp only [Bool.and_eq_true] at hv
  exact hv.1.1.1.1.1
 have hv':=aL9 hv hK ha.rng
 have H':=qG hv'
 have hl:=PU ha.nd ha.rng
 have aNY:=H'.len
 obtain ⟨V,hV,hfr⟩:=VX hv
 obtain ⟨V',hV',aNW⟩:=VX hv'
 have hle:(qp ⟨only f.Graph (acc f.Graph 2 3),f.Places⟩).toNat ≤ (qp f).toNat:=by
  have:=EN.le hV' hV hV'.ind fun v hvV => hV.span v (by
   obtain ⟨x,hx,rfl⟩:=List.mem_map.1 (hV'.mem v hvV)
   obtain ⟨i,hi⟩:=List.mem_iff_getElem?.1 hx
   obtain ⟨e,_,he⟩:=KI hK ha.rng hi
   exact List.mem_map.2 ⟨x,List.mem_of_getElem? he,rfl⟩)
  rw [hV'.len] at this
  exact this
 unfold xU at h
 rw [hv,cond_true,aKm XB] at h
 have NE:=Bf H'
 obtain ⟨hT,hR⟩:=P5 _ hv'
 have hcount:=aKA (by omega) (by rw [sS]; omega) hR hT
 have aA9:=aLq (D8 H')
 rw [vU] at aA9
 have hf0:qp ⟨only f.Graph (acc f.Graph 2 3),f.Places⟩ = ((iE (nC ⟨only f.Graph (acc f.Graph 2 3),f.Places⟩) (iG ⟨only f.Graph (acc f.Graph 2 3),f.Places⟩) (nC ⟨only f.Graph (acc f.Graph 2 3),f.Places⟩)).piv.length:Int):=by
  unfold qp
  rw [hv']
  rfl
 rw [aA9] at hcount
 have hlen:(jc f).length = (only f.Graph (acc f.Graph 2 3)).aC.length - (iE (nC ⟨only f.Graph (acc f.Graph 2 3),f.Places⟩) (iG ⟨only f.Graph (acc f.Graph 2 3),f.Places⟩) (nC ⟨only f.Graph (acc f.Graph 2 3),f.Places⟩)).piv.length:=by
  rw [← hcount]
  unfold jc xq
  have hp:decide (0 < (bF.mk (only f.Graph (acc f.Graph 2 3)) f.Places).Graph.aC.length) = true:=decide_eq_true (by show 0 < (only f.Graph (acc f.Graph 2 3)).aC.length; omega)
  rw [hv',hp]
  rfl
 unfold special
 rw [hv,decide_eq_false (by omega)]
 rfl
theorem aCw {f:bF} {w w':List Int} {c j:Nat} (h:∀ k,k ≠ j → w'.getD k 0 = w.getD k 0):∀ n,jf f w' c n = jf f w c n + if j < n then ((iG f).getD j []).getD c 0 * (w'.getD j 0 - w.getD j 0) else 0
 | 0 => by simp [jf]
 | n + 1 => by
  have ih:=aCw (f:=f) (c:=c) h n
  show jf f w' c n + _ = jf f w c n + _ + _
  rw [ih]
  by_cases hj:n = j
  ·subst hj
   rw [if_neg (by omega),if_pos (by omega),Int.mul_sub]
   omega
  ·rw [h n hj]
   by_cases hjn:j < n
   ·rw [if_pos hjn,if_pos (by omega)]; omega
   ·rw [if_neg hjn,if_neg (by omega)]; omega
theorem aCx {f:bF} {w:List Int} {c:Nat} (h:∀ k:Nat,w.getD k 0 = 0):∀ n,jf f w c n = 0
 | 0 => rfl
 | n + 1 => by
  show jf f w c n + _ = 0
  rw [aCx h n,h n]
  omega
theorem aDa {keep v:List Int} {j:Nat}:∀ n,spread keep v n j = 0 ∨ ∃ i,spread keep v n j = v.getD i 0
 | 0 => .inl rfl
 | n + 1 => by
  rw [spread]
  split
  ·exact .inr ⟨n,rfl⟩
  ·exact aDa n
theorem aLL {f:bF} (h:(special f).2 = true):Py f (special f).1 = true:=by
 unfold special at h ⊢
 cases hc:vF f && !decide ((jc f).length = 0) with
 | false => rw [hc] at h; cases h
 | true =>
  simp only [cond_true]
  simp only [Bool.and_eq_true,Bool.not_eq_true',decide_eq_false_iff_not] at hc
  obtain ⟨hv,hne⟩:=hc
  have H:=qG hv
  have ha:=Lh f.Graph 2 3
  have hK:=aEs f.Graph 2 3
  have hl:=PU ha.nd ha.rng
  have hm:(jc f).getD 0 [] ∈ jc f:=getD_mem (by omega)
  obtain ⟨hv',_,hz,_⟩:=aLU hm
  obtain ⟨_,hN⟩:=UJ hm
  have hNl:=hN.len
  rw [show (bF.mk (only f.Graph (acc f.Graph 2 3)) f.Places).Graph.aC.length = (acc f.Graph 2 3).length from hl] at hNl hz
  generalize (jc f).getD 0 [] = w at hm hz hN hNl
  have aBE:vg f (vec f.Graph.aC.length (spread (acc f.Graph 2 3) w (acc f.Graph 2 3).length)) f.Graph.aC.length = true:=by
   unfold vg GY
   have:(List.range' 0 (vec f.Graph.aC.length (spread (acc f.Graph 2 3) w (acc f.Graph 2 3).length)).length).any (ql (vec f.Graph.aC.length (spread (acc f.Graph 2 3) w (acc f.Graph 2 3).length)) fun x => !EC x) = false:=Af.2 fun k _ hk => by
    have hk':k < (vec f.Graph.aC.length (spread (acc f.Graph 2 3) w (acc f.Graph 2 3).length)).length:=by omega
    have hx:=List.getElem?_eq_getElem hk'
    have hg:=gV (spread (acc f.Graph 2 3) w (acc f.Graph 2 3).length) (show k < f.Graph.aC.length by rw [dO] at hk'; exact hk')
    rw [List.getD_eq_getElem?_getD,hx] at hg
    simp only [Option.getD_some] at hg
    unfold ql
    rw [hx]
    simp only []
    rw [hg]
    simp only [EC,Bool.not_eq_false',Bool.and_eq_true,decide_eq_true_eq]
    rcases aDa (keep:=acc f.Graph 2 3) (v:=w) (j:=k) (acc f.Graph 2 3).length with e | ⟨i,e⟩
    ·rw [e]; omega
    ·rw [e]
     have:=hN.bnd i
     unfold BB at this
     omega
   rw [this,hv,dO]
   simp
  have hsum:∀ c i,i ≤ (acc f.Graph 2 3).length → jf f (vec f.Graph.aC.length (spread (acc f.Graph 2 3) w i)) c f.Graph.aC.length = jf ⟨only f.Graph (acc f.Graph 2 3),f.Places⟩ w c i:=by
   intro c i
   induction i with
   | zero =>
    intro _
    refine aCx (fun k => ?_) _
    by_cases hk:k < f.Graph.aC.length
    ·rw [gV _ hk]; rfl
    ·exact jA (by rw [dO]; omega)
   | succ i ih =>
    intro hi
    have hx:=List.getElem?_eq_getElem (show i < (only f.Graph (acc f.Graph 2 3)).aC.length by omega)
    generalize hxe:(only f.Graph (acc f.Graph 2 3)).aC[i]'(by omega) = x at hx
    obtain ⟨e,he,hex⟩:=KI hK ha.rng hx
    have hen:=(List.getElem?_eq_some_iff.1 hex).1
    have hKe:(acc f.Graph 2 3).getD i 0 = (e:Int):=by rw [List.getD_eq_getElem?_getD,he]; rfl
    have hstep:=aCw (f:=f) (w:=vec f.Graph.aC.length (spread (acc f.Graph 2 3) w i)) (w':=vec f.Graph.aC.length (spread (acc f.Graph 2 3) w (i + 1))) (c:=c) (j:=e) (fun k hk => by
     by_cases hkn:k < f.Graph.aC.length
     ·rw [gV _ hkn,gV _ hkn,spread,if_neg (by omega)]
     ·rw [jA (by rw [dO]; omega),jA (by rw [dO]; omega)]) f.Graph.aC.length
    rw [hstep,ih (by omega),if_pos hen,gV _ hen,gV _ hen,spread,if_pos hKe,YS i fun q hq hqe => by
     have h1:=List.getElem?_eq_getElem (show q < (acc f.Graph 2 3).length by omega)
     rw [List.getD_eq_getElem?_getD,h1] at hqe
     have:(acc f.Graph 2 3)[q]? = (acc f.Graph 2 3)[i]?:=by rw [h1,he]; exact congrArg some hqe
     exact absurd this (Xo ha.nd hq (by omega))]
    show _ = jf _ w c i + _
    have r1:(iG f).getD e [] = rowOf f x:=by
     unfold iG
     rw [List.getD_eq_getElem?_getD,List.getElem?_map,hex]
     rfl
    have r2:(iG ⟨only f.Graph (acc f.Graph 2 3),f.Places⟩).getD i [] = rowOf f x:=by
     unfold iG
     rw [List.getD_eq_getElem?_getD,List.getElem?_map]
     show ((Option.map _ ((only f.Graph (acc f.Graph 2 3)).aC[i]?)).getD []) = _
     rw [hx]
     rfl
    rw [r1,r2,Int.sub_zero]
  unfold Py
  rw [aBE,Bool.true_and]
  have:(List.range' 0 f.Graph.aH.toNat).any (Gz f (vec f.Graph.aC.length (spread (acc f.Graph 2 3) w (acc f.Graph 2 3).length))) = false:=Af.2 fun k _ hk => by
   unfold Gz
   have hn:nC f = 2 * f.Graph.aH.toNat:=rfl
   have hn':nC ⟨only f.Graph (acc f.Graph 2 3),f.Places⟩ = 2 * f.Graph.aH.toNat:=rfl
   rw [aGj aBE (by omega),hsum _ _ (Nat.le_refl _),hsum _ _ (Nat.le_refl _),hz _ (by omega),hz _ (by omega)]
   rfl
  rw [this]
  rfl
end
theorem aGk {c:dH} (h:CO c):Ex (Jj c) fun r => CO r.2 ∧ FS r.1 ∧ 2 ≤ r.1.Places.length ∧ (r.1.Places.length:Int) = r.1.Graph.aH:=by
 unfold Jj
 refine (mF h 3).bind fun r1 h1 => Ex.bif (fun _ => ?_) (fun _ => Ex.bif (fun _ => ?_) (fun _ => ?_))
 ·refine (mF h1.1 5).bind fun r2 h2 => ?_
  have a:=h2.2.2 (by omega)
  have a0:=h2.2.1
  rw [gZ (by omega) (by omega)]
  refine (aDU h2.1 (by omega) (by omega) _).bind fun r3 h3 => (Xr h3.1 h3.2.1).bind fun r4 h4 => Ex.ret ⟨h4.1,h4.2.1,?_,by have:=h4.2.2.1; have:=h4.2.2.2; simp only; omega⟩
  have:=h4.2.2.1
  have:=h3.2.2.1
  simp only
  omega
 ·refine (mF h1.1 4).bind fun r2 h2 => ?_
  have a:=h2.2.2 (by omega)
  have a0:=h2.2.1
  rw [gZ (by omega) (by omega)]
  refine (Nv h2.1 (by omega) (by omega)).bind fun r3 h3 => (mF h3.1 _).bind fun r4 h4 => (mF h4.1 _).bind fun r5 h5 => ?_
  have hl:=h3.2.1.len
  rw [Ur r3.1 (by omega)]
  have hgi:GI (wG r3.1 r4.1 r5.1):=by
   by_cases h99:r3.1.aC.length ≤ 99
   ·exact aE4 h3.2.1 h99 _ _
   ·have:wG r3.1 r4.1 r5.1 = r3.1:=by
     unfold wG
     rw [decide_eq_false (show ¬ r3.1.aC.length < 24 by omega),Bool.and_false]
     rfl
    rw [this]
    exact h3.2.1
  simp only [Option.bind_some]
  refine (Xr h5.1 hgi).bind fun r6 h6 => Ex.ret ⟨h6.1,h6.2.1,?_,by have:=h6.2.2.1; have:=h6.2.2.2; simp only; omega⟩
  have:=h6.2.2.1
  have e:=Uo r3.1 r4.1 r5.1
  have:=h3.2.2
  simp only
  omega
 ·refine (mF h1.1 5).bind fun r2 h2 => ?_
  have a:=h2.2.2 (by omega)
  have a0:=h2.2.1
  rw [gZ (by omega) (by omega)]
  refine (Nv h2.1 (by omega) (by omega)).bind fun r3 h3 => (Xr h3.1 h3.2.1).bind fun r4 h4 => Ex.ret ⟨h4.1,h4.2.1,?_,by have:=h4.2.2.1; have:=h4.2.2.2; simp only; omega⟩
  have:=h4.2.2.1
  have:=h3.2.2
  simp only
  omega
theorem aE5 {c:dH} (h:CO c):Ex (Ji c) (fun r => CO r.2 ∧ FS r.1) ∨ (Ji c = none ∧ Ex (Ou c) fun r => CO r.2 ∧ FS r.1 ∧ vF r.1 = false):=by
 obtain ⟨r1,e1,h1⟩:=aGk h
 obtain ⟨r2,e2,h2⟩:=mF h1.1 14
 have hp:=h1.2.1.p
 have h2p:=h1.2.2.1
 unfold Ji Ou
 rw [e1,Option.bind_some,Option.bind_some,e2,Option.bind_some,Option.bind_some]
 cases c0:(r2.1 == 0) with
 | true =>
  left
  simp only [cond_true]
  refine Ex.bind (Q:=fun j => CO ⟨j.1,j.2.1,j.2.2.1⟩ ∧ j.2.2.2.length ≤ 8) ?_ fun j hj => Ex.ret ⟨hj.1,h1.2.1.b,hj.2⟩
  exact (Xw h2.1 _ (by simp)).bind fun r3 h3 => Ex.idx (by omega) (by omega) fun v _ => Ex.ret ⟨h3.1,by simp; omega⟩
 | false =>
  cases c1:(r2.1 == 1) with
  | true =>
   right
   refine ⟨rfl,?_⟩
   simp only [cond_true,cond_false]
   have s:slc r1.1.Places 1 (r1.1.Places.length:Int) = some ((r1.1.Places.take r1.1.Places.length).drop 1):=by
    unfold slc
    rw [if_pos (by omega)]
    rfl
   rw [s]
   refine ⟨_,rfl,h2.1,⟨h1.2.1.b,by simp; omega⟩,?_⟩
   have hb:(((((r1.1.Places.take r1.1.Places.length).drop (Int.toNat 1)).length:Int) != r1.1.Graph.aH)) = true:=by
    have:=h1.2.2.2
    simp only [bne_iff_ne,List.length_drop,List.length_take]
    omega
   unfold vF
   simp only []
   rw [hb]
   simp
  | false =>
   left
   exact ⟨_,rfl,h2.1,h1.2.1⟩
theorem aLG {c:dH} (h:CO c):Ex (Oy c) fun r => CO r.2 ∧ FS r.1:=by
 unfold Oy
 rcases aE5 h with ⟨r,e,hc,hF⟩ | ⟨e,r,e2,hc,hF,hv⟩
 ·rw [e]
  unfold Fw.alt
  simp only []
  have hb:=hF.b
  have hp:=hF.p
  rw [yY r.1 (by show _ ≤ _; omega) (by show _ ≤ _; omega),Option.bind_some]
  refine Ex.bind (Q:=fun j => CO ⟨j.2.1,j.2.2.1,j.2.2.2⟩) (Ex.bif (fun _ => (Xt hc 2).bind fun r8 h8 => Ex.ret h8) (fun _ => Ex.ret hc)) fun j hj => ?_
  refine Ex.bind (Q:=fun j => CO ⟨j.1,j.2.1,j.2.2.1⟩ ∧ j.2.2.2.2.1.length ≤ 200 ∧ j.2.2.2.2.2.length ≤ 8) (Ex.bif (fun _ => ?_) (fun _ => Ex.ret ⟨hj,hb,hp⟩)) fun j hj => Ex.ret ⟨hj.1,hj.2.1,hj.2.2⟩
  refine Ex.bind (Q:=fun b => CO ⟨b.1,b.2.1,b.2.2.1⟩ ∧ b.2.2.2.1.length ≤ 200 ∧ b.2.2.2.2.1.length ≤ 8) ?_ fun b hb => Ex.ret ⟨hb.1,hb.2.1,hb.2.2⟩
  refine xR (fun k s => s.1 = (k:Int) ∧ CO ⟨s.2.1,s.2.2.1,s.2.2.2.1⟩ ∧ s.2.2.2.2.length = r.1.Places.length) _ r.1.Places.length (by omega) ⟨rfl,hj,rfl⟩ (fun k s hk hI => ?_) (fun s hI => ?_)
  ·obtain ⟨i,b,ci,hh,l⟩:=s
   obtain ⟨rfl,hcc,hl⟩:=hI
   change l.length = _ at hl
   left
   have key:Ex (Jo r ((k:Int),b,ci,hh,l)) fun q => ∃ t,q = .inl t ∧ t.1 = ((k + 1:Nat):Int) ∧ CO ⟨t.2.1,t.2.2.1,t.2.2.2.1⟩ ∧ t.2.2.2.2.length = r.1.Places.length:=by
    unfold Jo
    rw [decide_eq_true (by simp only; omega),cond_true]
    refine (Xt hcc 3).bind fun CG h53 => ?_
    refine Ex.bind (Q:=fun j => CO ⟨j.1,j.2.1,j.2.2.1⟩ ∧ j.2.2.2.length = r.1.Places.length) (Ex.bif (fun _ => (mF h53 2).bind fun tq h59 => Ex.idx (by simp only; omega) (by simp only; omega) fun v _ => Ex.ret ⟨h59.1,by simp only [List.length_set]; exact hl⟩) (fun _ => Ex.ret ⟨h53,hl⟩)) fun j hj => Ex.ret ⟨_,rfl,?_,hj⟩
    simp only
    rw [gW (by omega)]
   obtain ⟨q,e,t,rfl,ht⟩:=key
   exact ⟨t,e,ht⟩
  ·obtain ⟨i,b,ci,hh,l⟩:=s
   obtain ⟨rfl,hcc,hl⟩:=hI
   change l.length = _ at hl
   refine ⟨(b,ci,hh,r.1.Graph.aC,l,r.1.Graph.aH),?_,hcc,hb,by simp only; omega⟩
   unfold Jo
   rw [decide_eq_false (by simp only; omega)]
   rfl
 ·rw [e,e2]
  have hb:=hF.b
  have hp:=hF.p
  unfold Fw.alt
  simp only [Option.bind_some]
  rw [yY r.1 (by show _ ≤ _; omega) (by show _ ≤ _; omega),hv]
  exact ⟨_,rfl,hc,hF⟩
theorem aKP {g:aj} {s:Int} (h:(tX g s).2 = true):(tX g s).1.Graph = g:=by
 unfold tX at h ⊢
 cases hc:vG g && (decide (0 ≤ s) && decide (s ≤ 65535)) && vF ⟨g,seeded g s⟩ with
 | false => rw [hc] at h; cases h
 | true => rfl
theorem aGp (g:aj) (s:Int) (h0:g.aC.length ≤ 1048576):∃ w,JO g s = some w ∧ IX g s = some w ∧ SM w.1.Graph.aC.length ∧ SM w.1.Places.length ∧ (w.2.2 = true → DI w.1 = true ∧ w.1.Graph = g):=by
 have hs:SM g.aC.length:=by show _ ≤ _; omega
 by_cases hr:0 ≤ s ∧ s ≤ 65535
 ·have key:=Ny (b:=Dj g) (b':=IY g) (s:=(s,1)) (s':=(s,1)) (fun k a b => a = b ∧ 0 ≤ a.1 ∧ a.1 ≤ 65535 ∧ a.2 = (k:Int) + 1)
   (fun a b => a = b ∧ ∀ r,a = .inr r → SM r.1.Graph.aC.length ∧ SM r.1.Places.length ∧ DI r.1 = true ∧ r.1.Graph = g) 20 (by omega) ⟨rfl,hr.1,hr.2,rfl⟩ (fun k a b hk hI => by
    obtain ⟨rfl,r1,r2,r3⟩:=hI
    obtain ⟨q1,q2⟩:=aCp g a.1 hs
    unfold Dj IY
    simp only [aCn g a.1 hs,aCo g a.1 hs,aAn _ q1 q2,aGo _ q1 q2,Xk,S9,yZ,Option.bind_some]
    rw [decide_eq_true (show a.2 ≤ 20 by omega),cond_true,decide_eq_true r1,decide_eq_true r2,cond_true]
    simp only [Bool.and_self,Option.bind_some,cond_true]
    cases hb:(bif (tX g a.1).2 then some (DI (tX g a.1).1) else some false:Option Bool) with
    | none => cases hc:(tX g a.1).2 <;> rw [hc] at hb <;> cases hb
    | some c =>
     cases c with
     | true => exact .inr ⟨_,_,rfl,rfl,rfl,fun r hr => by
       injection hr with hr
       subst hr
       cases hc:(tX g a.1).2 with
       | false => rw [hc] at hb; cases hb
       | true =>
        rw [hc] at hb
        injection hb with hb
        exact ⟨q1,q2,hb,aKP hc⟩⟩
     | false =>
      left
      refine ⟨_,_,rfl,rfl,rfl,(aCS (s:=a.1)).1,(aCS (s:=a.1)).2,?_⟩
      show aB (a.2 + 1) = _
      rw [gZ (by omega) (by omega)]
      omega) (fun a b hI => by
    obtain ⟨rfl,r1,r2,r3⟩:=hI
    refine ⟨.inl (),.inl (),?_,?_,rfl,fun r hr => by cases hr⟩
    ·unfold Dj
     rw [decide_eq_false (show ¬ a.2 ≤ 20 by omega)]
     rfl
    ·unfold IY
     rw [decide_eq_false (show ¬ a.2 ≤ 20 by omega)]
     rfl)
  obtain ⟨r,r',e1,e2,rfl,e3⟩:=key
  unfold JO IX
  rw [yD,decide_eq_true hr.1,decide_eq_true hr.2]
  simp only [Option.bind_some,Bool.and_self,Bool.not_true,cond_false,e1,e2]
  cases r with
  | inl u => exact ⟨_,rfl,rfl,Nat.zero_le _,Nat.zero_le _,fun h => by cases h⟩
  | inr r => exact ⟨_,rfl,rfl,(e3 r rfl).1,(e3 r rfl).2.1,fun _ => (e3 r rfl).2.2⟩
 ·have hf:(decide (0 ≤ s) && decide (s ≤ 65535)) = false:=by
   cases hx:decide (0 ≤ s) && decide (s ≤ 65535) with
   | false => rfl
   | true =>
    simp only [Bool.and_eq_true,decide_eq_true_eq] at hx
    exact absurd hx hr
  refine ⟨(⟨⟨0,[]⟩,[]⟩,0,false),?_,?_,Nat.zero_le _,Nat.zero_le _,fun h => by cases h⟩
  ·unfold JO
   have:bG (Dj g) BIG (s,1) = some (.inl ()):=by
    refine kX (fun _ => (s,1)) 0 (by omega) rfl (fun k hk => by omega) ?_
    unfold Dj
    simp only [yZ,hf,Option.bind_some]
    rfl
   rw [this]
   rfl
  ·unfold IX
   rw [yD,hf]
   rfl
theorem aJk (code:List Int):SQ code = some true:=by
 unfold SQ SS
 rw [Option.bind_some]
 by_cases hbig:(1048576:Int) < (code.length:Int)
 ·rw [decide_eq_true hbig]
  rfl
 ·rw [decide_eq_false hbig,cond_false]
  have draw:Ex (Oa code) FS:=by
   unfold Oa
   exact (Xj (code:=code) (by omega)).bind fun c hc => (aLG hc).bind fun r hr => Ex.ret hr.2
  obtain ⟨f,hf,Vf⟩:=draw
  obtain ⟨⟨g,s⟩,hg,hgb⟩:=aGO (code:=code) (by omega)
  change g.aC.length ≤ 300 at hgb
  obtain ⟨n,hn⟩:∃ n,JJ code = some n:=by
   have:Ex (JJ code) fun _ => True:=by
    unfold JJ
    exact (Xj (code:=code) (by omega)).bind fun c hc => (Xw hc _ (by simp)).bind fun r hr => Ex.ret trivial
   obtain ⟨n,e,_⟩:=this
   exact ⟨n,e⟩
  have f0:SM f.Graph.aC.length:=by have:=Vf.b; show _ ≤ _; omega
  have f1:SM f.Places.length:=by have:=Vf.p; show _ ≤ _; omega
  have g0:SM g.aC.length:=by show _ ≤ _; omega
  have dG:OY code = some (g,s):=by unfold OY; rw [hg]; rfl
  have dP:OZ code = some (g,s):=by unfold OZ; rw [hg]; rfl
  have hlen:(special f).1.length ≤ 200:=by
   have:=Vf.b
   unfold special
   cases vF f && !decide ((jc f).length = 0) with
   | false => exact Nat.zero_le _
   | true =>
    rw [cond_true]
    show (vec _ _).length ≤ _
    rw [dO]
    omega
  obtain ⟨w,w1,w2,w3,w4,w5⟩:=aGp g s (by omega)
  obtain ⟨p0,p1⟩:=aCp g s g0
  simp only [hf,Option.bind_some,aLI f f0 f1,aLJ f f0 f1,aB7 f f0 f1,bne_self_eq_false,cond_false,aKt (special f).1 (by omega),Bool.not_true,aJr f f0 f1,aLH f f0 f1,yY f f0 f1,aLR f (special f).1 f0 f1 (by show _ ≤ _; omega)]
  have hst:(bif (special f).2 then some (!Py f (special f).1) else some false:Option Bool) = some false:=by
   cases h:(special f).2 with
   | false => rfl
   | true => rw [aLL h]; rfl
  rw [hst]
  have hblk:(bif vF f then bif decide (xU f < 0) then some true else bif decide (0 < xU f) then bif !(special f).2 then some true else some false else some false else some false:Option Bool) = some false:=by
   cases hv:vF f with
   | false => rfl
   | true =>
    rw [cond_true,decide_eq_false (by have:=aJs hv; omega),cond_false]
    by_cases h:0 < xU f
    ·rw [decide_eq_true h,aLK hv h]
     rfl
    ·rw [decide_eq_false h]
     rfl
  rw [hblk]
  simp only [Option.bind_some,cond_false,dG,w1,w2,bne_self_eq_false,aAT w.1 w.1 w3 w4,(aAU w.1 w.1).2 rfl,Bool.not_true,aAn w.1 w3 w4,aAV w.1.Graph g w3]
  have hblk2:(bif w.2.2 then bif !DI w.1 then some true else some (!Ea w.1.Graph g) else some false:Option Bool) = some false:=by
   cases h:w.2.2 with
   | false => rfl
   | true =>
    obtain ⟨h1,h2⟩:=w5 h
    rw [h1,(aAW _ _).2 h2]
    rfl
  rw [hblk2]
  simp only [Option.bind_some,cond_false,dP,aCn g s g0,aCo g s g0,hn,beq_self_eq_true,cond_true,aAT _ (tX g s).1 p0 p1,(aAU (tX g s).1 (tX g s).1).2 rfl,Xk,S9]
end Go.Proofs.YtdmlaldifbmkpaaGreat
end
section
namespace Go.Fw
section
def wK (ops:Array Oper) (σ:Slots) (o:Oper):Option (Bool × Bool):=match o.guard with
 | none => none
 | some (j,want) => ((ops[j]?).bind (·.dst)).bind fun d => match lk σ d with
  | some (.s (.c (.pv (.sc (.bool c))))) => some (c,want)
  | some (.dM []) => some (!want,want)
  | _ => none
theorem gH {ops:Array Oper} {σ:Slots} {o:Oper} {c c0 want b:Bool} (hc:c = c0) (h:wK ops σ o = some (c,want)) (hb:b = (c0 == want)):iJ ops σ o b:=by
 subst hc hb
 unfold wK at h
 unfold iJ
 cases hg:o.guard with
 | none => rw [hg] at h; cases h
 | some p =>
  obtain ⟨j,wt⟩:=p
  rw [hg] at h
  dsimp only at h
  cases hd:(ops[j]?).bind (·.dst) with
  | none => rw [hd] at h; cases h
  | some d =>
   rw [hd] at h
   refine ⟨d,hd,?_⟩
   simp only [Option.bind_some] at h
   split at h
   ·rename_i cc hl; injection h with h; injection h with h1 h2; subst h1 h2; exact .inl ⟨cc,hl,rfl⟩
   ·rename_i hl; injection h with h; injection h with h1 h2; subst h1 h2; exact .inr ⟨hl,by cases wt <;> rfl⟩
   ·cases h
theorem gS {ops:Array Oper} {σ:Slots} {o:Oper} {c want b:Bool} (h:wK ops σ o = some (c,want)) (hb:b = (c == want)):iJ ops σ o b:=gH rfl h hb
abbrev FT (P:Program) {ρ:Type} (M:Option ρ) (f:FuncId) (args:List SV) (us:Mem) (rs:ρ → List SV) (jR:ρ → Mem) (X:List Nat):Prop:=∀ t,M = some t → Fn P f args us (vT (rs t)) (jR t) (keys us) X
section
variable {P:Program}
theorem FT.of (pn:List Nat) {f:FuncId} {fn:Func} {c:Code} {args:List SV} {us:Mem} {X:List Nat} {N:Nat} {ρ:Type} {M:Option ρ} {rs:ρ → List SV} {jR:ρ → Mem} (hf:P.funcs[f]? = some fn) (hN:fn.ntmps = N) (hb:fn.body = some c)
  (hs:args.length.ble N = true ∧ (fG (keys us) (pn ++ X) && mP X pn && fG pn (keys us)) = true)
  (h:∀ w0 U0 R0 g0,aA P ⟨w0,U0,R0,g0,N,pn⟩ [.code c] (Ah 0 args) us M (lU P fn.results.toList us X rs jR)):FT P M f args us rs jR X :=
 Fn.of hf hb hN (Nat.le_of_ble_eq_true hs.1) hs.2 h
theorem FT.F7 (pn:List Nat) {f:FuncId} {fn:Func} {c:Code} {args:List SV} {us:Mem} {X:List Nat} {N:Nat} {ρ:Type} {M:Option ρ} {rs:ρ → List SV} {jR:ρ → Mem} (hf:P.funcs[f]? = some fn) (hN:fn.ntmps = N) (hb:fn.body = some c)
  (hs:args.length.ble N = true ∧ (fG (keys us) (pn ++ X) && mP X pn && fG pn (keys us)) = true)
  (h:∀ w0 U0 R0 g0,(∀ b,U0 b → ∃ n ∈ keys us,(g0 n).has b) → aA P ⟨w0,U0,R0,g0,N,pn⟩ [.code c] (Ah 0 args) us M (lU P fn.results.toList us X rs jR)):FT P M f args us rs jR X :=
 Fn.F7 hf hb hN (Nat.le_of_ble_eq_true hs.1) hs.2 h
variable {C:Ctx} {σ:Slots} {m:Mem} {is:List It} {τ υ:Type} {M:Option τ} {K:τ → Post} {ops:Array Oper} {l:List Oper} {done:List Ct} {rest:List Oper} {o o':Oper}
theorem yc (c:CV) {x:Operand} {t e:TypeId} {n off:Nat} {cs:List CV} (ho:o.op = .load t x) (h:lV P t = some false) (hk:cs[off]? = some c:=by exact rfl):LT P o [(x,Cc (.pl n off))] [(n,.row e [cs])] (Cc c) [] [] []:=LT.Lm ho h hk
theorem bV (out:List CV) {x:Operand} {t e:TypeId} {n off s:Nat} {cs:List CV} (ho:o.op = .load t x) (h:lV P t = some true) (hi:(P.info? t).isSome = true) (hs:cO P t = s) (ho2:(cs.drop off).take s = out:=by exact rfl) (hl:out.length = s:=by exact rfl) :
  LT P o [(x,Cc (.pl n off))] [(n,.row e [cs])] (Ag out) [] [] []:=LT.aFG ho h (gm hi) hs ho2 hl
theorem qh (v:SV) (out:List CV) {t e:TypeId} {n off s:Nat} {x y:Operand} {cs:List CV} (ho:o.op = .store t x y) (hd:o.dst = none) (hi:(P.info? t).isSome = true) (hs:cO P t = s) (hl:(lT v).length = s:=by exact rfl) (hk:(off + s).ble cs.length = true:=by exact rfl)
  (hout:ow cs off (lT v) = out:=by exact rfl):LT P o [(x,Cc (.pl n off)),(y,.s v)] [(n,.row e [cs])] (.dM []) [(n,.row e [out])] [n] []:=LT.ZV ho hd (gm hi) hs hl (Nat.le_of_ble_eq_true hk) hout
theorem stA (v:List CV) {t e:TypeId} {n off s:Nat} {x y:Operand} {cs:List CV} (ho:o.op = .store t x y) (hd:o.dst = none) (hi:(P.info? t).isSome = true) (hs:cO P t = s) (hl:(lT (.agg v)).length = s:=by exact rfl) (hk:(off + s).ble cs.length = true:=by exact rfl)
  (hout:ow cs off (lT (.agg v)) = v:=by exact rfl):LT P o [(x,Cc (.pl n off)),(y,Ag v)] [(n,.row e [cs])] (.dM []) [(n,.row e [v])] [n] []:=LT.ZV ho hd (gm hi) hs hl (Nat.le_of_ble_eq_true hk) hout
theorem dK (c:CV) {x x':Operand} {t t' e:TypeId} {i n off d:Nat} {cs:List CV} (hf:qO P t i = some d) (ha:lV P t' = some false)
  (h:o.op = .fieldAddr t x i ∧ fD σ x (Cc (.pl n off)) ∧ iJ ops σ o true ∧ iF C.N o.dst = true ∧ o'.op = .load t' x' ∧ fD (fO σ o.dst (Cc (.pl n (off + d)))) x' (Cc (.pl n (off + d))) ∧ lk m n = some (.row e [cs]) ∧ iJ ops (fO σ o.dst (Cc (.pl n (off + d)))) o' true ∧ iF C.N o'.dst = true ∧ cs[off + d]? = some c)
  (k:aO P C ops rest is (fO (fO σ o.dst (Cc (.pl n (off + d)))) o'.dst (Cc c)) m M K):aO P C ops (o :: o' :: rest) is σ m M K :=
 have ⟨a,b,c1,d1,a2,b2,l,c2,d2,z⟩:=h
 aY (LT.gU a hf) b c1 d1 (bM (LT.Lm a2 ha z) b2 l c2 d2 k)
theorem kE (c:CV) {x x':Operand} {t t' e:TypeId} {i n off d:Nat} {cs:List CV} {cb c0 w1 w2:Bool} (hf:qO P t i = some d) (ha:lV P t' = some false) (hc:cb = c0)
  (h:o.op = .fieldAddr t x i ∧ fD σ x (Cc (.pl n off)) ∧ wK ops σ o = some (cb,w1) ∧ true = (c0 == w1) ∧ iF C.N o.dst = true ∧ o'.op = .load t' x' ∧ fD (fO σ o.dst (Cc (.pl n (off + d)))) x' (Cc (.pl n (off + d))) ∧ lk m n = some (.row e [cs]) ∧ wK ops (fO σ o.dst (Cc (.pl n (off + d)))) o' = some (cb,w2) ∧ true = (c0 == w2) ∧ iF C.N o'.dst = true ∧ cs[off + d]? = some c)
  (k:aO P C ops rest is (fO (fO σ o.dst (Cc (.pl n (off + d)))) o'.dst (Cc c)) m M K):aO P C ops (o :: o' :: rest) is σ m M K :=
 have ⟨a,b,c1,c2,d1,a2,b2,l,c3,c4,d2,z⟩:=h
 aY (LT.gU a hf) b (gH hc c1 c2) d1 (bM (LT.Lm a2 ha z) b2 l (gH hc c3 c4) d2 k)
theorem eH (c:CV) {x x':Operand} {t t' e:TypeId} {i n off d:Nat} {cs:List CV} (hf:qO P t i = some d) (ha:lV P t' = some false)
  (h:o.op = .fieldAddr t x i ∧ fD σ x (Cc (.pl n off)) ∧ iJ l.toArray σ o true ∧ iF C.N o.dst = true ∧ o'.op = .load t' x' ∧ fD (fO σ o.dst (Cc (.pl n (off + d)))) x' (Cc (.pl n (off + d))) ∧ lk m n = some (.row e [cs]) ∧ iJ l.toArray (fO σ o.dst (Cc (.pl n (off + d)))) o' true ∧ iF C.N o'.dst = true ∧ cs[off + d]? = some c)
  (k:aU P C l (⟨[(x',Cc (.pl n (off + d)))],[(n,.row e [cs])],Cc c,[],[],[],true⟩ :: ⟨[(x,Cc (.pl n off))],[],Cc (.pl n (off + d)),[],[],[],true⟩ :: done) rest is (fO (fO σ o.dst (Cc (.pl n (off + d)))) o'.dst (Cc c)) m M K):aU P C l done (o :: o' :: rest) is σ m M K :=
 have ⟨a,b,c1,d1,a2,b2,l,c2,d2,z⟩:=h
 bg (LT.gU a hf) b c1 d1 (gq (LT.Lm a2 ha z) b2 l c2 d2 k)
theorem oC (c:CV) {x x':Operand} {t t' e:TypeId} {i n off d:Nat} {cs:List CV} {cb c0 w1 w2:Bool} (hf:qO P t i = some d) (ha:lV P t' = some false) (hc:cb = c0)
  (h:o.op = .fieldAddr t x i ∧ fD σ x (Cc (.pl n off)) ∧ wK l.toArray σ o = some (cb,w1) ∧ true = (c0 == w1) ∧ iF C.N o.dst = true ∧ o'.op = .load t' x' ∧ fD (fO σ o.dst (Cc (.pl n (off + d)))) x' (Cc (.pl n (off + d))) ∧ lk m n = some (.row e [cs]) ∧ wK l.toArray (fO σ o.dst (Cc (.pl n (off + d)))) o' = some (cb,w2) ∧ true = (c0 == w2) ∧ iF C.N o'.dst = true ∧ cs[off + d]? = some c)
  (k:aU P C l (⟨[(x',Cc (.pl n (off + d)))],[(n,.row e [cs])],Cc c,[],[],[],true⟩ :: ⟨[(x,Cc (.pl n off))],[],Cc (.pl n (off + d)),[],[],[],true⟩ :: done) rest is (fO (fO σ o.dst (Cc (.pl n (off + d)))) o'.dst (Cc c)) m M K):aU P C l done (o :: o' :: rest) is σ m M K :=
 have ⟨a,b,c1,c2,d1,a2,b2,l,c3,c4,d2,z⟩:=h
 bg (LT.gU a hf) b (gH hc c1 c2) d1 (gq (LT.Lm a2 ha z) b2 l (gH hc c3 c4) d2 k)
theorem ay {j:Nat} {want:Bool} {d:Tmp} {c:Bool} (h:o.guard = some (j,want) ∧ (ops[j]?).bind (·.dst) = some d ∧ lk σ d = some (Bv c) ∧ (c == want) = false ∧ iF C.N o.dst = true) (k:aO P C ops rest is (fO σ o.dst (.dM [])) m M K):aO P C ops (o :: rest) is σ m M K:=Ok h.1 h.2.1 h.2.2.1 h.2.2.2.1 h.2.2.2.2 k
theorem aS {j:Nat} {want:Bool} {d:Tmp} {c c0:Bool} (hc:c = c0) (h:o.guard = some (j,want) ∧ (ops[j]?).bind (·.dst) = some d ∧ lk σ d = some (Bv c) ∧ (c0 == want) = false ∧ iF C.N o.dst = true) (k:aO P C ops rest is (fO σ o.dst (.dM [])) m M K):aO P C ops (o :: rest) is σ m M K:=Ok h.1 h.2.1 h.2.2.1 (hc ▸ h.2.2.2.1) h.2.2.2.2 k
theorem bH {c want:Bool} (h:wK l.toArray σ o = some (c,want) ∧ false = (c == want) ∧ iF C.N o.dst = true) (k:aU P C l (⟨[],[],.dM [],[],[],[],false⟩ :: done) rest is (fO σ o.dst (.dM [])) m M K):aU P C l done (o :: rest) is σ m M K:=aU.skip (gS h.1 h.2.1) h.2.2 k
theorem bI {c c0 want:Bool} (hc:c = c0) (h:wK l.toArray σ o = some (c,want) ∧ false = (c0 == want) ∧ iF C.N o.dst = true) (k:aU P C l (⟨[],[],.dM [],[],[],[],false⟩ :: done) rest is (fO σ o.dst (.dM [])) m M K):aU P C l done (o :: rest) is σ m M K:=aU.skip (gH hc h.1 h.2.1) h.2.2 k
theorem aG (v:AV) {x:Operand} (h:o.op = .move x ∧ fD σ x v ∧ iJ ops σ o true ∧ iF C.N o.dst = true) (k:aO P C ops rest is (fO σ o.dst v) m M K):aO P C ops (o :: rest) is σ m M K:=mv v h.1 h.2.1 h.2.2.1 h.2.2.2 k
theorem aI (v:AV) {x:Operand} (h:o.op = .assign x ∧ fD σ x v ∧ iJ ops σ o true ∧ iF C.N o.dst = true) (k:aO P C ops rest is (fO σ o.dst v) m M K):aO P C ops (o :: rest) is σ m M K:=asg v h.1 h.2.1 h.2.2.1 h.2.2.2 k
theorem eu (v:AV) {x:Operand} {c c0 w:Bool} (hc:c = c0) (h:o.op = .move x ∧ fD σ x v ∧ wK ops σ o = some (c,w) ∧ true = (c0 == w) ∧ iF C.N o.dst = true) (k:aO P C ops rest is (fO σ o.dst v) m M K):aO P C ops (o :: rest) is σ m M K:=mv v h.1 h.2.1 (gH hc h.2.2.1 h.2.2.2.1) h.2.2.2.2 k
theorem bJ (v:AV) {x:Operand} (h:o.op = .move x ∧ fD σ x v ∧ iJ l.toArray σ o true ∧ iF C.N o.dst = true) (k:aU P C l (⟨[(x,v)],[],v,[],[],[],true⟩ :: done) rest is (fO σ o.dst v) m M K):aU P C l done (o :: rest) is σ m M K:=bg (LT.move h.1) h.2.1 h.2.2.1 h.2.2.2 k
theorem nV (v:AV) {x:Operand} {c c0 w:Bool} (hc:c = c0) (h:o.op = .move x ∧ fD σ x v ∧ wK l.toArray σ o = some (c,w) ∧ true = (c0 == w) ∧ iF C.N o.dst = true) (k:aU P C l (⟨[(x,v)],[],v,[],[],[],true⟩ :: done) rest is (fO σ o.dst v) m M K):aU P C l done (o :: rest) is σ m M K:=bg (LT.move h.1) h.2.1 (gH hc h.2.2.1 h.2.2.2.1) h.2.2.2.2 k
theorem af {x0 x1:Operand} {v0 v1 v:AV} {A:Prop} (f:A → LT P o [(x0,v0),(x1,v1)] [] v [] [] []) (h:A ∧ fD σ x0 v0 ∧ fD σ x1 v1 ∧ iJ ops σ o true ∧ iF C.N o.dst = true) (k:aO P C ops rest is (fO σ o.dst v) m M K):aO P C ops (o :: rest) is σ m M K:=dY (f h.1) h.2.1 h.2.2.1 h.2.2.2.1 h.2.2.2.2 k
theorem iy {x0 x1:Operand} {v0 v1 v:AV} {A:Prop} {c c0 w:Bool} (f:A → LT P o [(x0,v0),(x1,v1)] [] v [] [] []) (hc:c = c0) (h:A ∧ fD σ x0 v0 ∧ fD σ x1 v1 ∧ wK ops σ o = some (c,w) ∧ true = (c0 == w) ∧ iF C.N o.dst = true) (k:aO P C ops rest is (fO σ o.dst v) m M K):aO P C ops (o :: rest) is σ m M K:=dY (f h.1) h.2.1 h.2.2.1 (gH hc h.2.2.2.1 h.2.2.2.2.1) h.2.2.2.2.2 k
theorem jJ {x0 x1:Operand} {v0 v1 v:AV} {A:Prop} (f:A → LT P o [(x0,v0),(x1,v1)] [] v [] [] []) (h:A ∧ fD σ x0 v0 ∧ fD σ x1 v1 ∧ iJ l.toArray σ o true ∧ iF C.N o.dst = true) (k:aU P C l (⟨[(x0,v0),(x1,v1)],[],v,[],[],[],true⟩ :: done) rest is (fO σ o.dst v) m M K):aU P C l done (o :: rest) is σ m M K:=dZ (f h.1) h.2.1 h.2.2.1 h.2.2.2.1 h.2.2.2.2 k
theorem oZ {x0 x1:Operand} {v0 v1 v:AV} {A:Prop} {c c0 w:Bool} (f:A → LT P o [(x0,v0),(x1,v1)] [] v [] [] []) (hc:c = c0) (h:A ∧ fD σ x0 v0 ∧ fD σ x1 v1 ∧ wK l.toArray σ o = some (c,w) ∧ true = (c0 == w) ∧ iF C.N o.dst = true) (k:aU P C l (⟨[(x0,v0),(x1,v1)],[],v,[],[],[],true⟩ :: done) rest is (fO σ o.dst v) m M K):aU P C l done (o :: rest) is σ m M K:=dZ (f h.1) h.2.1 h.2.2.1 (gH hc h.2.2.2.1 h.2.2.2.2.1) h.2.2.2.2.2 k
theorem dJ (v:AV) {c x y:Operand} {b:Bool} (hb:b = true) (h:o.op = .pick c x y ∧ fD σ c (Bv b) ∧ fD σ x v ∧ iJ ops σ o true ∧ iF C.N o.dst = true) (k:aO P C ops rest is (fO σ o.dst v) m M K):aO P C ops (o :: rest) is σ m M K:=dY (LT.qR h.1 hb) h.2.1 h.2.2.1 h.2.2.2.1 h.2.2.2.2 k
theorem eU (v:AV) {c x y:Operand} {b:Bool} (hb:b = false) (h:o.op = .pick c x y ∧ fD σ c (Bv b) ∧ fD σ y v ∧ iJ ops σ o true ∧ iF C.N o.dst = true) (k:aO P C ops rest is (fO σ o.dst v) m M K):aO P C ops (o :: rest) is σ m M K:=dY (LT.rC h.1 hb) h.2.1 h.2.2.1 h.2.2.2.1 h.2.2.2.2 k
theorem oJ (v:AV) {c x y:Operand} {b:Bool} (hb:b = true) (h:o.op = .pick c x y ∧ fD σ c (Bv b) ∧ fD σ x v ∧ iJ l.toArray σ o true ∧ iF C.N o.dst = true) (k:aU P C l (⟨[(c,Bv b),(x,v)],[],v,[],[],[],true⟩ :: done) rest is (fO σ o.dst v) m M K):aU P C l done (o :: rest) is σ m M K:=dZ (LT.qR h.1 hb) h.2.1 h.2.2.1 h.2.2.2.1 h.2.2.2.2 k
theorem o7 (v:AV) {c x y:Operand} {b:Bool} (hb:b = false) (h:o.op = .pick c x y ∧ fD σ c (Bv b) ∧ fD σ y v ∧ iJ l.toArray σ o true ∧ iF C.N o.dst = true) (k:aU P C l (⟨[(c,Bv b),(y,v)],[],v,[],[],[],true⟩ :: done) rest is (fO σ o.dst v) m M K):aU P C l done (o :: rest) is σ m M K:=dZ (LT.rC h.1 hb) h.2.1 h.2.2.1 h.2.2.2.1 h.2.2.2.2 k
theorem aX {t:τ} {σ':Slots} {m':Mem} (e:K t .normal σ m = (Exit.normal = Exit.normal ∧ aQ P C σ m σ' m')) (h1:Ae σ' σ) (h2:Ad m' m):aA P C [] σ m (some t) K:=aA.nil (by rw [e]; exact ⟨rfl,aQ.of h1 h2⟩)
theorem cF (xs:List SV) (sh:Mem) {cf:Operand} {f:FuncId} {os:Array Operand} {ts:Array TypeId} {ys:List SV} {us df:Mem} {v:AV} {W X:List Nat} (hf:Fn P f ys us v df W X) (hb:dL P f = true) (hsh:og sh xs ys) (hus:EP (keys sh) us)
  (h:o.op = .call { callee:=.value cf,args:=os,argTypes:=ts } ∧ os.size = xs.length ∧ (mP (keys sh) (W ++ X ++ keys us ++ keys df ++ []) && fG W (keys us)) = true):LT P o ((cf,Cc (.fn f [])) :: LV os.toList xs) (us ++ sh) v df W X:=LT.Ux hf h.1 hb hsh h.2.1 h.2.2 hus
theorem cZ (xs:List SV) {cf:Operand} {f:FuncId} {os:Array Operand} {ts:Array TypeId} {ys:List SV} {us df:Mem} {v:AV} {W X:List Nat} (hf:Fn P f ys us v df W X) (hb:dL P f = true) (hsh:og [] xs ys) (hus:EP (keys ([]:Mem)) us)
  (h:o.op = .call { callee:=.value cf,args:=os,argTypes:=ts } ∧ os.size = xs.length ∧ (mP (keys ([]:Mem)) (W ++ X ++ keys us ++ keys df ++ []) && fG W (keys us)) = true):LT P o ((cf,Cc (.fn f [])) :: LV os.toList xs) (us ++ []) v df W X:=LT.Ux hf h.1 hb hsh h.2.1 h.2.2 hus
theorem iL (n:Nat) (v:SV) {t:TypeId} {s:Nat} {x:Operand} (hs:cO P t = s) (h:o.op = .box t x ∧ (lT v).length = s ∧ fD σ x (.s v) ∧ iJ ops σ o true ∧ (iF C.N o.dst && fG [] ([n] ++ keys [(n,Ob.row t [(lT v).map (bY [n])])]) && fG [] (keys ([]:Mem)) && fG (keys [(n,Ob.row t [(lT v).map (bY [n])])]) ([n] ++ []) && mP [n] C.pn) = true)
  (k:aO P C ops rest is (fO (kM [n] σ) o.dst (Cc (.pl n 0))) ([(n,Ob.row t [(lT v).map (bY [n])])] ++ jK [n] m) M K):aO P C ops (o :: rest) is σ m M K :=
 nP (LT.box h.1 hs h.2.1) h.2.2.1 h.2.2.2.1 h.2.2.2.2 k
theorem eG (n:Nat) (cells:List CV) {t:TypeId} {s b:Nat} {z:Value} (ht:TI P t z s b) (h:o.op = .alloc t ∧ z.cells.toList.map sC = cells ∧ z.cells.toList.all (·.oneCell') = true ∧ cells.length = s ∧ iJ ops σ o true ∧ (iF C.N o.dst && fG [] ([n] ++ keys [(n,Ob.row t [cells.map (bY [n])])]) && fG [] (keys ([]:Mem)) && fG (keys [(n,Ob.row t [cells.map (bY [n])])]) ([n] ++ []) && mP [n] C.pn) = true)
  (k:aO P C ops rest is (fO (kM [n] σ) o.dst (Cc (.pl n 0))) ([(n,Ob.row t [cells.map (bY [n])])] ++ jK [n] m) M K):aO P C ops (o :: rest) is σ m M K :=
 l7 (LT.alloc h.1 ht h.2.1 h.2.2.1 h.2.2.2.1) h.2.2.2.2.1 h.2.2.2.2.2 k
theorem iO {α:Type} (n:Nat) (enc:α → List PV) (ps:Parts) (xs:List α) {t e:TypeId} {len:Nat} {parts:Array (Nat × Operand)} {z:Value} {s b:Nat} {zc:List CV} (he:P.underlying t = some (.slice e)) (hz:TI P e z s b)
  (h:o.op = .buildSlice t len parts ∧ parts.toList = Parts.ops ps ∧ z.cells.toList.map sC = zc ∧ z.cells.toList.all (·.oneCell') = true ∧ zc.length = s ∧ xs.length = len ∧ Eb (fun i => some (i * s,s)) ((List.range (len * s)).map fun i => zc.getD (i % s) .junk) (Parts.vals ps) = some (iT (xs.map enc)).flatten)
  (hel:∀ a,(enc a).length = s:=by exact fun _ => rfl) (hmax:len * s ≤ 16777216 ∧ 0 < s:=by decide):LT P o (Parts.ins ps) [] (Cc (.loc n 0 xs.length)) [(n,.dF e (xs.map enc))] [] [n] :=
 LT.aLe ps xs h.1 h.2.1 he hz h.2.2.1 h.2.2.2.1 h.2.2.2.2.1 h.2.2.2.2.2.1 hmax hel h.2.2.2.2.2.2
theorem gy (v:SV) {x:Operand} {k:Nat} {vs:List SV} (h:o.op = .extract x k ∧ fD σ x (.dM vs) ∧ vs[k]? = some v ∧ iJ ops σ o true ∧ iF C.N o.dst = true) (k:aO P C ops rest is (fO σ o.dst (.s v)) m M K):aO P C ops (o :: rest) is σ m M K:=aY (LT.extract h.1 h.2.2.1) h.2.1 h.2.2.2.1 h.2.2.2.2 k
theorem exD (v:SV) {x:Operand} {k:Nat} {vs:List SV} (h:o.op = .extract x k ∧ fD σ x (.dM vs) ∧ vs[k]? = some v ∧ iJ l.toArray σ o true ∧ iF C.N o.dst = true) (k:aU P C l (⟨[(x,.dM vs)],[],.s v,[],[],[],true⟩ :: done) rest is (fO σ o.dst (.s v)) m M K):aU P C l done (o :: rest) is σ m M K:=bg (LT.extract h.1 h.2.2.1) h.2.1 h.2.2.2.1 h.2.2.2.2 k
theorem lH {x:Operand} {t:TypeId} {q:Bool} {cs:List PV} {s:Nat} (ho:o.op = .load t x) (h:lV P t = some true) (hi:(P.info? t).isSome = true) (hs:cO P t = s) (hl:cs.length = s:=by exact rfl):LT P o [(x,Cc (.px q cs))] [] (Ag (cs.map .pv)) [] [] []:=LT.aJq ho h (gm hi) (hl.trans hs.symm)
theorem kC {α:Type} {enc:α → List PV} (k:Nat) {x:Operand} {t e:TypeId} {n off:Nat} {i:Int} {xs:List α} {b:α} {p:PV} (ho:o.op = .load t x) (h:lV P t = some false) (hi:idx xs i = some b) (hk:(enc b)[k]? = some p:=by exact rfl)
  (ha:off = i.toNat * cO P e + k:=by exact rfl):LT P o [(x,Cc (.pl n off))] [(n,.dF e (xs.map enc))] (Cc (.pv p)) [] [] []:=LT.aLj ho h hi hk ha
theorem lq {α:Type} {enc:α → List PV} (k:Nat) (v:SV) (b':α) {t e:TypeId} {n off s:Nat} {x y:Operand} {i:Int} {xs:List α} {b:α} (ho:o.op = .store t x y) (hd:o.dst = none) (hit:(P.info? t).isSome = true) (hs:cO P t = s) (hi:idx xs i = some b)
  (hl:(lT v).length = s:=by exact rfl) (ha:off = i.toNat * cO P e + k:=by exact rfl) (hk:(k + s).ble (enc b).length = true:=by exact rfl) (hb:ow ((enc b).map .pv) k (lT v) = (enc b').map .pv:=by exact rfl) :
  LT P o [(x,Cc (.pl n off)),(y,.s v)] [(n,.dF e (xs.map enc))] (.dM []) [(n,.dF e ((xs.set i.toNat b').map enc))] [n] []:=LT.aDs ho hd (gm hit) hs hl hi ha (Nat.le_of_ble_eq_true hk) hb
theorem bP {ρ:Type} {res:List ResultVar} {us:Mem} {X:List Nat} {rs:ρ → List SV} {jR:ρ → Mem} {t:ρ} (h1:wE P σ m res (rs t)) (h2:pF m (jR t)) (h3:zF (rs t)) (h4:ER (jR t))
  (hs:(fG (keys us) (keys (jR t)) && fG X (keys (jR t)) && okA (keys us ++ X) (vT (rs t)) && (jR t).all (fun p => (keys us ++ X).elem p.1 && okO (keys us ++ X) p.2)) = true:=by exact rfl):aA P C (.code .ret :: is) σ m (some t) (lU P res us X rs jR):=aA.ret (lU.mk (.inr rfl) h1 h2 hs h3 h4)
theorem pX {ρ:Type} {res:List ResultVar} {us:Mem} {X:List Nat} {rs:ρ → List SV} {jR:ρ → Mem} {t:ρ} (h1:wE P σ m res (rs t)) (h2:pF m (jR t)) (h3:zF (rs t)) (h4:ER (jR t))
  (hs:(fG (keys us) (keys (jR t)) && fG X (keys (jR t)) && okA (keys us ++ X) (vT (rs t)) && (jR t).all (fun p => (keys us ++ X).elem p.1 && okO (keys us ++ X) p.2)) = true:=by exact rfl):lU P res us X rs jR t .ret σ m:=lU.mk (.inr rfl) h1 h2 hs h3 h4
theorem jD (xs:List SV) {cf:Operand} {f:FuncId} {os:Array Operand} {ts:Array TypeId} {ys:List SV} {v:AV} (hf:Fn P f ys [] v [] [] []) (hb:dL P f = true) (hsh:og [] xs ys)
  (h:o.op = .call { callee:=.value cf,args:=os,argTypes:=ts } ∧ os.size = xs.length ∧ (mP (keys ([]:Mem)) ([] ++ [] ++ keys ([]:Mem) ++ keys ([]:Mem) ++ []) && fG [] (keys ([]:Mem))) = true ∧ iJ ops σ o true ∧ iF C.N o.dst = true) (he:EvL σ ((cf,Cc (.fn f [])) :: LV os.toList xs))
  (k:aO P C ops rest is (fO σ o.dst v) m M K):aO P C ops (o :: rest) is σ m M K:=aO.pure (LT.Ux (us:=[]) hf h.1 hb hsh h.2.1 h.2.2.1 trivial) he trivial h.2.2.2.1 h.2.2.2.2 k
theorem fV {id:Nat} {t:τ} {σ':Slots} {m':Mem} (e:yQ id is = false ∧ K t (.exit id) σ m = (Exit.exit id = Exit.exit id ∧ aQ P C σ m σ' m')) (h1:Ae σ' σ) (h2:Ad m' m):aA P C (.code (.exit id) :: is) σ m (some t) K:=aA.MI e.1 (by rw [e.2]; exact ⟨rfl,aQ.of h1 h2⟩)
theorem qC {ρ:Type} {K:ρ → Post}:∀ (r t:ρ) (σ:Slots) (m:Mem),(some r:Option ρ) = some t → K r .ret σ m → K t .ret σ m:=fun r t σ m ht hk => by
 injection ht with ht
 subst ht
 exact hk
theorem fA (h:aA P C is σ m M K) (hd:Qi l done.reverse = true:=by kernel_rfl):aU P C l done [] is σ m M K:=aU.nil hd h
end
end
end Go.Fw
end
section
open Go Go.Fw
namespace Go.Proofs.YtdmlaldifbmkpaaGreat
section
theorem Q {α:Type} {a:α}:a = a:=rfl
theorem J:True:=trivial
theorem K {n m:Nat} (h:n.ble m = true):n ≤ m:=Nat.le_of_ble_eq_true h
theorem aKW {P:Program} {C:Fw.Ctx} {σ:Slots} {mm:Mem} {α:Type} {enc:α → List PV} {n p c:Nat} {e e2:TypeId} {els:List (List CV)} (hn:lk mm n = some (.row e els)) (he:els = List.replicate c [.pv (.sc aJ)]) (hd:(!Nat.beq n p && !C.pn.elem p) = true) :
    aQ P C σ mm (kM [p] σ) ((p, .pool e2 (rowsOf enc (List.replicate c ([]:List α)))) :: (n, .bZ e p (bK (List.replicate c ([]:List α)))) :: jK [p] mm):=aQ.aKV (by rw [hn, he]) hd
section
variable {α0 α1 α2 α3 α4 α5 α6 α7 α8 α9 α10 α11 α12 α13 α14 α15:Type} {a0:α0} {a1:α1} {a2:α2} {a3:α3} {a4:α4} {a5:α5} {a6:α6} {a7:α7} {a8:α8} {a9:α9} {a10:α10} {a11:α11} {a12:α12} {a13:α13} {a14:α14} {a15:α15}
theorem z1:a0 = a0 ∧ True:=⟨rfl, trivial⟩
theorem z2:a0 = a0 ∧ a1 = a1 ∧ True:=⟨rfl, rfl, trivial⟩
theorem y2:a0 = a0 ∧ a1 = a1:=⟨rfl, rfl⟩
theorem z3:a0 = a0 ∧ a1 = a1 ∧ a2 = a2 ∧ True:=⟨rfl, rfl, rfl, trivial⟩
theorem y3:a0 = a0 ∧ a1 = a1 ∧ a2 = a2:=⟨rfl, rfl, rfl⟩
theorem z4:a0 = a0 ∧ a1 = a1 ∧ a2 = a2 ∧ a3 = a3 ∧ True:=⟨rfl, rfl, rfl, rfl, trivial⟩
theorem y4:a0 = a0 ∧ a1 = a1 ∧ a2 = a2 ∧ a3 = a3:=⟨rfl, rfl, rfl, rfl⟩
theorem z5:a0 = a0 ∧ a1 = a1 ∧ a2 = a2 ∧ a3 = a3 ∧ a4 = a4 ∧ True:=⟨rfl, rfl, rfl, rfl, rfl, trivial⟩
theorem z6:a0 = a0 ∧ a1 = a1 ∧ a2 = a2 ∧ a3 = a3 ∧ a4 = a4 ∧ a5 = a5 ∧ True:=⟨rfl, rfl, rfl, rfl, rfl, rfl, trivial⟩
theorem z7:a0 = a0 ∧ a1 = a1 ∧ a2 = a2 ∧ a3 = a3 ∧ a4 = a4 ∧ a5 = a5 ∧ a6 = a6 ∧ True:=⟨rfl, rfl, rfl, rfl, rfl, rfl, rfl, trivial⟩
theorem z8:a0 = a0 ∧ a1 = a1 ∧ a2 = a2 ∧ a3 = a3 ∧ a4 = a4 ∧ a5 = a5 ∧ a6 = a6 ∧ a7 = a7 ∧ True:=⟨rfl, rfl, rfl, rfl, rfl, rfl, rfl, rfl, trivial⟩
theorem z9:a0 = a0 ∧ a1 = a1 ∧ a2 = a2 ∧ a3 = a3 ∧ a4 = a4 ∧ a5 = a5 ∧ a6 = a6 ∧ a7 = a7 ∧ a8 = a8 ∧ True:=⟨rfl, rfl, rfl, rfl, rfl, rfl, rfl, rfl, rfl, trivial⟩
theorem z10:a0 = a0 ∧ a1 = a1 ∧ a2 = a2 ∧ a3 = a3 ∧ a4 = a4 ∧ a5 = a5 ∧ a6 = a6 ∧ a7 = a7 ∧ a8 = a8 ∧ a9 = a9 ∧ True:=⟨rfl, rfl, rfl, rfl, rfl, rfl, rfl, rfl, rfl, rfl, trivial⟩
theorem z11:a0 = a0 ∧ a1 = a1 ∧ a2 = a2 ∧ a3 = a3 ∧ a4 = a4 ∧ a5 = a5 ∧ a6 = a6 ∧ a7 = a7 ∧ a8 = a8 ∧ a9 = a9 ∧ a10 = a10 ∧ True:=⟨rfl, rfl, rfl, rfl, rfl, rfl, rfl, rfl, rfl, rfl, rfl, trivial⟩
theorem z12:a0 = a0 ∧ a1 = a1 ∧ a2 = a2 ∧ a3 = a3 ∧ a4 = a4 ∧ a5 = a5 ∧ a6 = a6 ∧ a7 = a7 ∧ a8 = a8 ∧ a9 = a9 ∧ a10 = a10 ∧ a11 = a11 ∧ True:=⟨rfl, rfl, rfl, rfl, rfl, rfl, rfl, rfl, rfl, rfl, rfl, rfl, trivial⟩
theorem z13:a0 = a0 ∧ a1 = a1 ∧ a2 = a2 ∧ a3 = a3 ∧ a4 = a4 ∧ a5 = a5 ∧ a6 = a6 ∧ a7 = a7 ∧ a8 = a8 ∧ a9 = a9 ∧ a10 = a10 ∧ a11 = a11 ∧ a12 = a12 ∧ True:=⟨rfl, rfl, rfl, rfl, rfl, rfl, rfl, rfl, rfl, rfl, rfl, rfl, rfl, trivial⟩
theorem aV:a0 = a0 ∧ a1 = a1 ∧ (a2 = a2 ∧ a3 = a3) ∧ a4 = a4 ∧ a5 = a5:=⟨rfl, rfl, ⟨rfl, rfl⟩, rfl, rfl⟩
theorem kD:a0 = a0 ∧ a1 = a1 ∧ (a2 = a2 ∧ a3 = a3) ∧ a4 = a4 ∧ a5 = a5 ∧ a6 = a6:=⟨rfl, rfl, ⟨rfl, rfl⟩, rfl, rfl, rfl⟩
theorem aZ:a0 = a0 ∧ (a1 = a1 ∧ a2 = a2) ∧ a3 = a3 ∧ a4 = a4:=⟨rfl, ⟨rfl, rfl⟩, rfl, rfl⟩
theorem qH:a0 = a0 ∧ (a1 = a1 ∧ a2 = a2) ∧ a3 = a3 ∧ a4 = a4 ∧ a5 = a5:=⟨rfl, ⟨rfl, rfl⟩, rfl, rfl, rfl⟩
theorem aD4:a0 = a0 ∧ (a1 = a1 ∧ a2 = a2) ∧ a3 = a3 ∧ a4 = a4 ∧ a5 = a5 ∧ a6 = a6:=⟨rfl, ⟨rfl, rfl⟩, rfl, rfl, rfl, rfl⟩
theorem ax:a0 = a0 ∧ a1 = a1 ∧ a2 = a2 ∧ a3 = a3 ∧ a4 = a4 ∧ a5 = a5 ∧ a6 = a6 ∧ a7 = a7 ∧ a8 = a8 ∧ a9 = a9:=⟨rfl, rfl, rfl, rfl, rfl, rfl, rfl, rfl, rfl, rfl⟩
theorem iM:a0 = a0 ∧ a1 = a1 ∧ a2 = a2 ∧ a3 = a3 ∧ a4 = a4 ∧ a5 = a5 ∧ a6 = a6 ∧ a7 = a7 ∧ a8 = a8 ∧ a9 = a9 ∧ a10 = a10 ∧ a11 = a11:=⟨rfl, rfl, rfl, rfl, rfl, rfl, rfl, rfl, rfl, rfl, rfl, rfl⟩
theorem y5:a0 = a0 ∧ a1 = a1 ∧ a2 = a2 ∧ a3 = a3 ∧ a4 = a4:=⟨rfl, rfl, rfl, rfl, rfl⟩
theorem y6:a0 = a0 ∧ a1 = a1 ∧ a2 = a2 ∧ a3 = a3 ∧ a4 = a4 ∧ a5 = a5:=⟨rfl, rfl, rfl, rfl, rfl, rfl⟩
theorem y7:a0 = a0 ∧ a1 = a1 ∧ a2 = a2 ∧ a3 = a3 ∧ a4 = a4 ∧ a5 = a5 ∧ a6 = a6:=⟨rfl, rfl, rfl, rfl, rfl, rfl, rfl⟩
theorem y8:a0 = a0 ∧ a1 = a1 ∧ a2 = a2 ∧ a3 = a3 ∧ a4 = a4 ∧ a5 = a5 ∧ a6 = a6 ∧ a7 = a7:=⟨rfl, rfl, rfl, rfl, rfl, rfl, rfl, rfl⟩
end
theorem kQ {sh:Mem} {x0:CV} (h:bY (keys sh) x0 = x0):og sh [.c x0] [.c x0]:=.cons (.c (.same h)) .nil
theorem iZ {sh:Mem} {x0 x1:CV} (h:bY (keys sh) x0 = x0 ∧ bY (keys sh) x1 = x1):og sh [.c x0, .c x1] [.c x0, .c x1]:=.cons (.c (.same h.1)) (.cons (.c (.same h.2)) .nil)
theorem qF {sh:Mem} {x0 x1 x2:CV} (h:bY (keys sh) x0 = x0 ∧ bY (keys sh) x1 = x1 ∧ bY (keys sh) x2 = x2):og sh [.c x0, .c x1, .c x2] [.c x0, .c x1, .c x2]:=.cons (.c (.same h.1)) (.cons (.c (.same h.2.1)) (.cons (.c (.same h.2.2)) .nil))
theorem UF {sh:Mem} {x0 x1 x2 x3:CV} (h:bY (keys sh) x0 = x0 ∧ bY (keys sh) x1 = x1 ∧ bY (keys sh) x2 = x2 ∧ bY (keys sh) x3 = x3):og sh [.c x0, .c x1, .c x2, .c x3] [.c x0, .c x1, .c x2, .c x3]:=.cons (.c (.same h.1)) (.cons (.c (.same h.2.1)) (.cons (.c (.same h.2.2.1)) (.cons (.c (.same h.2.2.2)) .nil)))
theorem aKy {sh:Mem} {x0 x1 x2 x3 x4:CV} (h:bY (keys sh) x0 = x0 ∧ bY (keys sh) x1 = x1 ∧ bY (keys sh) x2 = x2 ∧ bY (keys sh) x3 = x3 ∧ bY (keys sh) x4 = x4):og sh [.c x0, .c x1, .c x2, .c x3, .c x4] [.c x0, .c x1, .c x2, .c x3, .c x4]:=.cons (.c (.same h.1)) (.cons (.c (.same h.2.1)) (.cons (.c (.same h.2.2.1)) (.cons (.c (.same h.2.2.2.1)) (.cons (.c (.same h.2.2.2.2)) .nil))))
theorem aKz {sh:Mem} {x0 x1 x2 x3 x4:CV} (h:bY (keys sh) x0 = x0 ∧ bY (keys sh) x1 = x1 ∧ bY (keys sh) x2 = x2 ∧ bY (keys sh) x3 = x3 ∧ bY (keys sh) x4 = x4):og sh [.c x0, .c x1, .agg [x2, x3], .c x4] [.c x0, .c x1, .agg [x2, x3], .c x4]:=.cons (.c (.same h.1)) (.cons (.c (.same h.2.1)) (.cons (.agg (.cons (.same h.2.2.1) (.cons (.same h.2.2.2.1) .nil))) (.cons (.c (.same h.2.2.2.2)) .nil)))
theorem vX {sh:Mem} {x0 x1:CV} (h:bY (keys sh) x0 = x0 ∧ bY (keys sh) x1 = x1):og sh [.agg [x0, x1]] [.agg [x0, x1]]:=.cons (.agg (.cons (.same h.1) (.cons (.same h.2) .nil))) .nil
theorem D9 {sh:Mem} {x0 x1 x2:CV} (h:bY (keys sh) x0 = x0 ∧ bY (keys sh) x1 = x1 ∧ bY (keys sh) x2 = x2):og sh [.agg [x0, x1], .c x2] [.agg [x0, x1], .c x2]:=.cons (.agg (.cons (.same h.1) (.cons (.same h.2.1) .nil))) (.cons (.c (.same h.2.2)) .nil)
theorem AB {sh:Mem} {x0 x1 x2 x3:CV} (h:bY (keys sh) x0 = x0 ∧ bY (keys sh) x1 = x1 ∧ bY (keys sh) x2 = x2 ∧ bY (keys sh) x3 = x3):og sh [.agg [x0, x1], .c x2, .c x3] [.agg [x0, x1], .c x2, .c x3]:=.cons (.agg (.cons (.same h.1) (.cons (.same h.2.1) .nil))) (.cons (.c (.same h.2.2.1)) (.cons (.c (.same h.2.2.2)) .nil))
theorem aK1 {sh:Mem} {x0 x1 x2 x3 x4 x5:CV} (h:bY (keys sh) x0 = x0 ∧ bY (keys sh) x1 = x1 ∧ bY (keys sh) x2 = x2 ∧ bY (keys sh) x3 = x3 ∧ bY (keys sh) x4 = x4 ∧ bY (keys sh) x5 = x5):og sh [.agg [x0, x1], .c x2, .agg [x3, x4, x5]] [.agg [x0, x1], .c x2, .agg [x3, x4, x5]]:=.cons (.agg (.cons (.same h.1) (.cons (.same h.2.1) .nil))) (.cons (.c (.same h.2.2.1)) (.cons (.agg (.cons (.same h.2.2.2.1) (.cons (.same h.2.2.2.2.1) (.cons (.same h.2.2.2.2.2) .nil)))) .nil))
theorem Px {sh:Mem} {x0 x1 x2 x3:CV} (h:bY (keys sh) x0 = x0 ∧ bY (keys sh) x1 = x1 ∧ bY (keys sh) x2 = x2 ∧ bY (keys sh) x3 = x3):og sh [.agg [x0, x1], .agg [x2, x3]] [.agg [x0, x1], .agg [x2, x3]]:=.cons (.agg (.cons (.same h.1) (.cons (.same h.2.1) .nil))) (.cons (.agg (.cons (.same h.2.2.1) (.cons (.same h.2.2.2) .nil))) .nil)
theorem aK2 {sh:Mem} {x0 x1 x2 x3 x4 x5 x6 x7:CV} (h:bY (keys sh) x0 = x0 ∧ bY (keys sh) x1 = x1 ∧ bY (keys sh) x2 = x2 ∧ bY (keys sh) x3 = x3 ∧ bY (keys sh) x4 = x4 ∧ bY (keys sh) x5 = x5 ∧ bY (keys sh) x6 = x6 ∧ bY (keys sh) x7 = x7):og sh [.agg [x0, x1], .agg [x2, x3, x4], .c x5, .c x6, .c x7] [.agg [x0, x1], .agg [x2, x3, x4], .c x5, .c x6, .c x7]:=.cons (.agg (.cons (.same h.1) (.cons (.same h.2.1) .nil))) (.cons (.agg (.cons (.same h.2.2.1) (.cons (.same h.2.2.2.1) (.cons (.same h.2.2.2.2.1) .nil)))) (.cons (.c (.same h.2.2.2.2.2.1)) (.cons (.c (.same h.2.2.2.2.2.2.1)) (.cons (.c (.same h.2.2.2.2.2.2.2)) .nil))))
theorem oL {sh:Mem} {x0 x1 x2:CV} (h:bY (keys sh) x0 = x0 ∧ bY (keys sh) x1 = x1 ∧ bY (keys sh) x2 = x2):og sh [.agg [x0, x1, x2]] [.agg [x0, x1, x2]]:=.cons (.agg (.cons (.same h.1) (.cons (.same h.2.1) (.cons (.same h.2.2) .nil)))) .nil
theorem YO {sh:Mem} {x0 x1 x2 x3:CV} (h:bY (keys sh) x0 = x0 ∧ bY (keys sh) x1 = x1 ∧ bY (keys sh) x2 = x2 ∧ bY (keys sh) x3 = x3):og sh [.agg [x0, x1, x2], .c x3] [.agg [x0, x1, x2], .c x3]:=.cons (.agg (.cons (.same h.1) (.cons (.same h.2.1) (.cons (.same h.2.2.1) .nil)))) (.cons (.c (.same h.2.2.2)) .nil)
theorem aK3 {sh:Mem} {x0 x1 x2 x3 x4:CV} (h:bY (keys sh) x0 = x0 ∧ bY (keys sh) x1 = x1 ∧ bY (keys sh) x2 = x2 ∧ bY (keys sh) x3 = x3 ∧ bY (keys sh) x4 = x4):og sh [.agg [x0, x1, x2], .c x3, .c x4] [.agg [x0, x1, x2], .c x3, .c x4]:=.cons (.agg (.cons (.same h.1) (.cons (.same h.2.1) (.cons (.same h.2.2.1) .nil)))) (.cons (.c (.same h.2.2.2.1)) (.cons (.c (.same h.2.2.2.2)) .nil))
abbrev bn (x:bF):List CV:=[(iC x.Graph.aH), (xF aK x.Graph.aC), (xF au x.Places)]
abbrev iP (x:bT):List CV:=[(xF aF x.Free), (xF aF x.aT), (xF aF x.aN)]
abbrev fE (x:dH):List CV:=[(xT dI x.b), (iC x.i), (iC x.h)]
abbrev ai (x:aj):List CV:=[(iC x.aH), (xF aK x.aC)]
theorem kL:lV Tryz.prog 113 = some true:=by kernel_rfl
theorem Y9:lV Tryz.prog 22 = some false:=by kernel_rfl
theorem iK:lV Tryz.prog 24 = some false:=by kernel_rfl
theorem eY:lV Tryz.prog 26 = some true:=by kernel_rfl
theorem fF:lV Tryz.prog 28 = some false:=by kernel_rfl
theorem ak:lV Tryz.prog 3 = some false:=by kernel_rfl
theorem ag4:lV Tryz.prog 4 = some false:=by kernel_rfl
theorem kz:lV Tryz.prog 40 = some true:=by kernel_rfl
theorem kU:lV Tryz.prog 44 = some false:=by kernel_rfl
theorem gJ:lV Tryz.prog 46 = some true:=by kernel_rfl
theorem ZA:lV Tryz.prog 5 = some false:=by kernel_rfl
theorem uJ:lV Tryz.prog 98 = some true:=by kernel_rfl
theorem aFM:dL Tryz.prog 10 = true:=by kernel_rfl
theorem G6:dL Tryz.prog 101 = true:=by kernel_rfl
theorem aFN:dL Tryz.prog 103 = true:=by kernel_rfl
theorem Zb:dL Tryz.prog 108 = true:=by kernel_rfl
theorem Am:dL Tryz.prog 115 = true:=by kernel_rfl
theorem C9:dL Tryz.prog 116 = true:=by kernel_rfl
theorem aFO:dL Tryz.prog 124 = true:=by kernel_rfl
theorem aFP:dL Tryz.prog 125 = true:=by kernel_rfl
theorem Zc:dL Tryz.prog 126 = true:=by kernel_rfl
theorem aFQ:dL Tryz.prog 127 = true:=by kernel_rfl
theorem Zd:dL Tryz.prog 128 = true:=by kernel_rfl
theorem Ze:dL Tryz.prog 129 = true:=by kernel_rfl
theorem Zf:dL Tryz.prog 130 = true:=by kernel_rfl
theorem Zg:dL Tryz.prog 131 = true:=by kernel_rfl
theorem aFR:dL Tryz.prog 132 = true:=by kernel_rfl
theorem Zh:dL Tryz.prog 133 = true:=by kernel_rfl
theorem aFS:dL Tryz.prog 134 = true:=by kernel_rfl
theorem QU:dL Tryz.prog 135 = true:=by kernel_rfl
theorem aFT:dL Tryz.prog 136 = true:=by kernel_rfl
theorem Lu:dL Tryz.prog 138 = true:=by kernel_rfl
theorem Zi:dL Tryz.prog 144 = true:=by kernel_rfl
theorem L6:dL Tryz.prog 145 = true:=by kernel_rfl
theorem aFU:dL Tryz.prog 146 = true:=by kernel_rfl
theorem L8:dL Tryz.prog 147 = true:=by kernel_rfl
theorem Zj:dL Tryz.prog 149 = true:=by kernel_rfl
theorem G7:dL Tryz.prog 15 = true:=by kernel_rfl
theorem aFV:dL Tryz.prog 150 = true:=by kernel_rfl
theorem aFW:dL Tryz.prog 151 = true:=by kernel_rfl
theorem Zk:dL Tryz.prog 152 = true:=by kernel_rfl
theorem aFX:dL Tryz.prog 153 = true:=by kernel_rfl
theorem aFY:dL Tryz.prog 154 = true:=by kernel_rfl
theorem Zl:dL Tryz.prog 155 = true:=by kernel_rfl
theorem aFZ:dL Tryz.prog 160 = true:=by kernel_rfl
theorem aFa:dL Tryz.prog 161 = true:=by kernel_rfl
theorem Zm:dL Tryz.prog 164 = true:=by kernel_rfl
theorem aFb:dL Tryz.prog 165 = true:=by kernel_rfl
theorem Zn:dL Tryz.prog 166 = true:=by kernel_rfl
theorem aFc:dL Tryz.prog 167 = true:=by kernel_rfl
theorem Zp:dL Tryz.prog 168 = true:=by kernel_rfl
theorem Zq:dL Tryz.prog 169 = true:=by kernel_rfl
theorem aFd:dL Tryz.prog 170 = true:=by kernel_rfl
theorem aFe:dL Tryz.prog 174 = true:=by kernel_rfl
theorem aFf:dL Tryz.prog 175 = true:=by kernel_rfl
theorem Zr:dL Tryz.prog 176 = true:=by kernel_rfl
theorem aFg:dL Tryz.prog 177 = true:=by kernel_rfl
theorem Zt:dL Tryz.prog 178 = true:=by kernel_rfl
theorem Zu:dL Tryz.prog 180 = true:=by kernel_rfl
theorem Zv:dL Tryz.prog 181 = true:=by kernel_rfl
theorem aFh:dL Tryz.prog 182 = true:=by kernel_rfl
theorem QV:dL Tryz.prog 183 = true:=by kernel_rfl
theorem Zw:dL Tryz.prog 184 = true:=by kernel_rfl
theorem Zx:dL Tryz.prog 185 = true:=by kernel_rfl
theorem aFi:dL Tryz.prog 187 = true:=by kernel_rfl
theorem aFj:dL Tryz.prog 188 = true:=by kernel_rfl
theorem Zy:dL Tryz.prog 189 = true:=by kernel_rfl
theorem aFk:dL Tryz.prog 190 = true:=by kernel_rfl
theorem QX:dL Tryz.prog 201 = true:=by kernel_rfl
theorem QY:dL Tryz.prog 202 = true:=by kernel_rfl
theorem aFl:dL Tryz.prog 203 = true:=by kernel_rfl
theorem Uz:dL Tryz.prog 204 = true:=by kernel_rfl
theorem aFm:dL Tryz.prog 205 = true:=by kernel_rfl
theorem U3:dL Tryz.prog 206 = true:=by kernel_rfl
theorem aFn:dL Tryz.prog 207 = true:=by kernel_rfl
theorem aFo:dL Tryz.prog 208 = true:=by kernel_rfl
theorem aFp:dL Tryz.prog 209 = true:=by kernel_rfl
theorem aFq:dL Tryz.prog 215 = true:=by kernel_rfl
theorem aFr:dL Tryz.prog 216 = true:=by kernel_rfl
theorem aFs:dL Tryz.prog 217 = true:=by kernel_rfl
theorem Zz:dL Tryz.prog 219 = true:=by kernel_rfl
theorem U4:dL Tryz.prog 22 = true:=by kernel_rfl
theorem Z4:dL Tryz.prog 46 = true:=by kernel_rfl
theorem aFt:dL Tryz.prog 54 = true:=by kernel_rfl
theorem aFu:dL Tryz.prog 55 = true:=by kernel_rfl
theorem aFv:dL Tryz.prog 56 = true:=by kernel_rfl
theorem Z5:dL Tryz.prog 57 = true:=by kernel_rfl
theorem aFw:dL Tryz.prog 58 = true:=by kernel_rfl
theorem aFx:dL Tryz.prog 59 = true:=by kernel_rfl
theorem cb6:dL Tryz.prog 6 = true:=by kernel_rfl
theorem zK:dL Tryz.prog 60 = true:=by kernel_rfl
theorem U5:dL Tryz.prog 61 = true:=by kernel_rfl
theorem aFy:dL Tryz.prog 62 = true:=by kernel_rfl
theorem aFz:dL Tryz.prog 63 = true:=by kernel_rfl
theorem aF0:dL Tryz.prog 64 = true:=by kernel_rfl
theorem Z7:dL Tryz.prog 65 = true:=by kernel_rfl
theorem Z8:dL Tryz.prog 66 = true:=by kernel_rfl
theorem aF1:dL Tryz.prog 67 = true:=by kernel_rfl
theorem Z9:dL Tryz.prog 68 = true:=by kernel_rfl
theorem aAA:dL Tryz.prog 69 = true:=by kernel_rfl
theorem aF2:dL Tryz.prog 70 = true:=by kernel_rfl
theorem U6:dL Tryz.prog 71 = true:=by kernel_rfl
theorem U7:dL Tryz.prog 72 = true:=by kernel_rfl
theorem U8:dL Tryz.prog 74 = true:=by kernel_rfl
theorem U9:dL Tryz.prog 75 = true:=by kernel_rfl
theorem aF3:dL Tryz.prog 76 = true:=by kernel_rfl
theorem aAB:dL Tryz.prog 79 = true:=by kernel_rfl
theorem xK:dL Tryz.prog 81 = true:=by kernel_rfl
theorem aAC:dL Tryz.prog 82 = true:=by kernel_rfl
theorem aF4:dL Tryz.prog 83 = true:=by kernel_rfl
theorem aF5:dL Tryz.prog 84 = true:=by kernel_rfl
theorem aF6:dL Tryz.prog 85 = true:=by kernel_rfl
theorem VA:dL Tryz.prog 88 = true:=by kernel_rfl
theorem EU:dL Tryz.prog 90 = true:=by kernel_rfl
theorem aAD:dL Tryz.prog 91 = true:=by kernel_rfl
theorem lX:dL Tryz.prog 93 = true:=by kernel_rfl
theorem aF7:dL Tryz.prog 94 = true:=by kernel_rfl
theorem aF8:dL Tryz.prog 95 = true:=by kernel_rfl
theorem aF9:dL Tryz.prog 99 = true:=by kernel_rfl
theorem VK:uK Tryz.prog 166 = some 4:=by kernel_rfl
theorem aAQ:uK Tryz.prog 22 = some 5:=by kernel_rfl
theorem nU:uK Tryz.prog 24 = some 40:=by kernel_rfl
theorem dU:uK Tryz.prog 28 = some 3:=by kernel_rfl
theorem pG:uK Tryz.prog 44 = some 98:=by kernel_rfl
theorem l9:uK Tryz.prog 87 = some 28:=by kernel_rfl
theorem aAh:qO Tryz.prog 105 0 = some 0:=by kernel_rfl
theorem Qn:qO Tryz.prog 105 1 = some 1:=by kernel_rfl
theorem Qo:qO Tryz.prog 105 2 = some 2:=by kernel_rfl
theorem oN:qO Tryz.prog 113 0 = some 0:=by kernel_rfl
theorem sF:qO Tryz.prog 113 1 = some 1:=by kernel_rfl
theorem qX:qO Tryz.prog 113 2 = some 2:=by kernel_rfl
theorem kV:qO Tryz.prog 26 0 = some 0:=by kernel_rfl
theorem gK:qO Tryz.prog 26 1 = some 1:=by kernel_rfl
theorem lM:qO Tryz.prog 40 0 = some 0:=by kernel_rfl
theorem mZ:qO Tryz.prog 40 1 = some 1:=by kernel_rfl
theorem lF:qO Tryz.prog 46 0 = some 0:=by kernel_rfl
theorem jm:qO Tryz.prog 46 1 = some 2:=by kernel_rfl
theorem xM:qO Tryz.prog 98 0 = some 0:=by kernel_rfl
theorem zO:qO Tryz.prog 98 1 = some 1:=by kernel_rfl
theorem gQ:(Tryz.prog.info? 113).isSome = true:=by kernel_rfl
theorem DR:(Tryz.prog.info? 24).isSome = true:=by kernel_rfl
theorem dA:(Tryz.prog.info? 26).isSome = true:=by kernel_rfl
theorem wW:(Tryz.prog.info? 28).isSome = true:=by kernel_rfl
theorem mJ:(Tryz.prog.info? 3).isSome = true:=by kernel_rfl
theorem aBh:(Tryz.prog.info? 4).isSome = true:=by kernel_rfl
theorem jL:(Tryz.prog.info? 40).isSome = true:=by kernel_rfl
theorem Rn:(Tryz.prog.info? 44).isSome = true:=by kernel_rfl
theorem dR:(Tryz.prog.info? 46).isSome = true:=by kernel_rfl
theorem qA:(Tryz.prog.info? 98).isSome = true:=by kernel_rfl
theorem Ru:IG Tryz.prog 40 = some 2:=by kernel_rfl
theorem Nq:IG Tryz.prog 98 = some 2:=by kernel_rfl
theorem SX:Fq Tryz.prog 173 = some (3, 3):=by kernel_rfl
theorem mixed:Tryz.prog.follows .mixedOrders = true:=by kernel_rfl
theorem aKN:Dz Tryz.prog 105 = some [(0, 1), (1, 1), (2, 1)]:=by kernel_rfl
theorem GH:Dz Tryz.prog 113 = some [(0, 1), (1, 1), (2, 1)]:=by kernel_rfl
theorem Bj:Dz Tryz.prog 26 = some [(0, 1), (1, 1)]:=by kernel_rfl
theorem Bl:Dz Tryz.prog 40 = some [(0, 1), (1, 1)]:=by kernel_rfl
theorem xZ:Dz Tryz.prog 46 = some [(0, 2), (2, 1)]:=by kernel_rfl
theorem TM:Dz Tryz.prog 98 = some [(0, 1), (1, 1)]:=by kernel_rfl
theorem aLc:cO Tryz.prog 105 = 3:=by kernel_rfl
theorem fK:cO Tryz.prog 113 = 3:=by kernel_rfl
theorem EG:cO Tryz.prog 24 = 1:=by kernel_rfl
theorem bU:cO Tryz.prog 26 = 2:=by kernel_rfl
theorem uQ:cO Tryz.prog 28 = 1:=by kernel_rfl
theorem gI:cO Tryz.prog 3 = 1:=by kernel_rfl
theorem sz4:cO Tryz.prog 4 = 1:=by kernel_rfl
theorem fB:cO Tryz.prog 40 = 2:=by kernel_rfl
theorem UL:cO Tryz.prog 44 = 1:=by kernel_rfl
theorem dB:cO Tryz.prog 46 = 3:=by kernel_rfl
theorem sz5:cO Tryz.prog 5 = 1:=by kernel_rfl
theorem jy:cO Tryz.prog 98 = 2:=by kernel_rfl
theorem aLi:TI Tryz.prog 105 (.agg #[(.slice none 0 0), (.int .i64 0), (.int .i64 0)]) 3 40:=by unfold TI; kernel_rfl
theorem nO:TI Tryz.prog 113 (.agg #[(.slice none 0 0), (.slice none 0 0), (.slice none 0 0)]) 3 72:=by unfold TI; kernel_rfl
theorem jk:TI Tryz.prog 26 (.agg #[(.int .i64 0), (.slice none 0 0)]) 2 32:=by unfold TI; kernel_rfl
theorem pK:TI Tryz.prog 28 (.slice none 0 0) 1 24:=by unfold TI; kernel_rfl
theorem iH:TI Tryz.prog 3 (.int .i64 0) 1 8:=by unfold TI; kernel_rfl
theorem ti4:TI Tryz.prog 4 (.bool false) 1 1:=by unfold TI; kernel_rfl
theorem jT:TI Tryz.prog 40 (.agg #[(.int .i64 0), (.int .i64 0)]) 2 16:=by unfold TI; kernel_rfl
theorem lJ:TI Tryz.prog 46 (.agg #[(.int .i64 0), (.slice none 0 0), (.slice none 0 0)]) 3 56:=by unfold TI; kernel_rfl
theorem uS:TI Tryz.prog 98 (.agg #[(.int .i64 0), (.int .i64 0)]) 2 16:=by unfold TI; kernel_rfl
theorem aL6:Tryz.prog.underlying 166 = some (.slice 4):=by kernel_rfl
theorem UR:Tryz.prog.underlying 22 = some (.slice 5):=by kernel_rfl
theorem iU:Tryz.prog.underlying 24 = some (.slice 40):=by kernel_rfl
theorem dS:Tryz.prog.underlying 28 = some (.slice 3):=by kernel_rfl
theorem aD1:Tryz.prog.underlying 3 = some (.int .i64):=by kernel_rfl
theorem UW:Tryz.prog.underlying 4 = some .bool:=by kernel_rfl
theorem sU:Tryz.prog.underlying 44 = some (.slice 98):=by kernel_rfl
theorem kR:Tryz.prog.underlying 87 = some (.slice 28):=by kernel_rfl
theorem aD2:(Tryz.prog.underlying 5).isSome = true:=by kernel_rfl
end
theorem aMb (code:(List Int)):FT Tryz.prog (SS code) 6 [.c (xF dI code)] [] (fun (t:Bool) => [.c (bC t)]) (fun (t:Bool) => []) []:=by
 refine FT.of [] Tryz.func6 Tryz.ntmps6 Q y2 ?_
 intro w0 U0 R0 g0
 unfold SS
 refine Ws (Wr ?_)
 refine aI (Bv false) aZ (On (Ws (Wr ?_)))
 refine aG (Cc (xF dI code)) y4 (aY (LT.iI Q UR) Q Q Q (af LT.gtr aV (aI (Bv (decide (1048576 < (code.length:Int)))) y4 (On (bP z1 J ⟨ah.sc,J⟩ J)))))
theorem Yp (code:(List Int)):FT Tryz.prog (FY code) 74 [.c (xT dI code)] [] (fun (t:dH) => [.c (.pl 0 0)]) (fun (t:dH) => [(0,.row 105 [fE t])]) [0]:=by
 refine FT.of [] Tryz.func74 Tryz.ntmps74 Q y2 ?_
 intro w0 U0 R0 g0
 unfold FY
 refine Ws (Wr ?_)
 refine aI (Cc (sC (.pointer none))) aZ (On (Ws (Wr ?_)))
 refine aG (Cc (xT dI code)) y4 (aY (LT.iI Q UR) Q Q Q (af LT.add qH (aI (Iv (aB (10101 + (code.length:Int)))) y4 (On (Ws (Ws (Wr ?_)))))))
 refine aI (Iv 0) aZ (On (aA.block ?_))
 refine aA.jI (id:=0) (FZ code) (fun s1 => ([(0,Cc (xT dI code)),(3,Iv s1.1),(4,Iv s1.2)],[])) (fun b12 => ([(0,Cc (xT dI code)),(3,Iv b12)],[])) ?_ (aQ.of z3 J) Q (fun b12 _ => ?_)
 ·intro s1
  unfold FZ
  refine Ws (Ws ?_)
  refine aA.eP (fun j14 => ([(0,Cc (xT dI code)),(3,Iv s1.1),(4,Iv s1.2),(15,Bv j14)],[])) ?_ (fun j14 _ => ?_)
  ·refine Wr (aG (Iv s1.2) y4 (aG (Cc (xT dI code)) y4 (aY (LT.iI Q UR) Q Q Q (af LT.lss y5 (aG (Bv (decide (s1.2 < (code.length:Int)))) y4 (aO.split (fun lg => ?_) (fun lg => ?_)))))))
   ·refine eu (Iv s1.2) lg y5 (iy LT.lss lg kD (dJ (Bv (decide (s1.2 < 4000))) lg y5 (On (aX Q z4 J))))
   ·refine aS lg y5 (aS lg y5 (eU (Bv false) lg aV (On (aX Q z4 J))))
  ·refine aA.cond Q (fun hc16 => ?_) (fun hc16 => ?_)
   ·refine aA.skip (Ws (aA.block (Wr ?_)))
    refine aG (Iv s1.1) y4 (af LT.mul aV (aG (Cc (xT dI code)) y4 (aG (Iv s1.2) y4 (aP fun x17 Nb => (dY (LT.eF (enc:=dI) Q aAQ Nb sz5) Q Q Q Q (aY (LT.iw Q ZA) Q Q Q (aY (LT.aAK Q aD2 aD1) Q Q Q (af LT.add y5 (af LT.add aV (af LT.and aV (aI (Iv (bits .and .i64 (aB ((aB ((aB (s1.1 * 131)) + (aB x17))) + 7)) 1073741823)) y4 ?_)))))))))))
    refine On (aA.blk ?_)
    refine en [(0,Cc (xT dI code)),(3,Iv (bits .and .i64 (aB ((aB ((aB (s1.1 * 131)) + (aB x17))) + 7)) 1073741823)),(4,Iv s1.2)] [] z3 J (Wr (aG (Iv s1.2) y4 (af LT.add aV (aI (Iv (aB (s1.2 + 1))) y4 (On (aX Q z3 J))))))
   ·refine fV y2 z2 J
 ·refine Ws (Wr ?_)
  refine aG (Cc (xT dI code)) y4 (aG (Iv b12) y4 (dY (LT.build [(0,.tmp 28,.c (xT dI code)),(2,.tmp 29,.c (iC b12))] Q Q aKN aLi Q Q Q) Q Q Q Q (iL 21 (.agg [xT dI code,iC 0,iC b12]) aLc y5 (aI (Cc (.pl 21 0)) y4 (On (en [(2,Cc (.pl 21 0))] [(21,.row 105 [[xT dI code,iC 0,iC b12]])] z1 z1 (aA.ent (aQ.mv 21 0 Q Q) (en [(2,Cc (.pl 0 0))] [(0,.row 105 [[xT dI code,iC 0,iC b12]])] z1 z1 (bP z1 z1 ⟨J,J⟩ ⟨bD.mV ⟨nN oU,ah.sc,ah.sc,J⟩,J⟩)))))))))
theorem P8 (c:dH):FT Tryz.prog (BV c) 145 [.c (.pl 0 0)] [(0,.row 105 [fE c])] (fun (t:(Int × dH)) => [.c (iC t.1)]) (fun (t:(Int × dH)) => [(0,.row 105 [fE t.2])]) []:=by
 refine FT.of [0] Tryz.func145 Tryz.ntmps145 Q y2 ?_
 intro w0 U0 R0 g0
 unfold BV
 refine Ws (Wr ?_)
 refine aI (Iv 0) aZ (On (Ws (Wr ?_)))
 refine aG (Cc (.pl 0 0)) y4 (aG (Cc (.pl 0 0)) y4 (aY (LT.o6 Q) Q Q Q (dK (iC c.h) Qo ak ax (af LT.mul aV (af LT.add aV (aY (LT.o6 Q) Q Q Q (aY (LT.gU Q Qo) Q Q Q (bQ (qh (.c (iC (aB ((aB (c.h * 6364136223846793005)) + 1442695040888963407)))) [xT dI c.b,iC c.i,iC (aB ((aB (c.h * 6364136223846793005)) + 1442695040888963407))] Q Q mJ gI) Q Q Q Q Q (On (Ws ?_))))))))))
 refine en [(0,Cc (.pl 0 0))] [(0,.row 105 [[xT dI c.b,iC c.i,iC (aB ((aB (c.h * 6364136223846793005)) + 1442695040888963407))]])] z1 z1 (aA.draw mixed (bJ (Cc (.pl 0 0)) y4 (bg (LT.o6 Q) Q Q Q (eH (iC (aB ((aB (c.h * 6364136223846793005)) + 1442695040888963407))) Qo ak ax (dZ (LT.shr Q (by decide)) Q y2 Q Q (bJ (Cc (.pl 0 0)) y4 (bg (LT.o6 Q) Q Q Q (eH (iC (aB ((aB (c.h * 6364136223846793005)) + 1442695040888963407))) Qo ak ax (dZ (LT.shr Q (by decide)) Q y2 Q Q ?_)))))))))
 refine jJ LT.xor y5 (jJ LT.and aV (bg (LT.assign (v:=(Iv (bits .and .i64 (bits .xor .i64 (rF (aB ((aB (c.h * 6364136223846793005)) + 1442695040888963407)) 33) (rF (aB ((aB (c.h * 6364136223846793005)) + 1442695040888963407)) 45)) 255))) Q) Q Q Q (fA (Ws (Ws ?_)))))
 refine en [(0,Cc (.pl 0 0)),(3,Iv (bits .and .i64 (bits .xor .i64 (rF (aB ((aB (c.h * 6364136223846793005)) + 1442695040888963407)) 33) (rF (aB ((aB (c.h * 6364136223846793005)) + 1442695040888963407)) 45)) 255))] [(0,.row 105 [[xT dI c.b,iC c.i,iC (aB ((aB (c.h * 6364136223846793005)) + 1442695040888963407))]])] z2 z1 (aA.draw mixed (bJ (Cc (.pl 0 0)) y4 (bg (LT.o6 Q) Q Q Q (eH (iC c.i) Qn ak ax (bJ (Cc (.pl 0 0)) y4 (bg (LT.o6 Q) Q Q Q (eH (xT dI c.b) aAh Y9 ax (bg (LT.iI Q UR) Q Q Q (jJ LT.lss y5 ?_)))))))))
 refine fA (aA.eP (fun j3 => ([(3,Iv j3.1)],[(0,.row 105 [[xT dI c.b,iC j3.2,iC (aB ((aB (c.h * 6364136223846793005)) + 1442695040888963407))]])])) ?_ (fun j3 _ => ?_))
 ·refine aA.cond Q (fun hc4 => ?_) (fun hc4 => ?_)
  ·refine Ws (aA.draw mixed ?_)
   refine bJ (Iv (bits .and .i64 (bits .xor .i64 (rF (aB ((aB (c.h * 6364136223846793005)) + 1442695040888963407)) 33) (rF (aB ((aB (c.h * 6364136223846793005)) + 1442695040888963407)) 45)) 255)) y4 (bJ (Cc (.pl 0 0)) y4 (bg (LT.o6 Q) Q Q Q (eH (xT dI c.b) aAh Y9 ax (bJ (Cc (.pl 0 0)) y4 (bg (LT.o6 Q) Q Q Q (eH (iC c.i) Qn ak ax (aU.bind fun x5 hx5 => (dZ (LT.eF (enc:=dI) Q aAQ hx5 sz5) Q Q Q Q (bg (LT.iw Q ZA) Q Q Q ?_)))))))))
   refine bg (LT.aAK Q aD2 aD1) Q Q Q (jJ LT.add y5 (jJ LT.and aV (bg (LT.assign (v:=(Iv (bits .and .i64 (aB ((bits .and .i64 (bits .xor .i64 (rF (aB ((aB (c.h * 6364136223846793005)) + 1442695040888963407)) 33) (rF (aB ((aB (c.h * 6364136223846793005)) + 1442695040888963407)) 45)) 255) + (aB x5))) 255))) Q) Q Q Q (fA (en [(0,Cc (.pl 0 0)),(3,Iv (bits .and .i64 (aB ((bits .and .i64 (bits .xor .i64 (rF (aB ((aB (c.h * 6364136223846793005)) + 1442695040888963407)) 33) (rF (aB ((aB (c.h * 6364136223846793005)) + 1442695040888963407)) 45)) 255) + (aB x5))) 255))] [(0,.row 105 [[xT dI c.b,iC c.i,iC (aB ((aB (c.h * 6364136223846793005)) + 1442695040888963407))]])] z2 z1 (Wr (aG (Cc (.pl 0 0)) y4 (aG (Cc (.pl 0 0)) y4 (aY (LT.o6 Q) Q Q Q (dK (iC c.i) Qn ak ax ?_))))))))))
   refine af LT.add aV (aY (LT.o6 Q) Q Q Q (aY (LT.gU Q Qn) Q Q Q (bQ (qh (.c (iC (aB (c.i + 1)))) [xT dI c.b,iC (aB (c.i + 1)),iC (aB ((aB (c.h * 6364136223846793005)) + 1442695040888963407))] Q Q mJ gI) Q Q Q Q Q (On (aX Q z1 z1)))))
  ·refine aA.skip (aX Q z1 z1)
 ·refine Ws (Wr ?_)
  refine aG (Iv j3.1) y4 (aI (Iv j3.1) y4 (On (bP z1 z1 ⟨ah.sc,J⟩ ⟨bD.mV ⟨nN oU,ah.sc,ah.sc,J⟩,J⟩)))
theorem lu (c:dH) (n:Int):FT Tryz.prog (kN c n) 93 [.c (.pl 0 0),.c (iC n)] [(0,.row 105 [fE c])] (fun (t:(Int × dH)) => [.c (iC t.1)]) (fun (t:(Int × dH)) => [(0,.row 105 [fE t.2])]) []:=by
 refine FT.of [0] Tryz.func93 Tryz.ntmps93 Q y2 ?_
 intro w0 U0 R0 g0
 unfold kN
 refine Ws (Wr ?_)
 refine aI (Iv 0) aZ (On (Ws (Ws (Wr ?_))))
 refine aG (Iv n) y4 (af LT.leq aV (On (aA.cond Q (fun hc1 => ?_) (fun hc1 => ?_))))
 ·refine Ws (Wr ?_)
  refine aI (Iv 0) aZ (On (bP z1 z1 ⟨ah.sc,J⟩ ⟨bD.mV ⟨nN oU,ah.sc,ah.sc,J⟩,J⟩))
 ·refine aA.skip (Ws (Ws (Wr ?_)))
  refine aG (Iv n) y4 (af LT.leq aV (On (aA.cond Q (fun hc2 => ?_) (fun hc2 => ?_))))
  ·refine Ws (Wr ?_)
   refine aG (Cc (.pl 0 0)) y4 (aP fun r3 hr3 => (aO.step (cZ [.c (.pl 0 0)] (Fw.Fn.ren [(0,0)] (P8 c r3 hr3) Q) L6 (kQ Q) z1 y3) z2 z1 Q Q (aG (Iv n) y4 (aP fun u4 hu4 => (dY (LT.rem Q (wo hu4)) Q Q Q Q (aI (Iv (Int.tmod r3.1 n)) y4 (On (bP z1 z1 ⟨ah.sc,J⟩ ⟨bD.mV ⟨nN oU,ah.sc,ah.sc,J⟩,J⟩))))))))
  ·refine aA.skip (Ws (Wr ?_))
   refine aG (Cc (.pl 0 0)) y4 (aP fun r5 mG => (aO.step (cZ [.c (.pl 0 0)] (Fw.Fn.ren [(0,0)] (P8 c r5 mG) Q) L6 (kQ Q) z1 y3) z2 z1 Q Q (aI (Iv r5.1) y4 (On (Ws (Wr ?_))))))
   refine aG (Cc (.pl 0 0)) y4 (aP fun r6 rW => (aO.step (cZ [.c (.pl 0 0)] (Fw.Fn.ren [(0,0)] (P8 r5.2 r6 rW) Q) L6 (kQ Q) z1 y3) z2 z1 Q Q (aI (Iv r6.1) y4 (On (Ws ?_)))))
   refine en [(0,Cc (.pl 0 0)),(1,Iv n),(5,Iv r5.1),(6,Iv r6.1)] [(0,.row 105 [fE r6.2])] z4 z1 (Wr (aG (Cc (.pl 0 0)) y4 (aP fun r7 oI => (aO.step (cZ [.c (.pl 0 0)] (Fw.Fn.ren [(0,0)] (P8 r6.2 r7 oI) Q) L6 (kQ Q) z1 y3) z2 z1 Q Q (aI (Iv r7.1) y4 (On (Ws (Wr ?_))))))))
   refine aG (Cc (.pl 0 0)) y4 (aP fun r8 tJ => (aO.step (cZ [.c (.pl 0 0)] (Fw.Fn.ren [(0,0)] (P8 r7.2 r8 tJ) Q) L6 (kQ Q) z1 y3) z2 z1 Q Q (aI (Iv r8.1) y4 (On (Ws (Wr ?_))))))
   refine aG (Iv r5.1) y4 (af LT.mul aV (aG (Iv r6.1) y4 (af LT.mul aV (af LT.add y5 (aG (Iv r7.1) y4 (af LT.mul aV (af LT.add y5 (aG (Iv r8.1) y4 (af LT.add y5 (aG (Iv n) y4 (aP fun u9 hu9 => ?_)))))))))))
   refine dY (LT.rem Q (wo hu9)) Q Q Q Q (aI (Iv (Int.tmod (aB ((aB ((aB ((aB (r5.1 * 16777216)) + (aB (r6.1 * 65536)))) + (aB (r7.1 * 256)))) + r8.1)) n)) y4 (On (bP z1 z1 ⟨ah.sc,J⟩ ⟨bD.mV ⟨nN oU,ah.sc,ah.sc,J⟩,J⟩)))
theorem aEa (c:dH) (n:Int) (odd:Int):FT Tryz.prog (Jr c n odd) 178 [.c (.pl 0 0),.c (iC n),.c (iC odd)] [(0,.row 105 [fE c])] (fun (t:(aj × dH)) => [.agg [iC t.1.aH,lo 1 t.1.aC.length]]) (fun (t:(aj × dH)) => [(0,.row 105 [fE t.2]),(1,pR 40 aK t.1.aC)]) [1]:=by
 refine FT.of [0] Tryz.func178 Tryz.ntmps178 Q y2 ?_
 intro w0 U0 R0 g0
 unfold Jr
 refine Ws (Wr ?_)
 refine eG 21 [iC 0,sC aJ] jk y6 (On (Ws (Wr ?_)))
 refine aG (Iv n) y4 (l7 (iO 22 aK [] [] iU jT y7) Q Q (dY (LT.build [(0,.tmp 10,.c (iC n)),(1,.tmp 11,.c (lo 22 (([]:List aW).length)))] Q Q Bj jk Q Q Q) Q Q Q Q (eG 23 [iC 0,sC aJ] jk y6 (bQ (stA [iC n,lo 22 (([]:List aW).length)] Q Q dA bU) Q Q Q Q Q (On (Ws (Ws ?_)))))))
 refine en [(0,Cc (.pl 0 0)),(1,Iv n),(2,Iv odd),(6,Cc (.pl 21 0)),(7,Cc (.pl 23 0))] [(0,.row 105 [fE c]),(21,.row 26 [[iC 0,sC aJ]]),(22,pR 40 aK ([]:List aW)),(23,.row 26 [[iC n,lo 22 (([]:List aW).length)]])] z5 z4 (Wr (aI (Iv 0) aZ (On (aA.block ?_))))
 refine aA.jI (id:=0) (O3 n odd) (fun s1 => ([(0,Cc (.pl 0 0)),(1,Iv n),(2,Iv odd),(6,Cc (.pl 21 0)),(7,Cc (.pl 23 0)),(8,Iv s1.1)],[(0,.row 105 [[xT dI s1.2.1,iC s1.2.2.1,iC s1.2.2.2.1]]),(21,.row 26 [[iC 0,sC aJ]]),(22,pR 40 aK s1.2.2.2.2),(23,.row 26 [[iC n,lo 22 s1.2.2.2.2.length]])])) (fun jC => ([(6,Cc (.pl 21 0)),(7,Cc (.pl 23 0))],[(0,.row 105 [[xT dI jC.1,iC jC.2.1,iC jC.2.2.1]]),(21,.row 26 [[iC 0,sC aJ]]),(22,pR 40 aK jC.2.2.2),(23,.row 26 [[iC n,lo 22 jC.2.2.2.length]])])) ?_ (aQ.of z6 z4) Q (fun jC _ => ?_)
 ·intro s1
  unfold O3
  refine Ws (Ws (Wr ?_))
  refine aG (Iv s1.1) y4 (aG (Iv n) y4 (af LT.lss y5 (On (aA.cond Q (fun V8 => ?_) (fun V8 => ?_)))))
  ·refine aA.skip (Ws (aA.block (Ws (Wr ?_))))
   refine aG (Iv s1.1) y4 (af LT.add aV (aI (Iv (aB (s1.1 + 1))) y4 (On (aA.block ?_))))
   refine aA.jI (id:=2) (Js n odd s1) (fun ji => ([(0,Cc (.pl 0 0)),(1,Iv n),(2,Iv odd),(6,Cc (.pl 21 0)),(7,Cc (.pl 23 0)),(8,Iv s1.1),(9,Iv ji.1)],[(0,.row 105 [[xT dI ji.2.1,iC ji.2.2.1,iC ji.2.2.2.1]]),(21,.row 26 [[iC 0,sC aJ]]),(22,pR 40 aK ji.2.2.2.2),(23,.row 26 [[iC n,lo 22 ji.2.2.2.2.length]])])) (fun uX => ([(0,Cc (.pl 0 0)),(1,Iv n),(2,Iv odd),(6,Cc (.pl 21 0)),(7,Cc (.pl 23 0)),(8,Iv uX.1)],[(0,.row 105 [[xT dI uX.2.1,iC uX.2.2.1,iC uX.2.2.2.1]]),(21,.row 26 [[iC 0,sC aJ]]),(22,pR 40 aK uX.2.2.2.2),(23,.row 26 [[iC n,lo 22 uX.2.2.2.2.length]])])) ?_ (aQ.of z7 z4) Q (fun uX _ => ?_)
   ·intro ji
    unfold Js
    refine Ws (Ws (Wr ?_))
    refine aG (Iv ji.1) y4 (aG (Iv n) y4 (af LT.lss y5 (On (aA.cond Q (fun aHT => ?_) (fun aHT => ?_)))))
    ·refine aA.skip (Ws (aA.block (Ws ?_)))
     refine aA.eP (fun j81 => ([(0,Cc (.pl 0 0)),(1,Iv n),(2,Iv odd),(6,Cc (.pl 21 0)),(7,Cc (.pl 23 0)),(8,Iv s1.1),(9,Iv ji.1),(34,Bv j81.1)],[(0,.row 105 [[xT dI j81.2.1,iC j81.2.2.1,iC j81.2.2.2]]),(21,.row 26 [[iC 0,sC aJ]]),(22,pR 40 aK ji.2.2.2.2),(23,.row 26 [[iC n,lo 22 ji.2.2.2.2.length]])])) ?_ (fun j81 _ => ?_)
     ·refine Wr (aG (Cc (.pl 0 0)) y4 (aP fun zx aIR => (aO.step (cZ [.c (.pl 0 0),.c (iC 10)] (Fw.Fn.ren [(0,0)] (lu (dH.mk ji.2.1 ji.2.2.1 ji.2.2.2.1) 10 zx aIR) Q) lX (iZ y2) z1 y3) ⟨Q,Q,y2,J⟩ z1 Q Q (aG (Iv odd) y4 (af LT.lss y5 (aG (Bv (decide (zx.1 < odd))) y4 (aO.split (fun zT => ?_) (fun zT => ?_))))))))
      ·refine kE (lo 22 ji.2.2.2.2.length) gK iK zT iM (aY (LT.lG Q iU) Q (gH zT Q Q) Q (iy LT.lss zT kD (dJ (Bv (decide ((ji.2.2.2.2.length:Int) < 24))) zT y5 (On (aX Q z8 z4)))))
      ·refine aS zT y5 (aS zT y5 (aS zT y5 (aS zT y5 (eU (Bv false) zT aV (On (aX Q z8 z4))))))
     ·refine aA.eP (fun j86 => ([(0,Cc (.pl 0 0)),(1,Iv n),(2,Iv odd),(6,Cc (.pl 21 0)),(7,Cc (.pl 23 0)),(8,Iv s1.1),(9,Iv ji.1)],[(0,.row 105 [[xT dI j81.2.1,iC j81.2.2.1,iC j81.2.2.2]]),(21,.row 26 [[iC 0,sC aJ]]),(22,pR 40 aK j86),(23,.row 26 [[iC n,lo 22 j86.length]])])) ?_ (fun j86 _ => ?_)
      ·refine aA.cond Q (fun aHX => ?_) (fun aHX => ?_)
       ·refine Wr (dK (lo 22 ji.2.2.2.2.length) gK iK ax (aG (Iv s1.1) y4 (aG (Iv ji.1) y4 (dY (LT.build [(0,.tmp 37,.c (iC s1.1)),(1,.tmp 38,.c (iC ji.1))] Q Q Bl jT Q Q Q) Q Q Q Q (nP (iO 25 aK [(0,.tmp 39,.agg [iC s1.1,iC ji.1])] [aW.mk s1.1 ji.1] iU jT y7) Q Q Q (aP fun u88 aIy => (ny (LT.nZ (enc:=aK) Q Q Q iU jT Q (by decide) (by decide) (fun _ => Q) (jo aIy)) Q Q Q Q Q Q (aY (LT.gU Q gK) Q Q Q (bQ (qh (.c (lo 22 ((ji.2.2.2.2 ++ [aW.mk s1.1 ji.1]).length))) [iC n,lo 22 ((ji.2.2.2.2 ++ [aW.mk s1.1 ji.1]).length)] Q Q DR EG) Q Q Q Q Q (On ?_))))))))))
        refine aX Q z7 z4
       ·refine aA.skip (aX Q z7 z4)
      ·refine aA.blk (Wr ?_)
       refine aG (Iv ji.1) y4 (af LT.add aV (aI (Iv (aB (ji.1 + 1))) y4 (On (aX Q z7 z4))))
    ·refine fV y2 z6 z4
   ·refine aA.blk (Wr ?_)
    refine aG (Iv uX.1) y4 (af LT.add aV (aI (Iv (aB (uX.1 + 1))) y4 (On (aX Q z6 z4))))
  ·refine fV y2 z2 z4
 ·refine Ws (Wr ?_)
  refine bM (bV [iC n,lo 22 jC.2.2.2.length] Q eY dA bU) Q Q Q Q (bQ (stA [iC n,lo 22 jC.2.2.2.length] Q Q dA bU) Q Q Q Q Q (On (en [(6,Cc (.pl 21 0))] [(0,.row 105 [[xT dI jC.1,iC jC.2.1,iC jC.2.2.1]]),(21,.row 26 [[iC n,lo 22 jC.2.2.2.length]]),(22,pR 40 aK jC.2.2.2)] z1 z3 (aA.ent (aQ.mv 22 1 Q Q) (en [(6,Cc (.pl 21 0))] [(0,.row 105 [[xT dI jC.1,iC jC.2.1,iC jC.2.2.1]]),(1,pR 40 aK jC.2.2.2),(21,.row 26 [[iC n,lo 1 jC.2.2.2.length]])] z1 z3 (bP ⟨⟨_,_,_,Q,Q,Q,eY,bU,_,gm dA⟩,J⟩ z2 ⟨⟨ah.sc,J,J⟩,J⟩ ⟨bD.mV ⟨nN oU,ah.sc,ah.sc,J⟩,bD.bf kG,J⟩))))))
theorem yC (x:Int) (low:Int) (high:Int):FT Tryz.prog (uM x low high) 81 [.c (iC x),.c (iC low),.c (iC high)] [] (fun (t:Bool) => [.c (bC t)]) (fun (t:Bool) => []) []:=by
 refine FT.of [] Tryz.func81 Tryz.ntmps81 Q y2 ?_
 intro w0 U0 R0 g0
 unfold uM
 refine Ws (Wr ?_)
 refine aI (Bv false) aZ (On (Ws ?_))
 refine aA.eP (fun j2 => ([(6,Bv j2)],[])) ?_ (fun j2 _ => ?_)
 ·refine Wr (aG (Iv x) y4 (aG (Iv low) y4 (af LT.geq y5 (aG (Bv (decide (low ≤ x))) y4 (aO.split (fun hb3 => ?_) (fun hb3 => ?_))))))
  ·refine eu (Iv x) hb3 y5 (eu (Iv high) hb3 y5 (iy LT.leq hb3 y6 (dJ (Bv (decide (x ≤ high))) hb3 y5 (aI (Bv (decide (x ≤ high))) y4 (On (aX Q z1 J))))))
  ·refine aS hb3 y5 (aS hb3 y5 (aS hb3 y5 (eU (Bv false) hb3 aV (aI (Bv false) y4 (On (aX Q z1 J))))))
 ·refine bP z1 J ⟨ah.sc,J⟩ J
theorem aEY (a:aW) (b:aW):FT Tryz.prog (Fa a b) 82 [.agg [iC a.A,iC a.B],.agg [iC b.A,iC b.B]] [] (fun (t:Bool) => [.c (bC t)]) (fun (t:Bool) => []) []:=by
 refine FT.of [] Tryz.func82 Tryz.ntmps82 Q y2 ?_
 intro w0 U0 R0 g0
 unfold Fa
 refine Ws (Wr ?_)
 refine iL 21 (.agg [iC a.A,iC a.B]) fB y5 (iL 22 (.agg [iC b.A,iC b.B]) fB y5 (aI (Bv false) aZ (On (Ws ?_))))
 refine aA.eP (fun j3 => ([(4,Bv j3)],[])) ?_ (fun j3 _ => ?_)
 ·refine Wr (dK (iC a.A) lM ak ax (dK (iC b.A) lM ak ax (af LT.lss y5 (aG (Bv (decide (a.A < b.A))) y4 (aO.split (fun hb4 => ?_) (fun hb4 => ?_))))))
  ·refine aS hb4 y5 (aS hb4 y5 (aS hb4 y5 (aS hb4 y5 (aS hb4 y5 (aS hb4 y5 (Oj Q Q Q Q (Oj Q Q Q Q (Oj Q Q Q Q (Oj Q Q Q Q (Oj Q Q Q Q (aS hb4 y5 ?_)))))))))))
   refine dJ (Bv true) hb4 aV (aI (Bv true) y4 (On (aX Q z1 J)))
  ·refine kE (iC a.A) lM ak hb4 iM (kE (iC b.A) lM ak hb4 iM (iy LT.eql hb4 y6 (eu (Bv (a.A == b.A)) hb4 y5 (aO.split (fun hb5 => ?_) (fun hb5 => ?_)))))
   ·refine kE (iC a.B) mZ ak hb5 iM (kE (iC b.B) mZ ak hb5 iM (iy LT.leq hb5 y6 (dY (LT.qR (v:=(Bv (decide (a.B ≤ b.B)))) Q hb5) Q Q (gH hb4 Q Q) Q (eU (Bv (decide (a.B ≤ b.B))) hb4 y5 (aI (Bv (decide (a.B ≤ b.B))) y4 (On (aX Q z1 J)))))))
   ·refine aS hb5 y5 (aS hb5 y5 (aS hb5 y5 (aS hb5 y5 (aS hb5 y5 (dY (LT.rC (v:=(Bv false)) Q hb5) Q y2 (gH hb4 Q Q) Q (eU (Bv false) hb4 y5 (aI (Bv false) y4 (On (aX Q z1 J)))))))))
 ·refine bP z1 J ⟨ah.sc,J⟩ J
theorem LH (g:aj):FT Tryz.prog (zi g) 15 [.agg (ai g)] [] (fun (t:Bool) => [.c (bC t)]) (fun (t:Bool) => []) []:=by
 refine FT.of [] Tryz.func15 Tryz.ntmps15 Q y2 ?_
 intro w0 U0 R0 g0
 unfold zi
 refine Ws (Wr ?_)
 refine iL 21 (.agg (ai g)) bU y5 (aI (Bv false) aZ (On (Ws (Ws ?_))))
 refine aA.eP (fun j3 => ([(1,Cc (.pl 21 0)),(14,Bv j3)],[(21,.row 26 [ai g])])) ?_ (fun j3 _ => ?_)
 ·refine Wr (dK (iC g.aH) kV ak ax (aP fun r4 hr4 => (jD [.c (iC g.aH),.c (iC 1),.c (iC 8)] (yC g.aH 1 8 r4 hr4) xK (qF y3) y5 ⟨Q,Q,y2,y2,J⟩ (aY (LT.not Q) Q Q Q (aG (Bv (!r4)) y4 (aO.split (fun hb5 => ?_) (fun hb5 => ?_)))))))
  ·refine aS hb5 y5 (aS hb5 y5 (aS hb5 y5 (aS hb5 y5 (dJ (Bv true) hb5 aV (On (aX Q z2 z1))))))
  ·refine kE (xF aK g.aC) gK iK hb5 iM (aY (LT.iI Q iU) Q (gH hb5 Q Q) Q (iy LT.gtr hb5 kD (eU (Bv (decide (24 < (g.aC.length:Int)))) hb5 y5 (On (aX Q z2 z1)))))
 ·refine aA.cond Q (fun hc6 => ?_) (fun hc6 => ?_)
  ·refine Ws (Wr ?_)
   refine aI (Bv false) aZ (On (bP z1 J ⟨ah.sc,J⟩ J))
  ·refine aA.skip (Ws (Ws (Wr ?_)))
   refine aI (Iv 0) aZ (On (aA.block ?_))
   refine aA.oz (id:=0) (Oi g) (fun s7 => ([(1,Cc (.pl 21 0)),(3,Iv s7)],[(21,.row 26 [ai g])])) (fun Ll => ([],[])) (lU Tryz.prog Tryz.f15.results.toList [] [] (fun (t:Bool) => [.c (bC t)]) (fun (t:Bool) => [])) ?_ (aQ.of z2 z1) Q (fun Ll _ => ?_) qC
   ·intro s7
    unfold Oi
    refine Ws (Ws (Wr ?_))
    refine aG (Iv s7) y4 (dK (xF aK g.aC) gK iK ax (aY (LT.iI Q iU) Q Q Q (af LT.lss y5 (On (aA.cond Q (fun MX => ?_) (fun MX => ?_))))))
    ·refine aA.skip (Ws (aA.block (Ws (Wr ?_))))
     refine dK (xF aK g.aC) gK iK ax (aG (Iv s7) y4 (aP fun jG H6 => (dY (LT.eF (enc:=aK) Q nU H6 fB) Q Q Q Q (aY (lH Q kz jL fB) Q Q Q (eG 23 [iC 0,iC 0] jT y6 (bQ (stA [iC jG.A,iC jG.B] Q Q jL fB) Q Q Q Q Q (On (Ws ?_))))))))
     refine aA.eP (fun j49 => ([(1,Cc (.pl 21 0)),(3,Iv s7),(58,Bv j49)],[(21,.row 26 [ai g])])) ?_ (fun j49 _ => ?_)
     ·refine en [(1,Cc (.pl 21 0)),(3,Iv s7),(4,Cc (.pl 23 0))] [(21,.row 26 [ai g]),(23,.row 40 [[iC jG.A,iC jG.B]])] z3 z2 (aA.draw mixed (eH (iC jG.A) lM ak ax (jJ LT.lss aV (bJ (Bv (decide (jG.A < 0))) y4 (aU.split (fun pq => ?_) (fun pq => ?_))))))
      ·refine bI pq y3 (bI pq y3 (bI pq y3 (bI pq y3 (bI pq y3 (oJ (Bv true) pq aV (bJ (Bv true) y4 (bH y3 (bH y3 (bH y3 (bH y3 (bH y3 ?_)))))))))))
       refine oJ (Bv true) Q aV (bJ (Bv true) y4 (bH y3 (bH y3 (bH y3 (bH y3 (bH y3 (bH y3 (bH y3 (bH y3 (bH y3 (bH y3 ?_)))))))))))
       refine bH y3 (bH y3 (bH y3 (oJ (Bv true) Q aV (fA (aX Q z3 z1)))))
      ·refine oC (iC jG.A) lM ak pq iM (oC (iC jG.B) mZ ak pq iM (oZ LT.geq pq y6 (o7 (Bv (decide (jG.B ≤ jG.A))) pq y5 (bJ (Bv (decide (jG.B ≤ jG.A))) y4 (aU.split (fun pz => ?_) (fun pz => ?_))))))
       ·refine bI pz y3 (bI pz y3 (bI pz y3 (bI pz y3 (bI pz y3 (oJ (Bv true) pz aV (bJ (Bv true) y4 (bH y3 (bH y3 (bH y3 (bH y3 (bH y3 ?_)))))))))))
        refine bH y3 (bH y3 (bH y3 (bH y3 (bH y3 (bH y3 (bH y3 (bH y3 (oJ (Bv true) Q aV (fA (aX Q z3 z1))))))))))
       ·refine oC (iC jG.B) mZ ak pz iM (oC (iC g.aH) kV ak pz iM (oZ LT.geq pz y6 (o7 (Bv (decide (g.aH ≤ jG.B))) pz y5 (bJ (Bv (decide (g.aH ≤ jG.B))) y4 (aU.split (fun oG => ?_) (fun oG => ?_))))))
        ·refine bI oG y3 (bI oG y3 (bI oG y3 (bH y3 (bH y3 (bH y3 (bH y3 (bH y3 (bH y3 (bH y3 (bH y3 (bH y3 ?_)))))))))))
         refine bI oG y3 (oJ (Bv true) oG aV (fA (aX Q z3 z1)))
        ·refine nV (Iv s7) oG y5 (oZ LT.gtr oG kD (nV (Bv (decide (0 < s7))) oG y5 (aU.split (fun kF => ?_) (fun kF => ?_))))
         ·refine oC (xF aK g.aC) gK iK kF iM (nV (Iv s7) kF y5 (oZ LT.sub kF kD (aU.bind fun x54 BK => (dZ (LT.eF (enc:=aK) Q nU BK fB) Q Q (gH kF Q Q) Q (bg (lH Q kz jL fB) Q (gH kF Q Q) Q (gq (bV [iC jG.A,iC jG.B] Q kz jL fB) Q Q (gH kF Q Q) Q (aU.bind fun yt WW => (aU.pure (cZ [.agg [iC x54.A,iC x54.B],.agg [iC jG.A,iC jG.B]] (aEY x54 jG yt WW) aAC (Px y4) J y3) z3 J (gH kF Q Q) Q (bg (LT.not Q) Q (gH kF Q Q) Q (dZ (LT.qR (v:=(Bv (!yt))) Q kF) Q Q (gH oG Q Q) Q ?_))))))))))
          refine o7 (Bv (!yt)) oG y5 (fA (aX Q z3 z1))
         ·refine bI kF y3 (bI kF y3 (bI kF y3 (bI kF y3 (bI kF y3 (bI kF y3 (bI kF y3 (bI kF y3 (bI kF y3 (dZ (LT.rC (v:=(Bv false)) Q kF) Q y2 (gH oG Q Q) Q (o7 (Bv false) oG y5 (fA ?_)))))))))))
          refine aX Q z3 z1
     ·refine aA.cond Q (fun V9 => ?_) (fun V9 => ?_)
      ·refine Ws (Wr ?_)
       refine aI (Bv false) aZ (On (aA.ret ⟨Q,pX z1 J ⟨ah.sc,J⟩ J⟩))
      ·refine aA.skip (aA.blk (Wr ?_))
       refine aG (Iv s7) y4 (af LT.add aV (aI (Iv (aB (s7 + 1))) y4 (On (aX Q z2 z1))))
    ·refine fV y2 J J
   ·refine Ws (Wr ?_)
    refine aI (Bv true) aZ (On (bP z1 J ⟨ah.sc,J⟩ J))
theorem Yq (g:aj):FT Tryz.prog (Fb g) 88 [.agg (ai g)] [] (fun (t:aj) => [.agg [iC t.aH,lo 0 t.aC.length]]) (fun (t:aj) => [(0,pR 40 aK t.aC)]) [0]:=by
 refine FT.of [] Tryz.func88 Tryz.ntmps88 Q y2 ?_
 intro w0 U0 R0 g0
 unfold Fb
 refine Ws (Wr ?_)
 refine iL 21 (.agg (ai g)) bU y5 (eG 22 [iC 0,sC aJ] jk y6 (On (Ws (aA.draw mixed ?_))))
 refine eH (iC g.aH) kV ak ax (xI (iO 23 aK [] [] iU jT y7) Q Q (eH (xF aK g.aC) gK iK ax (aU.bind fun u1 hu1 => (kJ (LT.AO (enc:=aK) Q  Q iU jT Q (by decide) (by decide) (fun _ => Q) (jo hu1)) Q Q Q Q Q (dZ (LT.build [(0,.tmp 4,.c (iC g.aH)),(1,.tmp 8,.c (lo 23 ((([]:List aW) ++ g.aC).length)))] Q Q Bj jk Q Q Q) Q Q Q Q (kJ (stA [iC g.aH,lo 23 ((([]:List aW) ++ g.aC).length)] Q Q dA bU) Q Q Q Q Q (fA (en [(2,Cc (.pl 22 0))] [(22,.row 26 [[iC g.aH,lo 23 ((([]:List aW) ++ g.aC).length)]]),(23,pR 40 aK (([]:List aW) ++ g.aC))] z1 z2 (aA.ent (aQ.mv 23 0 Q Q) ?_)))))))))
 refine en [(2,Cc (.pl 22 0))] [(0,pR 40 aK (([]:List aW) ++ g.aC)),(22,.row 26 [[iC g.aH,lo 0 ((([]:List aW) ++ g.aC).length)]])] z1 z2 (bP ⟨⟨_,_,_,Q,Q,Q,eY,bU,_,gm dA⟩,J⟩ z1 ⟨⟨ah.sc,J,J⟩,J⟩ ⟨bD.bf kG,J⟩)
theorem Gh (g:aj) (x:aW):FT Tryz.prog (yh g x) 90 [.agg (ai g),.agg [iC x.A,iC x.B]] [] (fun (t:aj) => [.agg [iC t.aH,lo 0 t.aC.length]]) (fun (t:aj) => [(0,pR 40 aK t.aC)]) [0]:=by
 refine FT.of [] Tryz.func90 Tryz.ntmps90 Q y2 ?_
 intro w0 U0 R0 g0
 unfold yh
 refine Ws (Wr ?_)
 refine iL 21 (.agg (ai g)) bU y5 (iL 22 (.agg [iC x.A,iC x.B]) fB y5 (eG 23 [iC 0,sC aJ] jk y6 (On (Ws (Wr ?_)))))
 refine dK (iC g.aH) kV ak ax (l7 (iO 24 aK [] [] iU jT y7) Q Q (dY (LT.build [(0,.tmp 9,.c (iC g.aH)),(1,.tmp 10,.c (lo 24 (([]:List aW).length)))] Q Q Bj jk Q Q Q) Q Q Q Q (eG 25 [iC 0,sC aJ] jk y6 (bQ (stA [iC g.aH,lo 24 (([]:List aW).length)] Q Q dA bU) Q Q Q Q Q (On (Ws ?_))))))
 refine en [(2,Cc (.pl 21 0)),(3,Cc (.pl 22 0)),(4,Cc (.pl 23 0)),(5,Cc (.pl 25 0))] [(21,.row 26 [ai g]),(22,.row 40 [[iC x.A,iC x.B]]),(23,.row 26 [[iC 0,sC aJ]]),(24,pR 40 aK ([]:List aW)),(25,.row 26 [[iC g.aH,lo 24 (([]:List aW).length)]])] z4 z5 (Wr (aI (Bv false) aZ (On (Ws (Ws (Wr ?_))))))
 refine aI (Iv 0) aZ (On (aA.block ?_))
 refine aA.jI (id:=0) (BZ g x) (fun s1 => ([(2,Cc (.pl 21 0)),(3,Cc (.pl 22 0)),(4,Cc (.pl 23 0)),(5,Cc (.pl 25 0)),(6,Bv s1.1),(7,Iv s1.2.1)],[(21,.row 26 [ai g]),(22,.row 40 [[iC x.A,iC x.B]]),(23,.row 26 [[iC 0,sC aJ]]),(24,pR 40 aK s1.2.2),(25,.row 26 [[iC g.aH,lo 24 s1.2.2.length]])])) (fun wH => ([(3,Cc (.pl 22 0)),(4,Cc (.pl 23 0)),(5,Cc (.pl 25 0)),(6,Bv wH.1)],[(22,.row 40 [[iC x.A,iC x.B]]),(23,.row 26 [[iC 0,sC aJ]]),(24,pR 40 aK wH.2),(25,.row 26 [[iC g.aH,lo 24 wH.2.length]])])) ?_ (aQ.of z6 z5) Q (fun wH _ => ?_)
 ·intro s1
  unfold BZ
  refine Ws (Ws (Wr ?_))
  refine aG (Iv s1.2.1) y4 (dK (xF aK g.aC) gK iK ax (aY (LT.iI Q iU) Q Q Q (af LT.lss y5 (On (aA.cond Q (fun MW => ?_) (fun MW => ?_))))))
  ·refine aA.skip (Ws (aA.block (Ws (Ws ?_))))
   refine aA.eP (fun j34 => ([(2,Cc (.pl 21 0)),(3,Cc (.pl 22 0)),(4,Cc (.pl 23 0)),(5,Cc (.pl 25 0)),(6,Bv s1.1),(7,Iv s1.2.1),(30,Bv j34)],[(21,.row 26 [ai g]),(22,.row 40 [[iC x.A,iC x.B]]),(23,.row 26 [[iC 0,sC aJ]]),(24,pR 40 aK s1.2.2),(25,.row 26 [[iC g.aH,lo 24 s1.2.2.length]])])) ?_ (fun j34 _ => ?_)
   ·refine aA.draw mixed (bJ (Bv s1.1) y4 (bg (LT.not Q) Q Q Q (bJ (Bv (!s1.1)) y4 (aU.split (fun mQ => ?_) (fun mQ => ?_)))))
    ·refine oC (xF aK g.aC) gK iK mQ iM (nV (Iv s1.2.1) mQ y5 (aU.bind fun QE aJA => (dZ (LT.eF (enc:=aK) Q nU aJA fB) Q Q (gH mQ Q Q) Q (bg (lH Q kz jL fB) Q (gH mQ Q Q) Q (gq (bV [iC x.A,iC x.B] Q kz jL fB) Q Q (gH mQ Q Q) Q (aU.bind fun ig WT => (aU.pure (cZ [.agg [iC QE.A,iC QE.B],.agg [iC x.A,iC x.B]] (aEY QE x ig WT) aAC (Px y4) J y3) z3 J (gH mQ Q Q) Q (bg (LT.not Q) Q (gH mQ Q Q) Q (oJ (Bv (!ig)) mQ y5 (fA ?_))))))))))
     refine aX Q z7 z5
    ·refine bI mQ y3 (bI mQ y3 (bI mQ y3 (bI mQ y3 (bI mQ y3 (bI mQ y3 (bI mQ y3 (bI mQ y3 (o7 (Bv false) mQ aV (fA (aX Q z7 z5))))))))))
   ·refine aA.eP (fun j40 => ([(2,Cc (.pl 21 0)),(3,Cc (.pl 22 0)),(4,Cc (.pl 23 0)),(5,Cc (.pl 25 0)),(6,Bv j40.1),(7,Iv s1.2.1)],[(21,.row 26 [ai g]),(22,.row 40 [[iC x.A,iC x.B]]),(23,.row 26 [[iC 0,sC aJ]]),(24,pR 40 aK j40.2),(25,.row 26 [[iC g.aH,lo 24 j40.2.length]])])) ?_ (fun j40 _ => ?_)
    ·refine aA.cond Q (fun MX => ?_) (fun MX => ?_)
     ·refine Ws (Wr ?_)
      refine dK (lo 24 s1.2.2.length) gK iK ax (bM (bV [iC x.A,iC x.B] Q kz jL fB) Q Q Q Q (nP (iO 27 aK [(0,.tmp 33,.agg [iC x.A,iC x.B])] [x] iU jT y7) Q Q Q (aP fun u42 aIp => (ny (LT.nZ (enc:=aK) Q Q Q iU jT Q (by decide) (by decide) (fun _ => Q) (jo aIp)) Q Q Q Q Q Q (aY (LT.gU Q gK) Q Q Q (bQ (qh (.c (lo 24 ((s1.2.2 ++ [x]).length))) [iC g.aH,lo 24 ((s1.2.2 ++ [x]).length)] Q Q DR EG) Q Q Q Q Q (On (en [(2,Cc (.pl 21 0)),(3,Cc (.pl 22 0)),(4,Cc (.pl 23 0)),(5,Cc (.pl 25 0)),(7,Iv s1.2.1)] [(21,.row 26 [ai g]),(22,.row 40 [[iC x.A,iC x.B]]),(23,.row 26 [[iC 0,sC aJ]]),(24,pR 40 aK (s1.2.2 ++ [x])),(25,.row 26 [[iC g.aH,lo 24 ((s1.2.2 ++ [x]).length)]])] z5 z5 (Wr (aI (Bv true) aZ ?_))))))))))
      refine On (aX Q z6 z5)
     ·refine aA.skip (aX Q z6 z5)
    ·refine aA.draw mixed (eH (lo 24 j40.2.length) gK iK ax (eH (xF aK g.aC) gK iK ax (bJ (Iv s1.2.1) y4 (aU.bind fun x43 H7 => (dZ (LT.eF (enc:=aK) Q nU H7 fB) Q Q Q Q (bg (lH Q kz jL fB) Q Q Q (Gu (iO 28 aK [(0,.tmp 43,.agg [iC x43.A,iC x43.B])] [x43] iU jT y7) Q Q Q (aU.bind fun u44 NT => (LX (LT.nZ (enc:=aK) Q Q Q iU jT Q (by decide) (by decide) (fun _ => Q) (jo NT)) Q Q Q Q Q Q ?_)))))))))
     refine bg (LT.gU Q gK) Q Q Q (kJ (qh (.c (lo 24 ((j40.2 ++ [x43]).length))) [iC g.aH,lo 24 ((j40.2 ++ [x43]).length)] Q Q DR EG) Q Q Q Q Q (fA (aA.blk (en [(2,Cc (.pl 21 0)),(3,Cc (.pl 22 0)),(4,Cc (.pl 23 0)),(5,Cc (.pl 25 0)),(6,Bv j40.1),(7,Iv s1.2.1)] [(21,.row 26 [ai g]),(22,.row 40 [[iC x.A,iC x.B]]),(23,.row 26 [[iC 0,sC aJ]]),(24,pR 40 aK (j40.2 ++ [x43])),(25,.row 26 [[iC g.aH,lo 24 ((j40.2 ++ [x43]).length)]])] z6 z5 (Wr (aG (Iv s1.2.1) y4 (af LT.add aV (aI (Iv (aB (s1.2.1 + 1))) y4 (On (aX Q z6 z5))))))))))
  ·refine fV y2 z4 z4
 ·refine Ws (Ws (Wr ?_))
  refine aG (Bv wH.1) y4 (aY (LT.not Q) Q Q Q (On (aA.eP (fun j47 => ([(4,Cc (.pl 23 0)),(5,Cc (.pl 25 0))],[(23,.row 26 [[iC 0,sC aJ]]),(24,pR 40 aK j47),(25,.row 26 [[iC g.aH,lo 24 j47.length]])])) ?_ (fun j47 _ => ?_))))
  ·refine aA.cond Q (fun MZ => ?_) (fun MZ => ?_)
   ·refine Wr (dK (lo 24 wH.2.length) gK iK ax (bM (bV [iC x.A,iC x.B] Q kz jL fB) Q Q Q Q (nP (iO 29 aK [(0,.tmp 51,.agg [iC x.A,iC x.B])] [x] iU jT y7) Q Q Q (aP fun u49 aIq => (ny (LT.nZ (enc:=aK) Q Q Q iU jT Q (by decide) (by decide) (fun _ => Q) (jo aIq)) Q Q Q Q Q Q (aY (LT.gU Q gK) Q Q Q (bQ (qh (.c (lo 24 ((wH.2 ++ [x]).length))) [iC g.aH,lo 24 ((wH.2 ++ [x]).length)] Q Q DR EG) Q Q Q Q Q (On (aX Q z2 z3)))))))))
   ·refine aA.skip (aX Q z2 z3)
  ·refine Ws (Wr ?_)
   refine bM (bV [iC g.aH,lo 24 j47.length] Q eY dA bU) Q Q Q Q (bQ (stA [iC g.aH,lo 24 j47.length] Q Q dA bU) Q Q Q Q Q (On (en [(4,Cc (.pl 23 0))] [(23,.row 26 [[iC g.aH,lo 24 j47.length]]),(24,pR 40 aK j47)] z1 z2 (aA.ent (aQ.mv 24 0 Q Q) (en [(4,Cc (.pl 23 0))] [(0,pR 40 aK j47),(23,.row 26 [[iC g.aH,lo 0 j47.length]])] z1 z2 (bP ⟨⟨_,_,_,Q,Q,Q,eY,bU,_,gm dA⟩,J⟩ z1 ⟨⟨ah.sc,J,J⟩,J⟩ ⟨bD.bf kG,J⟩))))))
theorem Ym (g:aj) (a:Int) (b:Int):FT Tryz.prog (FP g a b) 22 [.agg (ai g),.c (iC a),.c (iC b)] [] (fun (t:(aj × Bool)) => [.agg [iC t.1.aH,lo 0 t.1.aC.length],.c (bC t.2)]) (fun (t:(aj × Bool)) => [(0,pR 40 aK t.1.aC)]) [0]:=by
 refine FT.of [] Tryz.func22 Tryz.ntmps22 Q y2 ?_
 intro w0 U0 R0 g0
 unfold FP
 refine Ws (Wr ?_)
 refine iL 21 (.agg (ai g)) bU y5 (eG 22 [iC 0,sC aJ] jk y6 (aI (Bv false) aZ (On (Ws (Ws ?_)))))
 refine aA.eP (fun j8 => ([(1,Iv a),(2,Iv b),(3,Cc (.pl 21 0)),(6,Cc (.pl 22 0)),(41,Bv j8)],[(21,.row 26 [ai g]),(22,.row 26 [[iC 0,sC aJ]])])) ?_ (fun j8 _ => ?_)
 ·refine Wr (bM (bV (ai g) Q eY dA bU) Q Q Q Q (aP fun r9 rX => (jD [.agg (ai g)] (LH g r9 rX) G7 (vX y2) y5 z2 (aY (LT.not Q) Q Q Q (aG (Bv (!r9)) y4 (aO.split (fun qZ => ?_) (fun qZ => ?_)))))))
  ·refine aS qZ y5 (aS qZ y5 (dJ (Bv true) qZ aV (aG (Bv true) y4 (ay y5 (ay y5 (dJ (Bv true) Q aV (aG (Bv true) y4 (ay y5 (ay y5 (ay y5 (ay y5 ?_)))))))))))
   refine dJ (Bv true) Q aV (aG (Bv true) y4 (ay y5 (ay y5 (ay y5 (ay y5 (dJ (Bv true) Q aV (aG (Bv true) y4 (ay y5 (ay y5 (ay y5 (dJ (Bv true) Q aV ?_)))))))))))
   refine aG (Bv true) y4 (ay y5 (ay y5 (ay y5 (ay y5 (dJ (Bv true) Q aV (On (aX Q z5 z2)))))))
  ·refine eu (Iv a) qZ y5 (iy LT.lss qZ kD (eU (Bv (decide (a < 0))) qZ y5 (aG (Bv (decide (a < 0))) y4 (aO.split (fun lZ => ?_) (fun lZ => ?_)))))
   ·refine aS lZ y5 (aS lZ y5 (dJ (Bv true) lZ aV (aG (Bv true) y4 (ay y5 (ay y5 (ay y5 (ay y5 (dJ (Bv true) Q aV (aG (Bv true) y4 (ay y5 (ay y5 ?_)))))))))))
    refine ay y5 (ay y5 (dJ (Bv true) Q aV (aG (Bv true) y4 (ay y5 (ay y5 (ay y5 (dJ (Bv true) Q aV (aG (Bv true) y4 (ay y5 (ay y5 (ay y5 ?_)))))))))))
    refine ay y5 (dJ (Bv true) Q aV (On (aX Q z5 z2)))
   ·refine eu (Iv b) lZ y5 (iy LT.lss lZ kD (eU (Bv (decide (b < 0))) lZ y5 (aG (Bv (decide (b < 0))) y4 (aO.split (fun zQ => ?_) (fun zQ => ?_)))))
    ·refine aS zQ y5 (aS zQ y5 (aS zQ y5 (aS zQ y5 (dJ (Bv true) zQ aV (aG (Bv true) y4 (ay y5 (ay y5 (ay y5 (ay y5 (dJ (Bv true) Q aV (aG (Bv true) y4 ?_)))))))))))
     refine ay y5 (ay y5 (ay y5 (dJ (Bv true) Q aV (aG (Bv true) y4 (ay y5 (ay y5 (ay y5 (ay y5 (dJ (Bv true) Q aV (On (aX Q z5 z2)))))))))))
    ·refine eu (Iv a) zQ y5 (kE (iC g.aH) kV ak zQ iM (iy LT.geq zQ y6 (eU (Bv (decide (g.aH ≤ a))) zQ y5 (aG (Bv (decide (g.aH ≤ a))) y4 (aO.split (fun sJ => ?_) (fun sJ => ?_))))))
     ·refine aS sJ y5 (aS sJ y5 (aS sJ y5 (aS sJ y5 (dJ (Bv true) sJ aV (aG (Bv true) y4 (ay y5 (ay y5 (ay y5 (dJ (Bv true) Q aV (aG (Bv true) y4 (ay y5 ?_)))))))))))
      refine ay y5 (ay y5 (ay y5 (dJ (Bv true) Q aV (On (aX Q z5 z2)))))
     ·refine eu (Iv b) sJ y5 (kE (iC g.aH) kV ak sJ iM (iy LT.geq sJ y6 (eU (Bv (decide (g.aH ≤ b))) sJ y5 (aG (Bv (decide (g.aH ≤ b))) y4 (aO.split (fun qP => ?_) (fun qP => ?_))))))
      ·refine aS qP y5 (aS qP y5 (aS qP y5 (dJ (Bv true) qP aV (aG (Bv true) y4 (ay y5 (ay y5 (ay y5 (ay y5 (dJ (Bv true) Q aV (On (aX Q z5 z2)))))))))))
      ·refine eu (Iv a) qP y5 (eu (Iv b) qP y5 (iy LT.eql qP y6 (eU (Bv (a == b)) qP y5 (aG (Bv (a == b)) y4 (aO.split (fun lg => ?_) (fun lg => ?_))))))
       ·refine aS lg y5 (aS lg y5 (aS lg y5 (aS lg y5 (dJ (Bv true) lg aV (On (aX Q z5 z2))))))
       ·refine kE (xF aK g.aC) gK iK lg iM (aY (LT.iI Q iU) Q (gH lg Q Q) Q (iy LT.geq lg kD (eU (Bv (decide (24 ≤ (g.aC.length:Int)))) lg y5 (On (aX Q z5 z2)))))
 ·refine aA.cond Q (fun hc16 => ?_) (fun hc16 => ?_)
  ·refine Ws (Wr ?_)
   refine bM (bV (ai g) Q eY dA bU) Q Q Q Q (aP fun qU WQ => (aO.step (cZ [.agg (ai g)] (Fw.Fn.ren [(0,25)] (Yq g qU WQ) Q) VA (vX y2) J y3) z2 J Q Q (bQ (stA [iC qU.aH,lo 25 qU.aC.length] Q Q dA bU) Q Q Q Q Q (aI (Bv false) aZ (On (en [(6,Cc (.pl 22 0)),(7,Bv false)] [(22,.row 26 [[iC qU.aH,lo 25 qU.aC.length]]),(25,pR 40 aK qU.aC)] z2 z2 (aA.ent (aQ.mv 25 0 Q Q) (en [(6,Cc (.pl 22 0)),(7,Bv false)] [(0,pR 40 aK qU.aC),(22,.row 26 [[iC qU.aH,lo 0 qU.aC.length]])] z2 z2 (bP ⟨⟨_,_,_,Q,Q,Q,eY,bU,_,gm dA⟩,Q,J⟩ z1 ⟨⟨ah.sc,J,J⟩,ah.sc,J⟩ ⟨bD.bf kG,J⟩)))))))))
  ·refine aA.skip (Ws (Wr ?_))
   refine bM (bV (ai g) Q eY dA bU) Q Q Q Q (aG (Iv a) y4 (aG (Iv b) y4 (af LT.min y5 (aG (Iv a) y4 (aG (Iv b) y4 (af LT.max y5 (dY (LT.build [(0,.tmp 47,.c (iC (if b < a then b else a))),(1,.tmp 50,.c (iC (if a < b then b else a)))] Q Q Bl jT Q Q Q) Q Q Q Q (aP fun jr NM => (aO.step (cZ [.agg (ai g),.agg [iC (if b < a then b else a),iC (if a < b then b else a)]] (Fw.Fn.ren [(0,27)] (Gh g (aW.mk (if b < a then b else a) (if a < b then b else a)) jr NM) Q) EU (Px y4) J y3) z3 J Q Q (bQ (stA [iC jr.aH,lo 27 jr.aC.length] Q Q dA bU) Q Q Q Q Q (aI (Bv true) aZ ?_)))))))))))
   refine On (en [(6,Cc (.pl 22 0)),(7,Bv true)] [(22,.row 26 [[iC jr.aH,lo 27 jr.aC.length]]),(27,pR 40 aK jr.aC)] z2 z2 (aA.ent (aQ.mv 27 0 Q Q) (en [(6,Cc (.pl 22 0)),(7,Bv true)] [(0,pR 40 aK jr.aC),(22,.row 26 [[iC jr.aH,lo 0 jr.aC.length]])] z2 z2 (bP ⟨⟨_,_,_,Q,Q,Q,eY,bU,_,gm dA⟩,Q,J⟩ z1 ⟨⟨ah.sc,J,J⟩,ah.sc,J⟩ ⟨bD.bf kG,J⟩))))
theorem Ub (c:dH) (list:(List Int)):FT Tryz.prog (Dp c list) 135 [.c (.pl 0 0),.c (xF aF list)] [(0,.row 105 [fE c])] (fun (t:(Int × dH)) => [.c (iC t.1)]) (fun (t:(Int × dH)) => [(0,.row 105 [fE t.2])]) []:=by
 refine FT.of [0] Tryz.func135 Tryz.ntmps135 Q y2 ?_
 intro w0 U0 R0 g0
 unfold Dp
 refine Ws (Wr ?_)
 refine aI (Iv 0) aZ (On (Ws (Wr ?_)))
 refine aG (Cc (xF aF list)) y4 (aG (Cc (.pl 0 0)) y4 (aG (Cc (xF aF list)) y4 (aY (LT.iI Q dS) Q Q Q (aP fun r1 hr1 => (aO.step (cZ [.c (.pl 0 0),.c (iC (list.length:Int))] (Fw.Fn.ren [(0,0)] (lu c (list.length:Int) r1 hr1) Q) lX (iZ y2) z1 y3) z3 z1 Q Q (aP fun x2 hx2 => (dY (LT.eF (enc:=aF) Q dU hx2 gI) Q Q Q Q (aY (LT.iw Q ak) Q Q Q (aI (Iv x2) y4 (On (bP z1 z1 ⟨ah.sc,J⟩ ⟨bD.mV ⟨nN oU,ah.sc,ah.sc,J⟩,J⟩)))))))))))
theorem P9 (c:dH) (n:Int):FT Tryz.prog (BX c n) 147 [.c (.pl 0 0),.c (iC n)] [(0,.row 105 [fE c])] (fun (t:(Bool × dH)) => [.c (bC t.1)]) (fun (t:(Bool × dH)) => [(0,.row 105 [fE t.2])]) []:=by
 refine FT.of [0] Tryz.func147 Tryz.ntmps147 Q y2 ?_
 intro w0 U0 R0 g0
 unfold BX
 refine Ws (Wr ?_)
 refine aI (Bv false) aZ (On (Ws (Wr ?_)))
 refine aG (Cc (.pl 0 0)) y4 (aG (Iv n) y4 (aP fun r1 hr1 => (aO.step (cZ [.c (.pl 0 0),.c (iC n)] (Fw.Fn.ren [(0,0)] (lu c n r1 hr1) Q) lX (iZ y2) z1 y3) z3 z1 Q Q (af LT.eql aV (aI (Bv (r1.1 == 0)) y4 (On (bP z1 z1 ⟨ah.sc,J⟩ ⟨bD.mV ⟨nN oU,ah.sc,ah.sc,J⟩,J⟩)))))))
theorem aM2 (c:dH) (n:Int) (x:aW) (other:Int):FT Tryz.prog (O8 c n x other) 170 [.c (.pl 0 0),.c (iC n),.agg [iC x.A,iC x.B],.c (iC other)] [(0,.row 105 [fE c])] (fun (t:(Int × dH)) => [.c (iC t.1)]) (fun (t:(Int × dH)) => [(0,.row 105 [fE t.2])]) []:=by
 refine FT.of [0] Tryz.func170 Tryz.ntmps170 Q y2 ?_
 intro w0 U0 R0 g0
 unfold O8
 refine Ws (Wr ?_)
 refine iL 21 (.agg [iC x.A,iC x.B]) fB y5 (aI (Iv 0) aZ (On (Ws (Wr ?_))))
 refine aG (Cc (.pl 0 0)) y4 (aG (Iv n) y4 (aP fun r1 hr1 => (aO.step (cZ [.c (.pl 0 0),.c (iC n)] (Fw.Fn.ren [(0,0)] (lu c n r1 hr1) Q) lX (iZ y2) z1 y3) z3 z1 Q Q (aI (Iv r1.1) y4 (On (Ws (Ws ?_)))))))
 refine aA.eP (fun j3 => ([(3,Iv other),(9,Iv r1.1),(22,Bv j3)],[(0,.row 105 [fE r1.2])])) ?_ (fun j3 _ => ?_)
 ·refine Wr (aG (Iv r1.1) y4 (dK (iC x.A) lM ak ax (af LT.eql y5 (aG (Bv (r1.1 == x.A)) y4 (aO.split (fun hb4 => ?_) (fun hb4 => ?_))))))
  ·refine aS hb4 y5 (aS hb4 y5 (aS hb4 y5 (aS hb4 y5 (dJ (Bv true) hb4 aV (On (aX Q z3 z1))))))
  ·refine eu (Iv r1.1) hb4 y5 (kE (iC x.B) mZ ak hb4 iM (iy LT.eql hb4 y6 (eU (Bv (r1.1 == x.B)) hb4 y5 (On (aX Q z3 z1)))))
 ·refine aA.cond Q (fun hc5 => ?_) (fun hc5 => ?_)
  ·refine Ws (Wr ?_)
   refine aG (Iv other) y4 (aI (Iv other) y4 (On (bP z1 z1 ⟨ah.sc,J⟩ ⟨bD.mV ⟨nN oU,ah.sc,ah.sc,J⟩,J⟩)))
  ·refine aA.skip (Ws (Wr ?_))
   refine aG (Iv r1.1) y4 (aI (Iv r1.1) y4 (On (bP z1 z1 ⟨ah.sc,J⟩ ⟨bD.mV ⟨nN oU,ah.sc,ah.sc,J⟩,J⟩)))
theorem aET (g:aj) (k:Int):FT Tryz.prog (Jd g k) 108 [.agg (ai g),.c (iC k)] [] (fun (t:(aj × Bool)) => [.agg [iC t.1.aH,lo 0 t.1.aC.length],.c (bC t.2)]) (fun (t:(aj × Bool)) => [(0,pR 40 aK t.1.aC)]) [0]:=by
 refine FT.of [] Tryz.func108 Tryz.ntmps108 Q y2 ?_
 intro w0 U0 R0 g0
 unfold Jd
 refine Ws (Wr ?_)
 refine iL 21 (.agg (ai g)) bU y5 (eG 22 [iC 0,sC aJ] jk y6 (aI (Bv false) aZ (On (Ws (Ws ?_)))))
 refine aA.eP (fun j4 => ([(1,Iv k),(2,Cc (.pl 21 0)),(4,Cc (.pl 22 0)),(19,Bv j4)],[(21,.row 26 [ai g]),(22,.row 26 [[iC 0,sC aJ]])])) ?_ (fun j4 _ => ?_)
 ·refine Wr (bM (bV (ai g) Q eY dA bU) Q Q Q Q (aP fun r5 mG => (jD [.agg (ai g)] (LH g r5 mG) G7 (vX y2) y5 z2 (aY (LT.not Q) Q Q Q (aG (Bv (!r5)) y4 (aO.split (fun hb6 => ?_) (fun hb6 => ?_)))))))
  ·refine aS hb6 y5 (aS hb6 y5 (dJ (Bv true) hb6 aV (aG (Bv true) y4 (ay y5 (ay y5 (ay y5 (ay y5 (ay y5 (dJ (Bv true) Q aV (On (aX Q z4 z2)))))))))))
  ·refine eu (Iv k) hb6 y5 (iy LT.lss hb6 kD (eU (Bv (decide (k < 0))) hb6 y5 (aG (Bv (decide (k < 0))) y4 (aO.split (fun hb7 => ?_) (fun hb7 => ?_)))))
   ·refine aS hb7 y5 (aS hb7 y5 (aS hb7 y5 (aS hb7 y5 (aS hb7 y5 (dJ (Bv true) hb7 aV (On (aX Q z4 z2)))))))
   ·refine eu (Iv k) hb7 y5 (kE (xF aK g.aC) gK iK hb7 iM (aY (LT.iI Q iU) Q (gH hb7 Q Q) Q (iy LT.geq hb7 y6 (eU (Bv (decide ((g.aC.length:Int) ≤ k))) hb7 y5 (On (aX Q z4 z2))))))
 ·refine aA.cond Q (fun hc8 => ?_) (fun hc8 => ?_)
  ·refine Ws (Wr ?_)
   refine bM (bV (ai g) Q eY dA bU) Q Q Q Q (aP fun r9 rX => (aO.step (cZ [.agg (ai g)] (Fw.Fn.ren [(0,25)] (Yq g r9 rX) Q) VA (vX y2) J y3) z2 J Q Q (bQ (stA [iC r9.aH,lo 25 r9.aC.length] Q Q dA bU) Q Q Q Q Q (aI (Bv false) aZ (On (en [(4,Cc (.pl 22 0)),(5,Bv false)] [(22,.row 26 [[iC r9.aH,lo 25 r9.aC.length]]),(25,pR 40 aK r9.aC)] z2 z2 (aA.ent (aQ.mv 25 0 Q Q) (en [(4,Cc (.pl 22 0)),(5,Bv false)] [(0,pR 40 aK r9.aC),(22,.row 26 [[iC r9.aH,lo 0 r9.aC.length]])] z2 z2 (bP ⟨⟨_,_,_,Q,Q,Q,eY,bU,_,gm dA⟩,Q,J⟩ z1 ⟨⟨ah.sc,J,J⟩,ah.sc,J⟩ ⟨bD.bf kG,J⟩)))))))))
  ·refine aA.skip (Ws (aA.draw mixed ?_))
   refine eH (iC g.aH) kV ak ax (xI (iO 26 aK [] [] iU jT y7) Q Q (eH (xF aK g.aC) gK iK ax (bJ (Iv k) y4 (aU.bind fun v10 RJ => (dZ (LT.Yd (enc:=aK) (wJ:=none) (wI:=(some (.tmp 27,k))) (l:=0) (h:=k.toNat) Q Q Q iU jL (fun _ => by rw [fB]; rfl) (.inr y2) (.inl ⟨_,_,Q,Int.le_trans (Kv RJ).1 (Kv RJ).2.1,Q⟩) (YQ RJ) (YP RJ)) Q Q Q Q (aU.bind fun u11 Wu => (kJ (LT.AO (enc:=aK) Q  Q iU jT Q (by decide) (by decide) (fun _ => Q) (jo Wu)) Q Q Q Q Q (eH (xF aK g.aC) gK iK ax ?_))))))))
   refine bJ (Iv k) y4 (jJ LT.add aV (aU.bind fun v12 Wy => (dZ (LT.Yd (enc:=aK) (wJ:=(some (.tmp 33,aB (k + 1)))) (wI:=none) (l:=(aB (k + 1)).toNat) (h:=g.aC.length) Q Q Q iU jL (fun _ => by rw [fB]; rfl) (.inl ⟨_,_,Q,(Kv Wy).1,Q⟩) (.inr y2) (YQ Wy) (YP Wy)) Q Q Q Q (aU.bind fun u13 aIV => (kJ (LT.AO (enc:=aK) Q  Q iU jT Q (by decide) (by decide) (fun _ => Q) (jo aIV)) Q Q Q Q Q (dZ (LT.build [(0,.tmp 23,.c (iC g.aH)),(1,.tmp 35,.c (lo 26 (((([]:List aW) ++ ((g.aC.take k.toNat).drop 0)) ++ ((g.aC.take g.aC.length).drop ((aB (k + 1)).toNat))).length)))] Q Q Bj jk Q Q Q) Q Q Q Q (kJ (stA [iC g.aH,lo 26 (((([]:List aW) ++ ((g.aC.take k.toNat).drop 0)) ++ ((g.aC.take g.aC.length).drop ((aB (k + 1)).toNat))).length)] Q Q dA bU) Q Q Q Q Q (bg (LT.assign (v:=(Bv true)) Q) y2 Q Q (fA (en [(4,Cc (.pl 22 0)),(5,Bv true)] [(22,.row 26 [[iC g.aH,lo 26 (((([]:List aW) ++ ((g.aC.take k.toNat).drop 0)) ++ ((g.aC.take g.aC.length).drop ((aB (k + 1)).toNat))).length)]]),(26,pR 40 aK ((([]:List aW) ++ ((g.aC.take k.toNat).drop 0)) ++ ((g.aC.take g.aC.length).drop ((aB (k + 1)).toNat))))] z2 z2 (aA.ent (aQ.mv 26 0 Q Q) ?_)))))))))))
   refine en [(4,Cc (.pl 22 0)),(5,Bv true)] [(0,pR 40 aK ((([]:List aW) ++ ((g.aC.take k.toNat).drop 0)) ++ ((g.aC.take g.aC.length).drop ((aB (k + 1)).toNat)))),(22,.row 26 [[iC g.aH,lo 0 (((([]:List aW) ++ ((g.aC.take k.toNat).drop 0)) ++ ((g.aC.take g.aC.length).drop ((aB (k + 1)).toNat))).length)]])] z2 z2 (bP ⟨⟨_,_,_,Q,Q,Q,eY,bU,_,gm dA⟩,Q,J⟩ z1 ⟨⟨ah.sc,J,J⟩,ah.sc,J⟩ ⟨bD.bf kG,J⟩)
theorem QA (c:dH) (n:Int):FT Tryz.prog (Bd c n) 138 [.c (.pl 0 0),.c (iC n)] [(0,.row 105 [fE c])] (fun (t:(aj × dH)) => [.agg [iC t.1.aH,lo 1 t.1.aC.length]]) (fun (t:(aj × dH)) => [(0,.row 105 [fE t.2]),(1,pR 40 aK t.1.aC)]) [1]:=by
 refine FT.of [0] Tryz.func138 Tryz.ntmps138 Q y2 ?_
 intro w0 U0 R0 g0
 unfold Bd
 refine Ws (Wr ?_)
 refine eG 21 [iC 0,sC aJ] jk y6 (On (Ws (Wr ?_)))
 refine aG (Iv n) y4 (l7 (iO 22 aK [] [] iU jT y7) Q Q (dY (LT.build [(0,.tmp 12,.c (iC n)),(1,.tmp 13,.c (lo 22 (([]:List aW).length)))] Q Q Bj jk Q Q Q) Q Q Q Q (eG 23 [iC 0,sC aJ] jk y6 (bQ (stA [iC n,lo 22 (([]:List aW).length)] Q Q dA bU) Q Q Q Q Q (On (Ws (Ws ?_)))))))
 refine en [(0,Cc (.pl 0 0)),(1,Iv n),(4,Cc (.pl 21 0)),(5,Cc (.pl 23 0))] [(0,.row 105 [fE c]),(21,.row 26 [[iC 0,sC aJ]]),(22,pR 40 aK ([]:List aW)),(23,.row 26 [[iC n,lo 22 (([]:List aW).length)]])] z4 z4 (Wr (aG (Iv n) y4 (af LT.lss aV (On (aA.cond Q (fun hc1 => ?_) (fun hc1 => ?_))))))
 ·refine Ws (Wr ?_)
  refine bM (bV [iC n,lo 22 (([]:List aW).length)] Q eY dA bU) Q Q Q Q (bQ (stA [iC n,lo 22 (([]:List aW).length)] Q Q dA bU) Q Q Q Q Q (On (en [(4,Cc (.pl 21 0))] [(0,.row 105 [fE c]),(21,.row 26 [[iC n,lo 22 (([]:List aW).length)]]),(22,pR 40 aK ([]:List aW))] z1 z3 (aA.ent (aQ.mv 22 1 Q Q) (en [(4,Cc (.pl 21 0))] [(0,.row 105 [fE c]),(1,pR 40 aK ([]:List aW)),(21,.row 26 [[iC n,lo 1 (([]:List aW).length)]])] z1 z3 (bP ⟨⟨_,_,_,Q,Q,Q,eY,bU,_,gm dA⟩,J⟩ z2 ⟨⟨ah.sc,J,J⟩,J⟩ ⟨bD.mV ⟨nN oU,ah.sc,ah.sc,J⟩,bD.bf kG,J⟩))))))
 ·refine aA.skip (Ws (Wr ?_))
  refine bM (bV [iC n,lo 22 (([]:List aW).length)] Q eY dA bU) Q Q Q Q (dY (LT.build [(0,.const (.int .i64 0),.c (iC 0)),(1,.const (.int .i64 1),.c (iC 1))] Q Q Bl jT Q Q Q) y2 y2 Q Q (aP fun r2 hr2 => (aO.step (cF [.agg [iC n,lo 22 (([]:List aW).length)],.agg [iC 0,iC 1]] [(22,pR 40 aK ([]:List aW))] (Fw.Fn.ren [(0,25)] (Gh (aj.mk n ([]:List aW)) (aW.mk 0 1) r2 hr2) Q) EU (.cons (.agg (.cons (.same Q) (.cons (.fC Q Q) .nil))) (.cons (.agg (.cons (.same Q) (.cons (.same Q) .nil))) .nil)) J y3) z3 z1 Q Q (bQ (stA [iC r2.aH,lo 25 r2.aC.length] Q Q dA bU) Q Q Q Q Q (On (Ws (Ws (Wr ?_))))))))
  refine aI (Iv 2) aZ (On (aA.block ?_))
  refine aA.jI (id:=0) (Jv n) (fun s3 => ([(0,Cc (.pl 0 0)),(1,Iv n),(4,Cc (.pl 21 0)),(5,Cc (.pl 23 0)),(6,Iv s3.1)],[(0,.row 105 [[xT dI s3.2.1,iC s3.2.2.1,iC s3.2.2.2.1]]),(21,.row 26 [[iC 0,sC aJ]]),(23,.row 26 [[iC s3.2.2.2.2.1,lo 25 s3.2.2.2.2.2.length]]),(25,pR 40 aK s3.2.2.2.2.2)])) (fun nR => ([(4,Cc (.pl 21 0)),(5,Cc (.pl 23 0))],[(0,.row 105 [[xT dI nR.1,iC nR.2.1,iC nR.2.2.1]]),(21,.row 26 [[iC 0,sC aJ]]),(23,.row 26 [[iC nR.2.2.2.1,lo 25 nR.2.2.2.2.length]]),(25,pR 40 aK nR.2.2.2.2)])) ?_ (aQ.of z5 z4) Q (fun nR _ => ?_)
  ·intro s3
   unfold Jv
   refine Ws (Ws (Wr ?_))
   refine aG (Iv s3.1) y4 (aG (Iv n) y4 (af LT.lss y5 (On (aA.cond Q (fun hc104 => ?_) (fun hc104 => ?_)))))
   ·refine aA.skip (Ws (aA.block (Ws (Wr ?_))))
    refine aG (Cc (.pl 0 0)) y4 (aG (Iv s3.1) y4 (aP fun qf aHp => (aO.step (cZ [.c (.pl 0 0),.c (iC s3.1)] (Fw.Fn.ren [(0,0)] (lu (dH.mk s3.2.1 s3.2.2.1 s3.2.2.2.1) s3.1 qf aHp) Q) lX (iZ y2) z1 y3) z3 z1 Q Q (aI (Iv qf.1) y4 (On (Ws (Wr ?_)))))))
    refine aG (Iv qf.1) y4 (af LT.add aV (aG (Cc (.pl 0 0)) y4 (aG (Iv s3.1) y4 (af LT.sub aV (aP fun wz aHq => (aO.step (cZ [.c (.pl 0 0),.c (iC (aB (s3.1 - 1)))] (Fw.Fn.ren [(0,0)] (lu qf.2 (aB (s3.1 - 1)) wz aHq) Q) lX (iZ y2) z1 y3) z3 z1 Q Q (af LT.add y5 (aG (Iv s3.1) y4 (aP fun aLt aIU => (dY (LT.rem Q (wo aIU)) Q Q Q Q (aI (Iv (Int.tmod (aB ((aB (qf.1 + 1)) + wz.1)) s3.1)) y4 ?_)))))))))))
    refine On (Ws ?_)
    refine aA.eP (fun j110 => ([(0,Cc (.pl 0 0)),(1,Iv n),(4,Cc (.pl 21 0)),(5,Cc (.pl 23 0)),(6,Iv s3.1),(7,Iv qf.1),(8,Iv (Int.tmod (aB ((aB (qf.1 + 1)) + wz.1)) s3.1)),(43,Bv j110.1)],[(0,.row 105 [[xT dI j110.2.1,iC j110.2.2.1,iC j110.2.2.2]]),(21,.row 26 [[iC 0,sC aJ]]),(23,.row 26 [[iC s3.2.2.2.2.1,lo 25 s3.2.2.2.2.2.length]]),(25,pR 40 aK s3.2.2.2.2.2)])) ?_ (fun j110 _ => ?_)
    ·refine en [(0,Cc (.pl 0 0)),(1,Iv n),(4,Cc (.pl 21 0)),(5,Cc (.pl 23 0)),(6,Iv s3.1),(7,Iv qf.1),(8,Iv (Int.tmod (aB ((aB (qf.1 + 1)) + wz.1)) s3.1))] [(0,.row 105 [fE wz.2]),(21,.row 26 [[iC 0,sC aJ]]),(23,.row 26 [[iC s3.2.2.2.2.1,lo 25 s3.2.2.2.2.2.length]]),(25,pR 40 aK s3.2.2.2.2.2)] z7 z4 (Wr (aG (Cc (.pl 0 0)) y4 (aP fun zo aHr => (aO.step (cZ [.c (.pl 0 0),.c (iC 2)] (Fw.Fn.ren [(0,0)] (P9 wz.2 2 zo aHr) Q) L8 (iZ y2) z1 y3) ⟨Q,Q,y2,J⟩ z1 Q Q (aG (Bv zo.1) y4 (aO.split (fun Eh => ?_) (fun Eh => ?_)))))))
     ·refine eu (Iv s3.1) Eh y5 (iy LT.gtr Eh kD (dJ (Bv (decide (2 < s3.1))) Eh y5 (On (aX Q z8 z4))))
     ·refine aS Eh y5 (aS Eh y5 (eU (Bv false) Eh aV (On (aX Q z8 z4))))
    ·refine aA.eP (fun j133 => ([(0,Cc (.pl 0 0)),(1,Iv n),(4,Cc (.pl 21 0)),(5,Cc (.pl 23 0)),(6,Iv j133.1)],[(0,.row 105 [[xT dI j133.2.1,iC j133.2.2.1,iC j133.2.2.2.1]]),(21,.row 26 [[iC 0,sC aJ]]),(23,.row 26 [[iC j133.2.2.2.2.1,lo 39 j133.2.2.2.2.2.length]]),(39,pR 40 aK j133.2.2.2.2.2)])) ?_ (fun j133 _ => ?_)
     ·refine aA.cond Q (fun Vt => ?_) (fun Vt => ?_)
      ·refine Ws (Wr ?_)
       refine aG (Cc (.pl 0 0)) y4 (dK (lo 25 s3.2.2.2.2.2.length) gK iK ax (aY (LT.lG Q iU) Q Q Q (aP fun sO aHu => (aO.step (cZ [.c (.pl 0 0),.c (iC (s3.2.2.2.2.2.length:Int))] (Fw.Fn.ren [(0,0)] (lu (dH.mk j110.2.1 j110.2.2.1 j110.2.2.2) (s3.2.2.2.2.2.length:Int) sO aHu) Q) lX (iZ y2) z1 y3) z3 z1 Q Q (aI (Iv sO.1) y4 (On (Ws (Wr ?_))))))))
       refine dK (lo 25 s3.2.2.2.2.2.length) gK iK ax (aG (Iv sO.1) y4 (aP fun qI Na => (iq (LT.fP Q Q nU Na) Q Q Q Q Q (bM (LT.Yc Q kz (gm jL) fB Na (by exact Q) (by exact Q)) Q Q Q Q (eG 30 [iC 0,iC 0] jT y6 (bQ (stA [iC qI.A,iC qI.B] Q Q jL fB) Q Q Q Q Q (On (Ws ?_))))))))
       refine en [(0,Cc (.pl 0 0)),(1,Iv n),(4,Cc (.pl 21 0)),(5,Cc (.pl 23 0)),(6,Iv s3.1),(9,Iv sO.1),(10,Cc (.pl 30 0))] [(0,.row 105 [fE sO.2]),(21,.row 26 [[iC 0,sC aJ]]),(23,.row 26 [[iC s3.2.2.2.2.1,lo 25 s3.2.2.2.2.2.length]]),(25,pR 40 aK s3.2.2.2.2.2),(30,.row 40 [[iC qI.A,iC qI.B]])] z7 z5 (Wr (aI (Iv 0) aZ (On (Ws (aA.block ?_)))))
       refine aA.jI (id:=2) (O7 s3 sO qI) (fun vV => ([(0,Cc (.pl 0 0)),(1,Iv n),(4,Cc (.pl 21 0)),(5,Cc (.pl 23 0)),(6,Iv s3.1),(9,Iv sO.1),(10,Cc (.pl 30 0)),(11,Iv vV)],[(0,.row 105 [fE sO.2]),(21,.row 26 [[iC 0,sC aJ]]),(23,.row 26 [[iC s3.2.2.2.2.1,lo 25 s3.2.2.2.2.2.length]]),(25,pR 40 aK s3.2.2.2.2.2),(30,.row 40 [[iC qI.A,iC qI.B]])])) (fun fZ => ([(0,Cc (.pl 0 0)),(1,Iv n),(4,Cc (.pl 21 0)),(5,Cc (.pl 23 0)),(6,Iv fZ.1),(9,Iv fZ.2.1),(10,Cc (.pl 30 0)),(11,Iv fZ.2.2.1)],[(0,.row 105 [[xT dI fZ.2.2.2.1,iC fZ.2.2.2.2.1,iC fZ.2.2.2.2.2.1]]),(21,.row 26 [[iC 0,sC aJ]]),(23,.row 26 [[iC fZ.2.2.2.2.2.2.1,lo 25 fZ.2.2.2.2.2.2.2.1.length]]),(25,pR 40 aK fZ.2.2.2.2.2.2.2.1),(30,.row 40 [[iC fZ.2.2.2.2.2.2.2.2.1,iC fZ.2.2.2.2.2.2.2.2.2]])])) ?_ (aQ.of z8 z5) Q (fun fZ _ => ?_)
       ·intro vV
        unfold O7
        refine Ws (Ws ?_)
        refine aA.eP (fun Rx => ([(0,Cc (.pl 0 0)),(1,Iv n),(4,Cc (.pl 21 0)),(5,Cc (.pl 23 0)),(6,Iv s3.1),(9,Iv sO.1),(10,Cc (.pl 30 0)),(11,Iv vV),(63,Bv Rx)],[(0,.row 105 [fE sO.2]),(21,.row 26 [[iC 0,sC aJ]]),(23,.row 26 [[iC s3.2.2.2.2.1,lo 25 s3.2.2.2.2.2.length]]),(25,pR 40 aK s3.2.2.2.2.2),(30,.row 40 [[iC qI.A,iC qI.B]])])) ?_ (fun Rx _ => ?_)
        ·refine Wr (aG (Iv vV) y4 (dK (iC qI.A) lM ak ax (af LT.eql y5 (aG (Bv (vV == qI.A)) y4 (aO.split (fun zS => ?_) (fun zS => ?_))))))
         ·refine aS zS y5 (aS zS y5 (aS zS y5 (aS zS y5 (dJ (Bv true) zS aV (On (aX Q z9 z5))))))
         ·refine eu (Iv vV) zS y5 (kE (iC qI.B) mZ ak zS iM (iy LT.eql zS y6 (eU (Bv (vV == qI.B)) zS y5 (On (aX Q z9 z5)))))
        ·refine aA.cond Q (fun hc150 => ?_) (fun hc150 => ?_)
         ·refine aA.skip (aA.block (Wr ?_))
          refine aG (Iv vV) y4 (af LT.add aV (aI (Iv (aB (vV + 1))) y4 (On (aA.blk ?_))))
          refine aX Q z8 z5
         ·refine fV y2 z8 z5
       ·refine Ws (Wr ?_)
        refine aG (Cc (.pl 0 0)) y4 (aG (Iv fZ.1) y4 (bM (bV [iC fZ.2.2.2.2.2.2.2.2.1,iC fZ.2.2.2.2.2.2.2.2.2] Q kz jL fB) Q Q Q Q (aG (Iv fZ.2.2.1) y4 (aP fun xA aHx => (aO.step (cZ [.c (.pl 0 0),.c (iC fZ.1),.agg [iC fZ.2.2.2.2.2.2.2.2.1,iC fZ.2.2.2.2.2.2.2.2.2],.c (iC fZ.2.2.1)] (Fw.Fn.ren [(0,0)] (aM2 (dH.mk fZ.2.2.2.1 fZ.2.2.2.2.1 fZ.2.2.2.2.2.1) fZ.1 (aW.mk fZ.2.2.2.2.2.2.2.2.1 fZ.2.2.2.2.2.2.2.2.2) fZ.2.2.1 xA aHx) Q) aFd (aKz y5) z1 y3) z5 z1 Q Q (aI (Iv xA.1) y4 (On (Ws (Wr ?_)))))))))
        refine bM (bV [iC fZ.2.2.2.2.2.2.1,lo 25 fZ.2.2.2.2.2.2.2.1.length] Q eY dA bU) Q Q Q Q (aG (Iv fZ.2.1) y4 (aP fun rD aHy => (aO.step (cF [.agg [iC fZ.2.2.2.2.2.2.1,lo 25 fZ.2.2.2.2.2.2.2.1.length],.c (iC fZ.2.1)] [(25,pR 40 aK fZ.2.2.2.2.2.2.2.1)] (Fw.Fn.ren [(0,33)] (aET (aj.mk fZ.2.2.2.2.2.2.1 fZ.2.2.2.2.2.2.2.1) fZ.2.1 rD aHy) Q) Zb (.cons (.agg (.cons (.same Q) (.cons (.fC Q Q) .nil))) (.cons (.c (.same Q)) .nil)) J y3) z3 z1 Q Q (aG (.dM [.agg [iC rD.1.aH,lo 33 rD.1.aC.length],.c (bC rD.2)]) y4 (gy (.agg [iC rD.1.aH,lo 33 rD.1.aC.length]) y5 (gy (.c (bC rD.2)) y5 (bQ (stA [iC rD.1.aH,lo 33 rD.1.aC.length] Q Q dA bU) Q Q Q Q Q (On (en [(0,Cc (.pl 0 0)),(1,Iv n),(4,Cc (.pl 21 0)),(5,Cc (.pl 23 0)),(6,Iv fZ.1),(10,Cc (.pl 30 0)),(11,Iv xA.1)] [(0,.row 105 [fE xA.2]),(21,.row 26 [[iC 0,sC aJ]]),(23,.row 26 [[iC rD.1.aH,lo 33 rD.1.aC.length]]),(30,.row 40 [[iC fZ.2.2.2.2.2.2.2.2.1,iC fZ.2.2.2.2.2.2.2.2.2]]),(33,pR 40 aK rD.1.aC)] z7 z5 (aA.draw mixed (gq (bV [iC rD.1.aH,lo 33 rD.1.aC.length] Q eY dA bU) Q Q Q Q ?_)))))))))))
        refine eH (iC fZ.2.2.2.2.2.2.2.2.1) lM ak ax (bJ (Iv fZ.1) y4 (dZ (LT.build [(0,.tmp 79,.c (iC fZ.2.2.2.2.2.2.2.2.1)),(1,.tmp 80,.c (iC fZ.1))] Q Q Bl jT Q Q Q) Q Q Q Q (aU.bind fun GN aHz => (aU.step (cF [.agg [iC rD.1.aH,lo 33 rD.1.aC.length],.agg [iC fZ.2.2.2.2.2.2.2.2.1,iC fZ.1]] [(33,pR 40 aK rD.1.aC)] (Fw.Fn.ren [(0,35)] (Gh rD.1 (aW.mk fZ.2.2.2.2.2.2.2.2.1 fZ.1) GN aHz) Q) EU (.cons (.agg (.cons (.same Q) (.cons (.fC Q Q) .nil))) (.cons (.agg (.cons (.same Q) (.cons (.same Q) .nil))) .nil)) J y3) z3 z1 Q Q (eH (iC fZ.2.2.2.2.2.2.2.2.2) mZ ak ax (bJ (Iv fZ.1) y4 (dZ (LT.build [(0,.tmp 84,.c (iC fZ.2.2.2.2.2.2.2.2.2)),(1,.tmp 85,.c (iC fZ.1))] Q Q Bl jT Q Q Q) Q Q Q Q (aU.bind fun rE WN => (aU.step (cF [.agg [iC GN.aH,lo 35 GN.aC.length],.agg [iC fZ.2.2.2.2.2.2.2.2.2,iC fZ.1]] [(35,pR 40 aK GN.aC)] (Fw.Fn.ren [(0,37)] (Gh GN (aW.mk fZ.2.2.2.2.2.2.2.2.2 fZ.1) rE WN) Q) EU (.cons (.agg (.cons (.same Q) (.cons (.fC Q Q) .nil))) (.cons (.agg (.cons (.same Q) (.cons (.same Q) .nil))) .nil)) J y3) z3 z1 Q Q ?_)))))))))
        refine bJ (Iv xA.1) y4 (bJ (Iv fZ.1) y4 (dZ (LT.build [(0,.tmp 88,.c (iC xA.1)),(1,.tmp 89,.c (iC fZ.1))] Q Q Bl jT Q Q Q) Q Q Q Q (aU.bind fun KU aH0 => (aU.step (cF [.agg [iC rE.aH,lo 37 rE.aC.length],.agg [iC xA.1,iC fZ.1]] [(37,pR 40 aK rE.aC)] (Fw.Fn.ren [(0,39)] (Gh rE (aW.mk xA.1 fZ.1) KU aH0) Q) EU (.cons (.agg (.cons (.same Q) (.cons (.fC Q Q) .nil))) (.cons (.agg (.cons (.same Q) (.cons (.same Q) .nil))) .nil)) J y3) z3 z1 Q Q (kJ (stA [iC KU.aH,lo 39 KU.aC.length] Q Q dA bU) Q Q Q Q Q (fA (aX Q z5 z4)))))))
      ·refine Wr (bM (bV [iC s3.2.2.2.2.1,lo 25 s3.2.2.2.2.2.length] Q eY dA bU) Q Q Q Q (aG (Iv qf.1) y4 (aG (Iv s3.1) y4 (dY (LT.build [(0,.tmp 93,.c (iC qf.1)),(1,.tmp 94,.c (iC s3.1))] Q Q Bl jT Q Q Q) Q Q Q Q (aP fun xB WO => (aO.step (cF [.agg [iC s3.2.2.2.2.1,lo 25 s3.2.2.2.2.2.length],.agg [iC qf.1,iC s3.1]] [(25,pR 40 aK s3.2.2.2.2.2)] (Fw.Fn.ren [(0,41)] (Gh (aj.mk s3.2.2.2.2.1 s3.2.2.2.2.2) (aW.mk qf.1 s3.1) xB WO) Q) EU (.cons (.agg (.cons (.same Q) (.cons (.fC Q Q) .nil))) (.cons (.agg (.cons (.same Q) (.cons (.same Q) .nil))) .nil)) J y3) z3 z1 Q Q (aG (Iv (Int.tmod (aB ((aB (qf.1 + 1)) + wz.1)) s3.1)) y4 (aG (Iv s3.1) y4 (dY (LT.build [(0,.tmp 97,.c (iC (Int.tmod (aB ((aB (qf.1 + 1)) + wz.1)) s3.1))),(1,.tmp 98,.c (iC s3.1))] Q Q Bl jT Q Q Q) Q Q Q Q (aP fun Bq aH1 => (aO.step (cF [.agg [iC xB.aH,lo 41 xB.aC.length],.agg [iC (Int.tmod (aB ((aB (qf.1 + 1)) + wz.1)) s3.1),iC s3.1]] [(41,pR 40 aK xB.aC)] (Fw.Fn.ren [(0,43)] (Gh xB (aW.mk (Int.tmod (aB ((aB (qf.1 + 1)) + wz.1)) s3.1) s3.1) Bq aH1) Q) EU (.cons (.agg (.cons (.same Q) (.cons (.fC Q Q) .nil))) (.cons (.agg (.cons (.same Q) (.cons (.same Q) .nil))) .nil)) J y3) z3 z1 Q Q ?_)))))))))))
       refine bQ (stA [iC Bq.aH,lo 43 Bq.aC.length] Q Q dA bU) Q Q Q Q Q (On (en [(0,Cc (.pl 0 0)),(1,Iv n),(4,Cc (.pl 21 0)),(5,Cc (.pl 23 0)),(6,Iv s3.1)] [(0,.row 105 [[xT dI j110.2.1,iC j110.2.2.1,iC j110.2.2.2]]),(21,.row 26 [[iC 0,sC aJ]]),(23,.row 26 [[iC Bq.aH,lo 43 Bq.aC.length]]),(43,pR 40 aK Bq.aC)] z5 z4 (aA.ent (aQ.mv 43 39 Q Q) (aX Q z5 z4))))
     ·refine aA.blk (Wr ?_)
      refine aG (Iv j133.1) y4 (af LT.add aV (aI (Iv (aB (j133.1 + 1))) y4 (On (en [(0,Cc (.pl 0 0)),(1,Iv n),(4,Cc (.pl 21 0)),(5,Cc (.pl 23 0)),(6,Iv (aB (j133.1 + 1)))] [(0,.row 105 [[xT dI j133.2.1,iC j133.2.2.1,iC j133.2.2.2.1]]),(21,.row 26 [[iC 0,sC aJ]]),(23,.row 26 [[iC j133.2.2.2.2.1,lo 39 j133.2.2.2.2.2.length]]),(39,pR 40 aK j133.2.2.2.2.2)] z5 z4 (aA.ent (aQ.mv 39 25 Q Q) (aX Q z5 z4))))))
   ·refine fV y2 z2 z4
  ·refine Ws (Wr ?_)
   refine bM (bV [iC nR.2.2.2.1,lo 25 nR.2.2.2.2.length] Q eY dA bU) Q Q Q Q (bQ (stA [iC nR.2.2.2.1,lo 25 nR.2.2.2.2.length] Q Q dA bU) Q Q Q Q Q (On (en [(4,Cc (.pl 21 0))] [(0,.row 105 [[xT dI nR.1,iC nR.2.1,iC nR.2.2.1]]),(21,.row 26 [[iC nR.2.2.2.1,lo 25 nR.2.2.2.2.length]]),(25,pR 40 aK nR.2.2.2.2)] z1 z3 (aA.ent (aQ.mv 25 1 Q Q) (en [(4,Cc (.pl 21 0))] [(0,.row 105 [[xT dI nR.1,iC nR.2.1,iC nR.2.2.1]]),(1,pR 40 aK nR.2.2.2.2),(21,.row 26 [[iC nR.2.2.2.1,lo 1 nR.2.2.2.2.length]])] z1 z3 (bP ⟨⟨_,_,_,Q,Q,Q,eY,bU,_,gm dA⟩,J⟩ z2 ⟨⟨ah.sc,J,J⟩,J⟩ ⟨bD.mV ⟨nN oU,ah.sc,ah.sc,J⟩,bD.bf kG,J⟩))))))
theorem CS (x:Int) (IU:Int) (hi:Int):FT Tryz.prog (wZ x IU hi) 115 [.c (iC x),.c (iC IU),.c (iC hi)] [] (fun (t:Bool) => [.c (bC t)]) (fun (t:Bool) => []) []:=by
 refine FT.of [] Tryz.func115 Tryz.ntmps115 Q y2 ?_
 intro w0 U0 R0 g0
 unfold wZ
 refine Ws (Wr ?_)
 refine aI (Bv false) aZ (On (Ws ?_))
 refine aA.eP (fun j2 => ([(6,Bv j2)],[])) ?_ (fun j2 _ => ?_)
 ·refine Wr (aG (Iv x) y4 (aG (Iv IU) y4 (af LT.geq y5 (aG (Bv (decide (IU ≤ x))) y4 (aO.split (fun hb3 => ?_) (fun hb3 => ?_))))))
  ·refine eu (Iv x) hb3 y5 (eu (Iv hi) hb3 y5 (iy LT.leq hb3 y6 (dJ (Bv (decide (x ≤ hi))) hb3 y5 (aI (Bv (decide (x ≤ hi))) y4 (On (aX Q z1 J))))))
  ·refine aS hb3 y5 (aS hb3 y5 (aS hb3 y5 (eU (Bv false) hb3 aV (aI (Bv false) y4 (On (aX Q z1 J))))))
 ·refine bP z1 J ⟨ah.sc,J⟩ J
theorem aEI (a:Int) (b:Int):FT Tryz.prog (Iy a b) 169 [.c (iC a),.c (iC b)] [] (fun (t:Int) => [.c (iC t)]) (fun (t:Int) => []) []:=by
 refine FT.of [] Tryz.func169 Tryz.ntmps169 Q y2 ?_
 intro w0 U0 R0 g0
 unfold Iy
 refine Ws (Wr ?_)
 refine aI (Iv 0) aZ (On (Ws (aA.block (Ws (Wr ?_)))))
 refine aG (Iv a) y4 (aG (Iv b) y4 (af LT.lss y5 (aI (Bv (decide (a < b))) y4 (On (aA.cond Q (fun hc1 => ?_) (fun hc1 => ?_))))))
 ·refine Ws (Wr ?_)
  refine aI (Iv (-1)) aZ (On (bP z1 J ⟨ah.sc,J⟩ J))
 ·refine Ws (Wr ?_)
  refine aG (Iv a) y4 (aG (Iv b) y4 (af LT.gtr y5 (aI (Bv (decide (b < a))) y4 (On (aA.cond Q (fun hc2 => ?_) (fun hc2 => ?_))))))
  ·refine Ws (Wr ?_)
   refine aI (Iv 1) aZ (On (bP z1 J ⟨ah.sc,J⟩ J))
  ·refine aA.skip (aA.blk (Ws (Wr ?_)))
   refine aI (Iv 0) aZ (On (bP z1 J ⟨ah.sc,J⟩ J))
theorem aMP (x:aW) (y:aW):FT Tryz.prog (Iw x y) 136 [.agg [iC x.A,iC x.B],.agg [iC y.A,iC y.B]] [] (fun (t:Int) => [.c (iC t)]) (fun (t:Int) => []) []:=by
 refine FT.of [] Tryz.func136 Tryz.ntmps136 Q y2 ?_
 intro w0 U0 R0 g0
 unfold Iw
 refine Ws (Wr ?_)
 refine iL 21 (.agg [iC x.A,iC x.B]) fB y5 (iL 22 (.agg [iC y.A,iC y.B]) fB y5 (aI (Iv 0) aZ (On (Ws (Ws (Wr ?_))))))
 refine dK (iC x.A) lM ak ax (dK (iC y.A) lM ak ax (aP fun r1 hr1 => (jD [.c (iC x.A),.c (iC y.A)] (aEI x.A y.A r1 hr1) Zq (iZ y2) y5 z3 (aI (Iv r1) y4 (On (Ws ?_))))))
 refine en [(2,Cc (.pl 21 0)),(3,Cc (.pl 22 0)),(5,Iv r1)] [(21,.row 40 [[iC x.A,iC x.B]]),(22,.row 40 [[iC y.A,iC y.B]])] z3 z2 (Wr (aG (Iv r1) y4 (af LT.neq aV (On (aA.cond Q (fun hc2 => ?_) (fun hc2 => ?_))))))
 ·refine Ws (Wr ?_)
  refine aG (Iv r1) y4 (aI (Iv r1) y4 (On (bP z1 J ⟨ah.sc,J⟩ J)))
 ·refine aA.skip (Ws (Wr ?_))
  refine dK (iC x.B) mZ ak ax (dK (iC y.B) mZ ak ax (aP fun r3 hr3 => (jD [.c (iC x.B),.c (iC y.B)] (aEI x.B y.B r3 hr3) Zq (iZ y2) y5 z3 (aI (Iv r3) y4 (On (bP z1 J ⟨ah.sc,J⟩ J))))))
theorem Yi (g:aj):FT Tryz.prog (DY g) 75 [.agg (ai g)] [] (fun (t:Bool) => [.c (bC t)]) (fun (t:Bool) => []) []:=by
 refine FT.of [] Tryz.func75 Tryz.ntmps75 Q y2 ?_
 intro w0 U0 R0 g0
 unfold DY
 refine Ws (Wr ?_)
 refine iL 21 (.agg (ai g)) bU y5 (aI (Bv false) aZ (On (Ws (Ws ?_))))
 refine aA.eP (fun j3 => ([(1,Cc (.pl 21 0)),(14,Bv j3)],[(21,.row 26 [ai g])])) ?_ (fun j3 _ => ?_)
 ·refine Wr (dK (iC g.aH) kV ak ax (aP fun r4 hr4 => (jD [.c (iC g.aH),.c (iC 1),.c (iC 8)] (CS g.aH 1 8 r4 hr4) Am (qF y3) y5 ⟨Q,Q,y2,y2,J⟩ (aY (LT.not Q) Q Q Q (aG (Bv (!r4)) y4 (aO.split (fun hb5 => ?_) (fun hb5 => ?_)))))))
  ·refine aS hb5 y5 (aS hb5 y5 (aS hb5 y5 (aS hb5 y5 (dJ (Bv true) hb5 aV (On (aX Q z2 z1))))))
  ·refine kE (xF aK g.aC) gK iK hb5 iM (aY (LT.iI Q iU) Q (gH hb5 Q Q) Q (iy LT.gtr hb5 kD (eU (Bv (decide (24 < (g.aC.length:Int)))) hb5 y5 (On (aX Q z2 z1)))))
 ·refine aA.cond Q (fun hc6 => ?_) (fun hc6 => ?_)
  ·refine Ws (Wr ?_)
   refine aI (Bv false) aZ (On (bP z1 J ⟨ah.sc,J⟩ J))
  ·refine aA.skip (Ws (Ws (Wr ?_)))
   refine dK (xF aK g.aC) gK iK ax (aY (LT.iI Q iU) Q Q Q (aG (Iv 0) aZ (On (aA.block ?_))))
   refine aA.oz (id:=0) (DZ g) (fun s7 => ([(1,Cc (.pl 21 0)),(16,Cc (xF aK g.aC)),(17,Iv (g.aC.length:Int)),(18,Iv s7)],[(21,.row 26 [ai g])])) (fun Ll => ([],[])) (lU Tryz.prog Tryz.f75.results.toList [] [] (fun (t:Bool) => [.c (bC t)]) (fun (t:Bool) => [])) ?_ (aQ.of z4 z1) Q (fun Ll _ => ?_) qC
   ·intro s7
    unfold DZ
    refine Ws (Wr ?_)
    refine af LT.lss y5 (On (Ws ?_))
    refine aA.cond Q (fun MX => ?_) (fun MX => ?_)
    ·refine aA.skip (Ws (aA.block (Ws (Wr ?_))))
     refine aG (Iv s7) y4 (aP fun jG H6 => (dY (LT.eF (enc:=aK) Q nU H6 fB) Q Q Q Q (aY (lH Q kz jL fB) Q Q Q (eG 23 [iC 0,iC 0] jT y6 (aI (Iv s7) y4 (bQ (stA [iC jG.A,iC jG.B] Q Q jL fB) Q Q Q Q Q (On (Ws ?_))))))))
     refine aA.eP (fun j49 => ([(1,Cc (.pl 21 0)),(16,Cc (xF aK g.aC)),(17,Iv (g.aC.length:Int)),(18,Iv s7),(54,Bv j49)],[(21,.row 26 [ai g])])) ?_ (fun j49 _ => ?_)
     ·refine en [(1,Cc (.pl 21 0)),(3,Iv s7),(4,Cc (.pl 23 0)),(16,Cc (xF aK g.aC)),(17,Iv (g.aC.length:Int)),(18,Iv s7)] [(21,.row 26 [ai g]),(23,.row 40 [[iC jG.A,iC jG.B]])] z6 z2 (aA.draw mixed (eH (iC jG.A) lM ak ax (jJ LT.lss aV (bJ (Bv (decide (jG.A < 0))) y4 (aU.split (fun pq => ?_) (fun pq => ?_))))))
      ·refine bI pq y3 (bI pq y3 (bI pq y3 (bI pq y3 (bI pq y3 (oJ (Bv true) pq aV (bJ (Bv true) y4 (bH y3 (bH y3 (bH y3 (bH y3 (bH y3 ?_)))))))))))
       refine oJ (Bv true) Q aV (bJ (Bv true) y4 (bH y3 (bH y3 (bH y3 (bH y3 (bH y3 (bH y3 (bH y3 (bH y3 (bH y3 (bH y3 ?_)))))))))))
       refine bH y3 (bH y3 (bH y3 (oJ (Bv true) Q aV (fA (aX Q z5 z1)))))
      ·refine oC (iC jG.A) lM ak pq iM (oC (iC jG.B) mZ ak pq iM (oZ LT.geq pq y6 (o7 (Bv (decide (jG.B ≤ jG.A))) pq y5 (bJ (Bv (decide (jG.B ≤ jG.A))) y4 (aU.split (fun pz => ?_) (fun pz => ?_))))))
       ·refine bI pz y3 (bI pz y3 (bI pz y3 (bI pz y3 (bI pz y3 (oJ (Bv true) pz aV (bJ (Bv true) y4 (bH y3 (bH y3 (bH y3 (bH y3 (bH y3 ?_)))))))))))
        refine bH y3 (bH y3 (bH y3 (bH y3 (bH y3 (bH y3 (bH y3 (bH y3 (oJ (Bv true) Q aV (fA (aX Q z5 z1))))))))))
       ·refine oC (iC jG.B) mZ ak pz iM (oC (iC g.aH) kV ak pz iM (oZ LT.geq pz y6 (o7 (Bv (decide (g.aH ≤ jG.B))) pz y5 (bJ (Bv (decide (g.aH ≤ jG.B))) y4 (aU.split (fun oG => ?_) (fun oG => ?_))))))
        ·refine bI oG y3 (bI oG y3 (bI oG y3 (bH y3 (bH y3 (bH y3 (bH y3 (bH y3 (bH y3 (bH y3 (bH y3 (bH y3 ?_)))))))))))
         refine bI oG y3 (oJ (Bv true) oG aV (fA (aX Q z5 z1)))
        ·refine nV (Iv s7) oG y5 (oZ LT.gtr oG kD (nV (Bv (decide (0 < s7))) oG y5 (aU.split (fun kF => ?_) (fun kF => ?_))))
         ·refine oC (xF aK g.aC) gK iK kF iM (nV (Iv s7) kF y5 (oZ LT.sub kF kD (aU.bind fun x54 BK => (dZ (LT.eF (enc:=aK) Q nU BK fB) Q Q (gH kF Q Q) Q (bg (lH Q kz jL fB) Q (gH kF Q Q) Q (gq (bV [iC jG.A,iC jG.B] Q kz jL fB) Q Q (gH kF Q Q) Q (aU.bind fun yt WW => (aU.pure (cZ [.agg [iC x54.A,iC x54.B],.agg [iC jG.A,iC jG.B]] (aMP x54 jG yt WW) aFT (Px y4) J y3) z3 J (gH kF Q Q) Q (oZ LT.gtr kF kD (dZ (LT.qR (v:=(Bv (decide (0 < yt)))) Q kF) Q Q (gH oG Q Q) Q ?_))))))))))
          refine o7 (Bv (decide (0 < yt))) oG y5 (fA (aX Q z5 z1))
         ·refine bI kF y3 (bI kF y3 (bI kF y3 (bI kF y3 (bI kF y3 (bI kF y3 (bI kF y3 (bI kF y3 (bI kF y3 (dZ (LT.rC (v:=(Bv false)) Q kF) Q y2 (gH oG Q Q) Q (o7 (Bv false) oG y5 (fA ?_)))))))))))
          refine aX Q z5 z1
     ·refine aA.cond Q (fun V9 => ?_) (fun V9 => ?_)
      ·refine Ws (Wr ?_)
       refine aI (Bv false) aZ (On (aA.ret ⟨Q,pX z1 J ⟨ah.sc,J⟩ J⟩))
      ·refine aA.skip (aA.blk (Wr ?_))
       refine af LT.add aV (aG (Iv (aB (s7 + 1))) y4 (On (aX Q z4 z1)))
    ·refine fV y2 J J
   ·refine Ws (Wr ?_)
    refine aI (Bv true) aZ (On (bP z1 J ⟨ah.sc,J⟩ J))
theorem LG (l:(List Int)):FT Tryz.prog (xX l) 101 [.c (xF aF l)] [] (fun (t:(List Int)) => [.c (lo 0 t.length)]) (fun (t:(List Int)) => [(0,pR 3 aF t)]) [0]:=by
 refine FT.of [] Tryz.func101 Tryz.ntmps101 Q y2 ?_
 intro w0 U0 R0 g0
 unfold xX
 refine Ws (Wr ?_)
 refine aI (Cc (sC aJ)) aZ (On (Ws (Wr ?_)))
 refine l7 (iO 21 aF [] [] dS iH y7) Q Q (aG (Cc (xF aF l)) y4 (aP fun u1 hu1 => (bQ (LT.AO (enc:=aF) Q  Q dS iH Q (by decide) (by decide) (fun _ => Q) (jo hu1)) Q Q Q Q Q (aI (Cc (lo 21 ((([]:List Int) ++ l).length))) y4 (On (en [(2,Cc (lo 21 ((([]:List Int) ++ l).length)))] [(21,pR 3 aF (([]:List Int) ++ l))] z1 z1 (aA.ent (aQ.mv 21 0 Q Q) (en [(2,Cc (lo 0 ((([]:List Int) ++ l).length)))] [(0,pR 3 aF (([]:List Int) ++ l))] z1 z1 (bP z1 z1 ⟨J,J⟩ ⟨bD.bf dw,J⟩)))))))))
theorem aD9 (x:aW) (v:Int):FT Tryz.prog (FD x v) 168 [.agg [iC x.A,iC x.B],.c (iC v)] [] (fun (t:Int) => [.c (iC t)]) (fun (t:Int) => []) []:=by
 refine FT.of [] Tryz.func168 Tryz.ntmps168 Q y2 ?_
 intro w0 U0 R0 g0
 unfold FD
 refine Ws (Wr ?_)
 refine iL 21 (.agg [iC x.A,iC x.B]) fB y5 (aI (Iv 0) aZ (On (Ws (Ws (Wr ?_)))))
 refine dK (iC x.A) lM ak ax (aG (Iv v) y4 (af LT.eql y5 (On (aA.cond Q (fun hc1 => ?_) (fun hc1 => ?_)))))
 ·refine Ws (Wr ?_)
  refine dK (iC x.B) mZ ak ax (aI (Iv x.B) y4 (On (bP z1 J ⟨ah.sc,J⟩ J)))
 ·refine aA.skip (Ws (Wr ?_))
  refine dK (iC x.A) lM ak ax (aI (Iv x.A) y4 (On (bP z1 J ⟨ah.sc,J⟩ J)))
theorem aMQ (g:aj):FT Tryz.prog (OJ g) 85 [.agg (ai g)] [] (fun (t:aj) => [.agg [iC t.aH,lo 0 t.aC.length]]) (fun (t:aj) => [(0,pR 40 aK t.aC)]) [0]:=by
 refine FT.of [] Tryz.func85 Tryz.ntmps85 Q y2 ?_
 intro w0 U0 R0 g0
 unfold OJ
 refine Ws (Wr ?_)
 refine iL 21 (.agg (ai g)) bU y5 (eG 22 [iC 0,sC aJ] jk y6 (On (Ws (aA.draw mixed ?_))))
 refine eH (iC g.aH) kV ak ax (xI (iO 23 aK [] [] iU jT y7) Q Q (eH (xF aK g.aC) gK iK ax (aU.bind fun u1 hu1 => (kJ (LT.AO (enc:=aK) Q  Q iU jT Q (by decide) (by decide) (fun _ => Q) (jo hu1)) Q Q Q Q Q (dZ (LT.build [(0,.tmp 4,.c (iC g.aH)),(1,.tmp 8,.c (lo 23 ((([]:List aW) ++ g.aC).length)))] Q Q Bj jk Q Q Q) Q Q Q Q (kJ (stA [iC g.aH,lo 23 ((([]:List aW) ++ g.aC).length)] Q Q dA bU) Q Q Q Q Q (fA (en [(2,Cc (.pl 22 0))] [(22,.row 26 [[iC g.aH,lo 23 ((([]:List aW) ++ g.aC).length)]]),(23,pR 40 aK (([]:List aW) ++ g.aC))] z1 z2 (aA.ent (aQ.mv 23 0 Q Q) ?_)))))))))
 refine en [(2,Cc (.pl 22 0))] [(0,pR 40 aK (([]:List aW) ++ g.aC)),(22,.row 26 [[iC g.aH,lo 0 ((([]:List aW) ++ g.aC).length)]])] z1 z2 (bP ⟨⟨_,_,_,Q,Q,Q,eY,bU,_,gm dA⟩,J⟩ z1 ⟨⟨ah.sc,J,J⟩,J⟩ ⟨bD.bf kG,J⟩)
theorem aEL (s:(List Int)) (v:Int):FT Tryz.prog (JH s v) 126 [.c (xF aF s),.c (iC v)] [] (fun (t:Int) => [.c (iC t)]) (fun (t:Int) => []) []:=by
 refine FT.of [] Tryz.func126 Tryz.ntmps126 Q y2 ?_
 intro w0 U0 R0 g0
 unfold JH
 refine Ws (Wr ?_)
 refine aI (Iv 0) aZ (On (Ws (Ws (Wr ?_))))
 refine aG (Cc (xF aF s)) y4 (aY (LT.iI Q dS) Q Q Q (aG (Iv 0) aZ (On (aA.block ?_))))
 refine aA.oz (id:=0) (JI s v) (fun s1 => ([(0,Cc (xF aF s)),(1,Iv v),(7,Iv (s.length:Int)),(8,Iv s1)],[])) (fun b8 => ([],[])) (lU Tryz.prog Tryz.f126.results.toList [] [] (fun (t:Int) => [.c (iC t)]) (fun (t:Int) => [])) ?_ (aQ.of z4 J) Q (fun b8 _ => ?_) qC
 ·intro s1
  unfold JI
  refine Ws (Wr ?_)
  refine af LT.lss y5 (On (Ws ?_))
  refine aA.cond Q (fun yV => ?_) (fun yV => ?_)
  ·refine aA.skip (Ws (aA.block (Ws (Wr ?_))))
   refine aG (Iv s1) y4 (aI (Iv s1) y4 (On (Ws (Wr ?_))))
   refine aG (Iv v) y4 (aG (Cc (xF aF s)) y4 (aG (Iv s1) y4 (aP fun x10 BH => (dY (LT.eF (enc:=aF) Q dU BH gI) Q Q Q Q (aY (LT.iw Q ak) Q Q Q (af LT.eql y5 (On (aA.cond Q (fun wU => ?_) (fun wU => ?_)))))))))
   ·refine Ws (Wr ?_)
    refine aG (Iv s1) y4 (aI (Iv s1) y4 (On (aA.ret ⟨Q,pX z1 J ⟨ah.sc,J⟩ J⟩)))
   ·refine aA.skip (aA.blk (Wr ?_))
    refine af LT.add aV (aG (Iv (aB (s1 + 1))) y4 (On (aX Q z4 J)))
  ·refine fV y2 J J
 ·refine Ws (Wr ?_)
  refine aI (Iv (-1)) aZ (On (bP z1 J ⟨ah.sc,J⟩ J))
theorem aMd (s:(List Int)) (v:Int):FT Tryz.prog (OW s v) 76 [.c (xF aF s),.c (iC v)] [] (fun (t:Bool) => [.c (bC t)]) (fun (t:Bool) => []) []:=by
 refine FT.of [] Tryz.func76 Tryz.ntmps76 Q y2 ?_
 intro w0 U0 R0 g0
 unfold OW
 refine Ws (Wr ?_)
 refine aI (Bv false) aZ (On (Ws (Wr ?_)))
 refine aG (Cc (xF aF s)) y4 (aG (Iv v) y4 (aP fun r1 hr1 => (jD [.c (xF aF s),.c (iC v)] (aEL s v r1 hr1) Zc (iZ y2) y5 z3 (af LT.geq aV (aI (Bv (decide (0 ≤ r1))) y4 (On (bP z1 J ⟨ah.sc,J⟩ J)))))))
theorem aEb (b:aW) (v:Int):FT Tryz.prog (Fh b v) 185 [.agg [iC b.A,iC b.B],.c (iC v)] [] (fun (t:Int) => [.c (iC t)]) (fun (t:Int) => []) []:=by
 refine FT.of [] Tryz.func185 Tryz.ntmps185 Q y2 ?_
 intro w0 U0 R0 g0
 unfold Fh
 refine Ws (Wr ?_)
 refine iL 21 (.agg [iC b.A,iC b.B]) fB y5 (aI (Iv 0) aZ (On (Ws (Wr ?_))))
 refine dK (iC b.A) lM ak ax (dK (iC b.B) mZ ak ax (af LT.add y5 (aG (Iv v) y4 (af LT.sub y5 (aI (Iv (aB ((aB (b.A + b.B)) - v))) y4 (On (bP z1 J ⟨ah.sc,J⟩ J)))))))
theorem aEZ (l:(List Int)) (x:Int):FT Tryz.prog (Jp l x) 79 [.c (xF aF l),.c (iC x)] [] (fun (t:Bool) => [.c (bC t)]) (fun (t:Bool) => []) []:=by
 refine FT.of [] Tryz.func79 Tryz.ntmps79 Q y2 ?_
 intro w0 U0 R0 g0
 unfold Jp
 refine Ws (Wr ?_)
 refine aI (Bv false) aZ (On (Ws (Ws (Wr ?_))))
 refine aI (Iv 0) aZ (On (aA.block ?_))
 refine aA.oz (id:=0) (Jq l x) (fun s1 => ([(0,Cc (xF aF l)),(1,Iv x),(5,Iv s1)],[])) (fun b8 => ([],[])) (lU Tryz.prog Tryz.f79.results.toList [] [] (fun (t:Bool) => [.c (bC t)]) (fun (t:Bool) => [])) ?_ (aQ.of z3 J) Q (fun b8 _ => ?_) qC
 ·intro s1
  unfold Jq
  refine Ws (Ws (Wr ?_))
  refine aG (Iv s1) y4 (aG (Cc (xF aF l)) y4 (aY (LT.iI Q dS) Q Q Q (af LT.lss y5 (On (aA.cond Q (fun yV => ?_) (fun yV => ?_))))))
  ·refine aA.skip (Ws (aA.block (Ws (Wr ?_))))
   refine aG (Cc (xF aF l)) y4 (aG (Iv s1) y4 (aP fun x10 BH => (dY (LT.eF (enc:=aF) Q dU BH gI) Q Q Q Q (aY (LT.iw Q ak) Q Q Q (aG (Iv x) y4 (af LT.eql y5 (On (aA.cond Q (fun wU => ?_) (fun wU => ?_)))))))))
   ·refine Ws (Wr ?_)
    refine aI (Bv true) aZ (On (aA.ret ⟨Q,pX z1 J ⟨ah.sc,J⟩ J⟩))
   ·refine aA.skip (aA.blk (Wr ?_))
    refine aG (Iv s1) y4 (af LT.add aV (aI (Iv (aB (s1 + 1))) y4 (On (aX Q z3 J))))
  ·refine fV y2 J J
 ·refine Ws (Wr ?_)
  refine aI (Bv false) aZ (On (bP z1 J ⟨ah.sc,J⟩ J))
theorem aMc (a:(List Int)) (b:(List Int)):FT Tryz.prog (OV a b) 10 [.c (xF aF a),.c (xF aF b)] [] (fun (t:Bool) => [.c (bC t)]) (fun (t:Bool) => []) []:=by
 refine FT.of [] Tryz.func10 Tryz.ntmps10 Q y2 ?_
 intro w0 U0 R0 g0
 unfold OV
 refine Ws (Wr ?_)
 refine aI (Bv false) aZ (On (Ws (Ws (Wr ?_))))
 refine aG (Cc (xF aF a)) y4 (aY (LT.iI Q dS) Q Q Q (aG (Cc (xF aF b)) y4 (aY (LT.iI Q dS) Q Q Q (af LT.neq y5 (On (aA.cond Q (fun hc1 => ?_) (fun hc1 => ?_)))))))
 ·refine Ws (Wr ?_)
  refine aI (Bv false) aZ (On (bP z1 J ⟨ah.sc,J⟩ J))
 ·refine aA.skip (Ws (Ws (Wr ?_)))
  refine aI (Iv 0) aZ (On (aA.block ?_))
  refine aA.oz (id:=0) (JG a b) (fun s2 => ([(0,Cc (xF aF a)),(1,Cc (xF aF b)),(5,Iv s2)],[])) (fun b11 => ([],[])) (lU Tryz.prog Tryz.f10.results.toList [] [] (fun (t:Bool) => [.c (bC t)]) (fun (t:Bool) => [])) ?_ (aQ.of z3 J) Q (fun b11 _ => ?_) qC
  ·intro s2
   unfold JG
   refine Ws (Ws (Wr ?_))
   refine aG (Iv s2) y4 (aG (Cc (xF aF a)) y4 (aY (LT.iI Q dS) Q Q Q (af LT.lss y5 (On (aA.cond Q (fun hc12 => ?_) (fun hc12 => ?_))))))
   ·refine aA.skip (Ws (aA.block (Ws (aA.draw mixed ?_))))
    refine bJ (Cc (xF aF a)) y4 (bJ (Iv s2) y4 (aU.bind fun x13 aI7 => (dZ (LT.eF (enc:=aF) Q dU aI7 gI) Q Q Q Q (bg (LT.iw Q ak) Q Q Q (bJ (Cc (xF aF b)) y4 (bJ (Iv s2) y4 (aU.bind fun x14 XC => (dZ (LT.eF (enc:=aF) Q dU XC gI) Q Q Q Q (bg (LT.iw Q ak) Q Q Q (jJ LT.neq y5 (fA ?_)))))))))))
    refine aA.cond Q (fun Az => ?_) (fun Az => ?_)
    ·refine Ws (en [] [] J J (Wr (aI (Bv false) aZ (On (aA.ret ⟨Q,pX z1 J ⟨ah.sc,J⟩ J⟩)))))
    ·refine aA.skip (aA.blk ?_)
     refine en [(0,Cc (xF aF a)),(1,Cc (xF aF b)),(5,Iv s2)] [] z3 J (Wr (aG (Iv s2) y4 (af LT.add aV (aI (Iv (aB (s2 + 1))) y4 (On (aX Q z3 J))))))
   ·refine fV y2 J J
  ·refine Ws (Wr ?_)
   refine aI (Bv true) aZ (On (bP z1 J ⟨ah.sc,J⟩ J))
theorem aMK (g:aj) (keep:(List Int)):FT Tryz.prog (OD g keep) 83 [.agg (ai g),.c (xF aF keep)] [] (fun (t:aj) => [.agg [iC t.aH,lo 0 t.aC.length]]) (fun (t:aj) => [(0,pR 40 aK t.aC)]) [0]:=by
 refine FT.of [] Tryz.func83 Tryz.ntmps83 Q y2 ?_
 intro w0 U0 R0 g0
 unfold OD
 refine Ws (Wr ?_)
 refine iL 21 (.agg (ai g)) bU y5 (eG 22 [iC 0,sC aJ] jk y6 (On (Ws (Wr ?_))))
 refine dK (iC g.aH) kV ak ax (aY (LT.build [(0,.tmp 9,.c (iC g.aH))] Q Q Bj jk Q Q Q) Q Q Q (eG 23 [iC 0,sC aJ] jk y6 (bQ (stA [iC g.aH,sC aJ] Q Q dA bU) Q Q Q Q Q (On (Ws (Ws ?_))))))
 refine en [(1,Cc (xF aF keep)),(2,Cc (.pl 21 0)),(4,Cc (.pl 22 0)),(5,Cc (.pl 23 0))] [(21,.row 26 [ai g]),(22,.row 26 [[iC 0,sC aJ]]),(23,.row 26 [[iC g.aH,sC aJ]])] z4 z3 (Wr (dK (xF aK g.aC) gK iK ax (aY (LT.iI Q iU) Q Q Q (aG (Iv 0) aZ (On (aA.block ?_))))))
 refine aA.ent (aQ.nX 23 1 28 40 Q Q Q Q) (aA.jI (id:=0) (Ig g keep) (fun s1 => ([(1,Cc (xF aF keep)),(4,Cc (.pl 22 0)),(5,Cc (.pl 23 0)),(12,Cc (xF aK g.aC)),(13,Iv (g.aC.length:Int)),(14,Iv s1.1)],[(22,.row 26 [[iC 0,sC aJ]]),(23,.row 26 [[iC g.aH,lo 28 s1.2.length]]),(28,pR 40 aK s1.2)])) (fun b18 => ([(4,Cc (.pl 22 0)),(5,Cc (.pl 23 0))],[(22,.row 26 [[iC 0,sC aJ]]),(23,.row 26 [[iC g.aH,lo 28 b18.length]]),(28,pR 40 aK b18)])) ?_ (aQ.of z6 z3) Q (fun b18 _ => ?_))
 ·intro s1
  unfold Ig
  refine Ws (Wr ?_)
  refine af LT.lss y5 (On (Ws ?_))
  refine aA.cond Q (fun hc19 => ?_) (fun hc19 => ?_)
  ·refine aA.skip (Ws (aA.block (Ws (Wr ?_))))
   refine aG (Iv s1.1) y4 (aP fun x20 DL => (dY (LT.eF (enc:=aK) Q nU DL fB) Q Q Q Q (aY (lH Q kz jL fB) Q Q Q (eG 24 [iC 0,iC 0] jT y6 (aI (Iv s1.1) y4 (bQ (stA [iC x20.A,iC x20.B] Q Q jL fB) Q Q Q Q Q (On (Ws ?_))))))))
   refine en [(1,Cc (xF aF keep)),(4,Cc (.pl 22 0)),(5,Cc (.pl 23 0)),(6,Iv s1.1),(7,Cc (.pl 24 0)),(12,Cc (xF aK g.aC)),(13,Iv (g.aC.length:Int)),(14,Iv s1.1)] [(22,.row 26 [[iC 0,sC aJ]]),(23,.row 26 [[iC g.aH,lo 28 s1.2.length]]),(24,.row 40 [[iC x20.A,iC x20.B]]),(28,pR 40 aK s1.2)] z8 z4 (Wr (aG (Cc (xF aF keep)) y4 (aG (Iv s1.1) y4 (aP fun dV Eu => (jD [.c (xF aF keep),.c (iC s1.1)] (aMd keep s1.1 dV Eu) aF3 (iZ y2) y5 z3 (On (aA.eP (fun j24 => ([(1,Cc (xF aF keep)),(4,Cc (.pl 22 0)),(5,Cc (.pl 23 0)),(12,Cc (xF aK g.aC)),(13,Iv (g.aC.length:Int)),(14,Iv s1.1)],[(22,.row 26 [[iC 0,sC aJ]]),(23,.row 26 [[iC g.aH,lo 28 j24.length]]),(28,pR 40 aK j24)])) ?_ (fun j24 _ => ?_))))))))
   ·refine aA.cond Q (fun hc25 => ?_) (fun hc25 => ?_)
    ·refine Wr (dK (lo 28 s1.2.length) gK iK ax (bM (bV [iC x20.A,iC x20.B] Q kz jL fB) Q Q Q Q (nP (iO 26 aK [(0,.tmp 24,.agg [iC x20.A,iC x20.B])] [x20] iU jT y7) Q Q Q (aP fun u26 aIh => (ny (LT.nZ (enc:=aK) Q Q Q iU jT Q (by decide) (by decide) (fun _ => Q) (jo aIh)) Q Q Q Q Q Q (aY (LT.gU Q gK) Q Q Q (bQ (qh (.c (lo 28 ((s1.2 ++ [x20]).length))) [iC g.aH,lo 28 ((s1.2 ++ [x20]).length)] Q Q DR EG) Q Q Q Q Q (On (aX Q z6 z3)))))))))
    ·refine aA.skip (aX Q z6 z3)
   ·refine aA.blk (Wr ?_)
    refine af LT.add aV (aG (Iv (aB (s1.1 + 1))) y4 (On (aX Q z6 z3)))
  ·refine fV y2 z2 z3
 ·refine Ws (Wr ?_)
  refine bM (bV [iC g.aH,lo 28 b18.length] Q eY dA bU) Q Q Q Q (bQ (stA [iC g.aH,lo 28 b18.length] Q Q dA bU) Q Q Q Q Q (On (en [(4,Cc (.pl 22 0))] [(22,.row 26 [[iC g.aH,lo 28 b18.length]]),(28,pR 40 aK b18)] z1 z2 (aA.ent (aQ.mv 28 0 Q Q) (en [(4,Cc (.pl 22 0))] [(0,pR 40 aK b18),(22,.row 26 [[iC g.aH,lo 0 b18.length]])] z1 z2 (bP ⟨⟨_,_,_,Q,Q,Q,eY,bU,_,gm dA⟩,J⟩ z1 ⟨⟨ah.sc,J,J⟩,J⟩ ⟨bD.bf kG,J⟩))))))
theorem aMo (g:aj) (keep:(List Int)):FT Tryz.prog (Oo g keep) 95 [.agg (ai g),.c (xF aF keep)] [] (fun (t:aj) => [.agg [iC t.aH,lo 0 t.aC.length]]) (fun (t:aj) => [(0,pR 40 aK t.aC)]) [0]:=by
 refine FT.of [] Tryz.func95 Tryz.ntmps95 Q y2 ?_
 intro w0 U0 R0 g0
 unfold Oo
 refine Ws (Wr ?_)
 refine iL 21 (.agg (ai g)) bU y5 (eG 22 [iC 0,sC aJ] jk y6 (On (Ws (Wr ?_))))
 refine dK (iC g.aH) kV ak ax (l7 (iO 23 aK [] [] iU jT y7) Q Q (dY (LT.build [(0,.tmp 8,.c (iC g.aH)),(1,.tmp 9,.c (lo 23 (([]:List aW).length)))] Q Q Bj jk Q Q Q) Q Q Q Q (eG 24 [iC 0,sC aJ] jk y6 (bQ (stA [iC g.aH,lo 23 (([]:List aW).length)] Q Q dA bU) Q Q Q Q Q (On (Ws (Ws ?_)))))))
 refine en [(1,Cc (xF aF keep)),(2,Cc (.pl 21 0)),(4,Cc (.pl 22 0)),(5,Cc (.pl 24 0))] [(21,.row 26 [ai g]),(22,.row 26 [[iC 0,sC aJ]]),(23,pR 40 aK ([]:List aW)),(24,.row 26 [[iC g.aH,lo 23 (([]:List aW).length)]])] z4 z4 (Wr (aI (Iv 0) aZ (On (aA.block ?_))))
 refine aA.jI (id:=0) (JW g keep) (fun s1 => ([(1,Cc (xF aF keep)),(2,Cc (.pl 21 0)),(4,Cc (.pl 22 0)),(5,Cc (.pl 24 0)),(6,Iv s1.1)],[(21,.row 26 [ai g]),(22,.row 26 [[iC 0,sC aJ]]),(23,pR 40 aK s1.2),(24,.row 26 [[iC g.aH,lo 23 s1.2.length]])])) (fun b20 => ([(4,Cc (.pl 22 0)),(5,Cc (.pl 24 0))],[(22,.row 26 [[iC 0,sC aJ]]),(23,pR 40 aK b20),(24,.row 26 [[iC g.aH,lo 23 b20.length]])])) ?_ (aQ.of z5 z4) Q (fun b20 _ => ?_)
 ·intro s1
  unfold JW
  refine Ws (Ws (Wr ?_))
  refine aG (Iv s1.1) y4 (dK (xF aK g.aC) gK iK ax (aY (LT.iI Q iU) Q Q Q (af LT.lss y5 (On (aA.cond Q (fun hc21 => ?_) (fun hc21 => ?_))))))
  ·refine aA.skip (Ws (aA.block (Ws (Wr ?_))))
   refine aG (Cc (xF aF keep)) y4 (aG (Iv s1.1) y4 (aP fun r22 NP => (jD [.c (xF aF keep),.c (iC s1.1)] (aEZ keep s1.1 r22 NP) aAB (iZ y2) y5 z3 (On (aA.eP (fun j26 => ([(1,Cc (xF aF keep)),(2,Cc (.pl 21 0)),(4,Cc (.pl 22 0)),(5,Cc (.pl 24 0)),(6,Iv s1.1)],[(21,.row 26 [ai g]),(22,.row 26 [[iC 0,sC aJ]]),(23,pR 40 aK j26),(24,.row 26 [[iC g.aH,lo 23 j26.length]])])) ?_ (fun j26 _ => ?_))))))
   ·refine aA.cond Q (fun hc27 => ?_) (fun hc27 => ?_)
    ·refine aA.draw mixed (eH (lo 23 s1.2.length) gK iK ax (eH (xF aK g.aC) gK iK ax (bJ (Iv s1.1) y4 (aU.bind fun x28 hx28 => (dZ (LT.eF (enc:=aK) Q nU hx28 fB) Q Q Q Q (bg (lH Q kz jL fB) Q Q Q (Gu (iO 26 aK [(0,.tmp 27,.agg [iC x28.A,iC x28.B])] [x28] iU jT y7) Q Q Q (aU.bind fun u29 aIl => (LX (LT.nZ (enc:=aK) Q Q Q iU jT Q (by decide) (by decide) (fun _ => Q) (jo aIl)) Q Q Q Q Q Q ?_)))))))))
     refine bg (LT.gU Q gK) Q Q Q (kJ (qh (.c (lo 23 ((s1.2 ++ [x28]).length))) [iC g.aH,lo 23 ((s1.2 ++ [x28]).length)] Q Q DR EG) Q Q Q Q Q (fA (aX Q z5 z4)))
    ·refine aA.skip (aX Q z5 z4)
   ·refine aA.blk (Wr ?_)
    refine aG (Iv s1.1) y4 (af LT.add aV (aI (Iv (aB (s1.1 + 1))) y4 (On (aX Q z5 z4))))
  ·refine fV y2 z2 z3
 ·refine Ws (Wr ?_)
  refine bM (bV [iC g.aH,lo 23 b20.length] Q eY dA bU) Q Q Q Q (bQ (stA [iC g.aH,lo 23 b20.length] Q Q dA bU) Q Q Q Q Q (On (en [(4,Cc (.pl 22 0))] [(22,.row 26 [[iC g.aH,lo 23 b20.length]]),(23,pR 40 aK b20)] z1 z2 (aA.ent (aQ.mv 23 0 Q Q) (en [(4,Cc (.pl 22 0))] [(0,pR 40 aK b20),(22,.row 26 [[iC g.aH,lo 0 b20.length]])] z1 z2 (bP ⟨⟨_,_,_,Q,Q,Q,eY,bU,_,gm dA⟩,J⟩ z1 ⟨⟨ah.sc,J,J⟩,J⟩ ⟨bD.bf kG,J⟩))))))
end Go.Proofs.YtdmlaldifbmkpaaGreat
end
