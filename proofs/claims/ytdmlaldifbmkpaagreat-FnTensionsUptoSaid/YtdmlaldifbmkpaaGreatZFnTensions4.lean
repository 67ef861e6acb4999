/- Parts of a proof that a law of the program holds: what the program computes, and why that is right. -/
import Derived.Test.YtdmlaldifbmkpaaGreatProg
import Derived.Test.YtdmlaldifbmkpaaGreatZFnTensions3
set_option linter.unusedVariables false
set_option linter.unusedSimpArgs false
set_option linter.unnecessarySimpa false
set_option maxRecDepth 100000
set_option maxHeartbeats 8000000
section
open Go Go.Fw Go.Mx
namespace Go.Proofs.YtdmlaldifbmkpaaGreat
section
def vk (f:ah) (v:List Int):Bool:=(zO f v).getD false
theorem Tt (f:ah) (v:List Int) (h0:SM f.Graph.aF.length) (h1:SM f.Places.length) (hv:SM v.length):Fp f v = some (vk f v) ∧ zO f v = some (vk f v):=by
 obtain ⟨w,hs,hi⟩:=aBx f v h0 h1 hv
 unfold vk
 rw [hi]
 exact ⟨hs,rfl⟩
def rP (t:bI) (v:List Int):Bool:=(wQ t v).getD false
theorem FZ (t:bI) (v:List Int) (h0:t.aG.Graph.aF.length ≤ 1048576) (h1:t.aG.Places.length ≤ 1048576) (h2:t.aN.length ≤ 1048576) (hv:v.length ≤ 1048576):Fv t v = some (rP t v) ∧ wQ t v = some (rP t v):=by
 obtain ⟨w,hs,hi⟩:=aG8 t v h0 h1 h2 hv
 unfold rP
 rw [hi]
 exact ⟨hs,rfl⟩
theorem WJ {f:ah} {v:List Int} (h:v ∈ iU f):vF f = true ∧ NV (nC f) v:=by
 unfold iU at h
 cases hv:vF f with
 | false => rw [hv] at h; cases h
 | true =>
  rw [hv] at h
  have hV:=o5 hv
  have hn:=yY hV
  have hl:=hV.len
  exact ⟨rfl,aEe (by omega) (by rw [vH]; omega) (yw hV) (Oo hV) h⟩
theorem WL (f:ah):(iU f).length ≤ 12:=by
 unfold iU
 cases hv:vF f with
 | false => exact Nat.zero_le _
 | true =>
  have hn:=yY (o5 hv)
  have:=aEd (n:=nC f) (M:=fZ f)
  rw [cond_true]
  omega
theorem JS (f:ah) {v:List Int} (h:v ∈ iU f):v.length ≤ 12:=by
 obtain ⟨h1,h2⟩:=WJ h
 have:=yY (o5 h1)
 rw [h2.len]
 exact this
def AA (f:ah):List Int × Bool:=((iU f).findSome? fun v => bif vk f v then none else some (v,true)).getD ([],false)
section
variable (f:ah) (h0:SM f.Graph.aF.length) (h1:SM f.Places.length)
include h0 h1
theorem aIn:Rh f = some (AA f):=by
 have hL:=WL f
 unfold Rh AA
 rw [aAJ f h0 h1,Option.bind_some]
 have key:=U6 (b:=NE f (iU f)) (fun v => bif vk f v then none else some (v,true)) (iU f) (by omega) (fun k v hk => by
  have hv:=JS f (List.mem_of_getElem? hk)
  have hk2:=(List.getElem?_eq_some_iff.1 hk).1
  unfold NE
  rw [decide_eq_true (by omega),cond_true,kT hk,Option.bind_some,(Tt f v h0 h1 (by show _ ≤ _; omega)).1,Option.bind_some]
  cases vk f v <;> rfl) (by
  unfold NE
  rw [decide_eq_false (by omega)]
  rfl)
 rw [key]
 cases (iU f).findSome? fun v => bif vk f v then none else some (v,true) <;> rfl
theorem aIm:Qp f = some (AA f):=by
 have hL:=WL f
 unfold Qp AA
 rw [aEM f h0 h1,Option.bind_some]
 have key:=U6 (b:=LU f (iU f)) (fun v => bif vk f v then none else some (v,true)) (iU f) (by omega) (fun k v hk => by
  have hv:=JS f (List.mem_of_getElem? hk)
  have hk2:=(List.getElem?_eq_some_iff.1 hk).1
  unfold LU
  rw [decide_eq_true (by omega),cond_true,kT hk,Option.bind_some,(Tt f v h0 h1 (by show _ ≤ _; omega)).2,Option.bind_some]
  cases vk f v <;> rfl) (by
  unfold LU
  rw [decide_eq_false (by omega)]
  rfl)
 rw [key]
 cases (iU f).findSome? fun v => bif vk f v then none else some (v,true) <;> rfl
end
theorem aCz {f:ah} {p:List Int → Option (List Int × Bool)} {c:Nat} (hp:∀ v r,v ∈ iU f → p v = some r → r.1.length ≤ c):(((iU f).findSome? p).getD ([],false)).1.length ≤ c:=by
 cases h:(iU f).findSome? p with
 | none => exact Nat.zero_le _
 | some r =>
  obtain ⟨v,hv,e⟩:=YX h
  exact hp v r hv e
theorem aIo (f:ah):(AA f).1.length ≤ 12:=aCz fun v r hv e => by
 cases ht:vk f v <;> rw [ht] at e
 ·injection e with e
  subst e
  exact JS f hv
 ·cases e
def nX (v:List Int):List Int:=v.map (- ·)
def zK (t:bI) (v:List Int):Option (List Int × Bool):=bif rP t v then some (v,true) else bif rP t (nX v) then some (nX v,true) else none
def Af (t:bI) (L:List (List Int)):List Int × Bool:=(L.findSome? (zK t)).getD ([],false)
theorem aNB {n:Nat} {v:List Int} (h:NV n v):v.map (fun x => aA (-x)) = nX v:=List.map_congr_left fun x hx => by
 obtain ⟨j,hj,rfl⟩:=List.mem_iff_getElem.1 hx
 have:=h.bnd j
 rw [List.getD_eq_getElem?_getD,List.getElem?_eq_getElem hj,Option.getD_some] at this
 exact aA6 this
section
variable (t:bI) (h0:t.aG.Graph.aF.length ≤ 1048576) (h1:t.aG.Places.length ≤ 1048576) (h2:t.aN.length ≤ 1048576)
include h0 h1 h2
theorem aEE (f:ah):Nk t (iU f) = some (Af t (iU f)):=by
 have hL:=WL f
 unfold Nk Af
 have key:=U6 (b:=Nl t (iU f)) (zK t) (iU f) (by omega) (fun k v hk => by
  have hm:=List.mem_of_getElem? hk
  have hv:=JS f hm
  have hN:=(WJ hm).2
  have hk2:=(List.getElem?_eq_some_iff.1 hk).1
  have hL4:bH (Np (iU f) (k:Int)) BIG (0,[]) = some ((k:Int),nX v):=by
   have hnl:(nX v).length = v.length:=by simp [nX]
   refine kM (fun (i:Nat) => ((i:Int),(nX v).take i)) v.length (by omega) (by simp) (fun i hi => ?_) ?_
   ·have e3:=iq (l:=v) 0 hi
    have hlm:∀ x:Int,lim (((nX v).take i).length + ([x]:List Int).length) = some ():=fun x => kV (by rw [List.length_take]; simp; omega)
    have hx:=take_snoc (l:=nX v) (d:=0) (show i < _ by rw [hnl]; exact hi)
    have he:(nX v).getD i 0 = - v.getD i 0:=by simp [nX,List.getD_eq_getElem?_getD,List.getElem?_eq_getElem hi]
    unfold Np
    simp only [kT hk,Option.bind_some,e3,hlm,aA6 (hN.bnd i),fK (show i ≤ 1099511627776 by omega)]
    rw [decide_eq_true (by omega),cond_true,hx,he]
   ·unfold Np
    simp only [kT hk,Option.bind_some]
    rw [decide_eq_false (by omega),cond_false,List.take_of_length_le (by omega)]
  unfold Nl zK
  rw [decide_eq_true (by omega),cond_true,kT hk,Option.bind_some,(FZ t v h0 h1 h2 (by omega)).1,Option.bind_some]
  cases rP t v with
  | true => rfl
  | false =>
   rw [cond_false,cond_false,hL4,Option.bind_some,(FZ t (nX v) h0 h1 h2 (by simp [nX]; omega)).1,Option.bind_some]
   cases rP t (nX v) <;> rfl) (by
  unfold Nl
  rw [decide_eq_false (by omega)]
  rfl)
 rw [key]
 cases (iU f).findSome? (zK t) <;> rfl
theorem aMw (f:ah):bH (LP t) BIG (((iU f).length:Int),0,iU f) = some (match (iU f).findSome? (zK t) with
  | some r => .inr (r.1,r.2,t)
  | none => .inl ()):=by
 have hL:=WL f
 have hstep:∀ (k:Nat) v,(iU f)[k]? = some v → LP t (((iU f).length:Int),(k:Int),mix ((iU f).map nX) (iU f) k) = match zK t v with
   | some r => some (.inr (.inr (r.1,r.2,t)))
   | none => some (.inl (((iU f).length:Int),((k + 1:Nat):Int),mix ((iU f).map nX) (iU f) (k + 1))):=fun k v hk => by
  have hm:=List.mem_of_getElem? hk
  have hv:=JS f hm
  have hN:=(WJ hm).2
  have hk2:=(List.getElem?_eq_some_iff.1 hk).1
  have sH:((iU f).map nX).length = (iU f).length:=by simp
  have hml:=JO sH (i:=k) (by omega)
  have hg:=JM ([]:List Int) sH (i:=k) (j:=k) (by omega)
  rw [if_neg (Nat.lt_irrefl _),List.getD_eq_getElem?_getD (l:=iU f),hk,Option.getD_some] at hg
  have hx:=JQ (d:=([]:List Int)) (x:=nX v) sH hk2 (by simp [List.getD_eq_getElem?_getD,hk])
  generalize mix ((iU f).map nX) (iU f) k = out at *
  have e1:∀ r:List Int,idx (out.set k r) (k:Int) = some r:=fun r => by
   apply kT
   rw [List.getElem?_set,if_pos rfl,if_pos (by omega)]
  have e0:idx out (k:Int) = some v:=by
   have:=iq (l:=out) [] (show k < _ by omega)
   rw [hg] at this
   exact this
  have hos:out.set k v = out:=by
   rw [← hg]; exact aFM [] (by omega)
  have hL4:bH (Qm (((iU f).length:Int),(k:Int),out) v) BIG (0,out) = some (((iU f).length:Int),(k:Int),out.set k (nX v)):=by
   have:=aEI (b:=Qm (((iU f).length:Int),(k:Int),out) v) (s:=(0,out)) (fun i l => ((i:Int),out.set k l)) (fun l => (((iU f).length:Int),(k:Int),out.set k l)) (fun x => aA (-x)) v (by show _ ≤ _; omega) (by rw [hos]; rfl)
    (fun i l x hi hlen _ hx => by
     have hs:same v.length l.length = some ():=XJ hlen.symm
     unfold Qm
     simp only [e1,Option.bind_some,hs,kT hx,Int.toNat_natCast,List.set_set,fK (show i ≤ 1099511627776 by omega)]
     rw [decide_eq_true (by omega),cond_true]) (fun l hlen => by
     unfold Qm
     simp only []
     rw [decide_eq_false (by omega),cond_false])
   rw [this,aNB hN]
  have hsn:same v.length (nX v).length = some ():=XJ (by simp [nX])
  unfold LP zK
  simp only [e0,Option.bind_some,(FZ t v h0 h1 h2 (by omega)).2]
  rw [decide_eq_true (show (k:Int) < ((iU f).length:Int) by omega),cond_true]
  cases rP t v with
  | true => rfl
  | false =>
   simp only [cond_false,hL4,Option.bind_some,e1,hsn,(FZ t (nX v) h0 h1 h2 (by simp [nX]; omega)).2,fK (show k ≤ 1099511627776 by omega)]
   cases rP t (nX v) with
   | true => rfl
   | false => simp only [cond_false,hx]
 cases hf:(iU f).findSome? (zK t) with
 | none =>
  have hn:=List.findSome?_eq_none_iff.1 hf
  refine kM (fun k => (((iU f).length:Int),(k:Int),mix ((iU f).map nX) (iU f) k)) (iU f).length (by omega) (by rw [JR]; rfl) (fun k hk => ?_) ?_
  ·rw [hstep k _ (List.getElem?_eq_getElem hk),hn _ (List.getElem_mem hk)]
  ·unfold LP
   simp only []
   rw [decide_eq_false (by omega),cond_false]
 | some c =>
  obtain ⟨l1,a,l2,e,ha,hn⟩:=List.findSome?_eq_some_iff.1 hf
  have hl1:l1.length < (iU f).length:=by rw [e]; simp
  refine kM (fun k => (((iU f).length:Int),(k:Int),mix ((iU f).map nX) (iU f) k)) l1.length (by omega) (by rw [JR]; rfl) (fun k hk => ?_) ?_
  ·have hk2:(iU f)[k]? = some l1[k]:=by rw [e,List.getElem?_append_left hk,List.getElem?_eq_getElem hk]
   rw [hstep k _ hk2,hn _ (List.getElem_mem hk)]
  ·have hk2:(iU f)[l1.length]? = some a:=by rw [e,List.getElem?_append_right (Nat.le_refl _),Nat.sub_self]; rfl
   rw [hstep _ _ hk2,ha]
def yc (t:bI) (keep:List Int):ah:=⟨only t.aG.Graph keep,t.aG.Places⟩
theorem aFo (keep:List Int) (hk:SM keep.length):aAC keep t = some ((Af t (iU (yc t keep))).1,(Af t (iU (yc t keep))).2,t):=by
 have s0:SM t.aG.Graph.aF.length:=by show _ ≤ _; omega
 have s1:SM t.aG.Places.length:=by show _ ≤ _; omega
 have ho:=aEm s0 keep
 unfold aAC Af
 rw [aNL _ s0 keep hk,Option.bind_some,aEM (f:=⟨only t.aG.Graph keep,t.aG.Places⟩) ho s1,Option.bind_some]
 show (bH (LP t) BIG (((iU (yc t keep)).length:Int),0,iU (yc t keep))).bind _ = _
 rw [aMw t h0 h1 h2 (yc t keep),Option.bind_some]
 cases (iU (yc t keep)).findSome? (zK t) <;> rfl
end
theorem aEC (t:bI) (f:ah):(Af t (iU f)).1.length ≤ 12:=aCz fun v r hv e => by
 have:=JS f hv
 unfold zK at e
 cases h1:rP t v <;> rw [h1] at e
 ·cases h2:rP t (nX v) <;> rw [h2] at e
  ·cases e
  ·injection e with e
   subst e
   show (nX v).length ≤ 12
   simp [nX]; exact this
 ·injection e with e
  subst e
  exact this
def zx (n i:Nat):List Int:=pieces (fun j => bif (j:Int) != (i:Int) then [(j:Int)] else []) n
theorem aHC (n i:Nat):(zx n i).length ≤ n:=by
 have:=pieces_len (f:=fun j => bif ((j:Nat):Int) != (i:Int) then [(j:Int)] else []) (c:=1) n (fun k _ => by cases ((k:Nat):Int) != (i:Int) <;> simp)
 unfold zx
 omega
theorem Yo {n i k:Nat} (hk:k < n):o9 (zx n i) (k:Int) = decide (k ≠ i):=by
 by_cases h:k = i
 ·rw [decide_eq_false (by omega)]
  cases hb:o9 (zx n i) (k:Int) with
  | false => rfl
  | true =>
   obtain ⟨j,hj,hm⟩:=(TD _).1 (aDG.1 hb)
   by_cases e:(j:Int) = (i:Int)
   ·rw [show ((j:Int) != (i:Int)) = false by simp [e]] at hm
    cases hm
   ·rw [show ((j:Int) != (i:Int)) = true by simp [e]] at hm
    have:(k:Int) = (j:Int):=by simpa using hm
    omega
 ·rw [decide_eq_true h]
  refine aDG.2 ((TD _).2 ⟨k,hk,?_⟩)
  rw [show ((k:Int) != (i:Int)) = true by simp; omega]
  exact List.mem_cons_self ..
theorem aAQ {α:Type} {f:Nat → List α} (a:Nat):∀ b,pieces f (a + b) = pieces f a ++ pieces (fun k => f (a + k)) b
 | 0 => by simp [pieces]
 | b + 1 => by
  show pieces f (a + b) ++ f (a + b) = _ ++ (pieces _ b ++ f (a + b))
  rw [aAQ a b,List.append_assoc]
theorem aEs {α:Type} {l:List α}:∀ n,n ≤ l.length → pieces (fun k => match l[k]? with | some x => [x] | none => []) n = l.take n
 | 0,_ => by simp [pieces]
 | n + 1,h => by
  show pieces _ n ++ (match l[n]? with | some x => [x] | none => []) = _
  rw [aEs n (by omega),uM (by omega),List.getElem?_eq_getElem (by omega)]
theorem aEt {α:Type} {l:List α} (a:Nat):∀ n,a + n ≤ l.length → pieces (fun k => match l[a + k]? with | some x => [x] | none => []) n = (l.drop a).take n
 | 0,_ => by simp [pieces]
 | n + 1,h => by
  show pieces _ n ++ (match l[a + n]? with | some x => [x] | none => []) = _
  have hl:n < (l.drop a).length:=by rw [List.length_drop]; omega
  rw [aEt a n (by omega),uM hl,List.getElem?_eq_getElem (show a + n < l.length by omega)]
  simp
theorem aNN {g:bW} {i:Nat} (hi:i < g.aF.length):only g (zx g.aF.length i) = xC g i:=by
 unfold only xC
 congr 1
 obtain ⟨d,hd⟩:∃ d,g.aF.length = i + (d + 1):=⟨g.aF.length - (i + 1),by omega⟩
 have key:pieces (fun k => match g.aF[k]? with | some x => bif o9 (zx g.aF.length i) (k:Int) then [x] else [] | none => []) (i + (1 + d)) = g.aF.take i ++ g.aF.drop (i + 1):=by
  rw [aAQ i (1 + d),aAQ 1 d]
  congr 1
  ·rw [← aEs i (by omega)]
   refine aAR i fun k hk => ?_
   rw [List.getElem?_eq_getElem (show k < g.aF.length by omega)]
   dsimp only
   rw [Yo (by omega),decide_eq_true (by omega)]
   rfl
  ·have h1:pieces (fun k => match g.aF[i + k]? with | some x => bif o9 (zx g.aF.length i) ((i + k:Nat):Int) then [x] else [] | none => []) 1 = ([]:List bD):=by
    show [] ++ (match g.aF[i + 0]? with | some x => bif o9 (zx g.aF.length i) ((i + 0:Nat):Int) then [x] else [] | none => []) = _
    rw [List.getElem?_eq_getElem (show i + 0 < g.aF.length by omega)]
    dsimp only
    rw [Yo (by omega),decide_eq_false (by omega)]
    rfl
   rw [h1,List.nil_append]
   have h2:=aEt (l:=g.aF) (i + 1) d (by omega)
   rw [List.take_of_length_le (by rw [List.length_drop]; omega)] at h2
   rw [← h2]
   refine aAR d fun k hk => ?_
   rw [show i + (1 + k) = i + 1 + k by omega,List.getElem?_eq_getElem (show i + 1 + k < g.aF.length by omega)]
   dsimp only
   rw [Yo (by omega),decide_eq_true (by omega)]
   rfl
 rw [show i + (1 + d) = g.aF.length by omega] at key
 exact key
end
section
def qf (a:Int) (w r:List Int):List Int:=List.zipWith (fun x y => aA (x + aA (a * y))) w r
theorem UO {a:Int} {w r:List Int} {n:Nat} (h1:w.length = n) (h2:r.length = n):(qf a w r).length = n:=by simp [qf,h1,h2]
theorem aBe {a:Int} {w r:List Int} {k:Nat} {x y:Int} (h1:w[k]? = some x) (h2:r[k]? = some y):(qf a w r)[k]? = some (aA (x + aA (a * y))):=by
 unfold qf
 rw [List.getElem?_zipWith,h1,h2]
def five:List Int:=[-2,-1,0,1,2]
theorem U7 {k:Nat} (h:k < 5):five[k]? = some ((k:Int) - 2):=by
 have:k = 0 ∨ k = 1 ∨ k = 2 ∨ k = 3 ∨ k = 4:=by omega
 rcases this with rfl | rfl | rfl | rfl | rfl <;> rfl
def expand:List (List Int) → List (List Int) → List (List Int)
 | [],ws => ws
 | r :: L,ws => expand L (ws.flatMap fun w => five.map fun a => qf a w r)
theorem aCw:∀ (L ws vs:List (List Int)),expand L (ws ++ vs) = expand L ws ++ expand L vs
 | [],ws,vs => rfl
 | r :: L,ws,vs => by
  unfold expand
  rw [List.flatMap_append,aCw L]
theorem aCy:∀ L:List (List Int),expand L [] = []
 | [] => rfl
 | r :: L => aCy L
def tY (p:List Int → Bool):List (List Int) → List Int → Option (List Int)
 | [],w => bif p w then some w else none
 | r :: L,w => five.findSome? fun a => tY p L (qf a w r)
theorem aCx (p:List Int → Bool) (L:List (List Int)) (h:∀ v,(expand L [v]).find? p = tY p L v):∀ ws:List (List Int),(expand L ws).find? p = ws.findSome? (tY p L)
 | [] => by rw [aCy]; rfl
 | w :: ws => by
  have:expand L (w :: ws) = expand L [w] ++ expand L ws:=aCw L [w] ws
  rw [this,List.find?_append,h w,aCx p L h ws,List.findSome?_cons]
  cases tY p L w <;> rfl
theorem XZ (p:List Int → Bool):∀ (L:List (List Int)) (w:List Int),(expand L [w]).find? p = tY p L w
 | [],w => by
  unfold expand tY
  rw [List.find?_cons]
  cases p w <;> rfl
 | r :: L,w => by
  unfold expand tY
  rw [aCx p L (XZ p L)]
  simp only [List.flatMap_cons,List.flatMap_nil,List.append_nil]
  rw [List.findSome?_map]
  rfl
theorem YW:∀ (L ws:List (List Int)),(expand L ws).length = ws.length * 5 ^ L.length
 | [],ws => by simp [expand]
 | r :: L,ws => by
  unfold expand
  rw [YW L]
  have:(ws.flatMap fun w => five.map fun a => qf a w r).length = ws.length * 5:=by
   induction ws with
   | nil => rfl
   | cons w ws ih =>
    simp only [List.flatMap_cons,List.length_append,List.length_map,ih,List.length_cons]
    simp [five]
    omega
  rw [this,List.length_cons,Nat.pow_succ,Nat.mul_assoc,Nat.mul_comm 5]
theorem U4 {n:Nat}:∀ (L ws:List (List Int)),(∀ r ∈ L,r.length = n) → (∀ w ∈ ws,w.length = n) → ∀ v ∈ expand L ws,v.length = n
 | [],ws,_,hw,v,hv => hw v hv
 | r :: L,ws,hL,hw,v,hv => by
  refine U4 L _ (fun s hs => hL s (List.mem_cons_of_mem _ hs)) (fun u hu => ?_) v hv
  obtain ⟨w,h1,h2⟩:=List.mem_flatMap.1 hu
  obtain ⟨a,_,rfl⟩:=List.mem_map.1 h2
  exact UO (hw w h1) (hL r (List.mem_cons_self ..))
theorem aFn {p:List Int → Bool} {n:Nat} {L:List (List Int)} {w v:List Int} (hL:∀ r ∈ L,r.length = n) (hw:w.length = n) (h:tY p L w = some v):v.length = n:=by
 rw [← XZ] at h
 refine U4 L [w] hL (fun u hu => ?_) v (List.mem_of_find?_eq_some h)
 rw [List.mem_singleton] at hu
 rw [hu]; exact hw
theorem aId {α β:Type} {f:α → Option β} {l:List α} {k:Nat} {x:α} {y:β} (hk:l[k]? = some x) (hy:f x = some y) (hn:∀ j z,j < k → l[j]? = some z → f z = none):l.findSome? f = some y:=by
 induction l generalizing k with
 | nil => simp at hk
 | cons a l ih =>
  rw [List.findSome?_cons]
  cases k with
  | zero => simp at hk; subst hk; rw [hy]
  | succ k =>
   rw [hn 0 a (by omega) rfl]
   exact ih (by simpa using hk) fun j z hj hz => hn (j + 1) z (by omega) (by simpa using hz)
def qY (t:bI) (w:List Int):Bool:=(xH t w).getD false
theorem aAw (t:bI) (w:List Int) (h0:t.aG.Graph.aF.length ≤ 1048576) (h1:t.aG.Places.length ≤ 1048576) (h2:t.aN.length ≤ 1048576) (hw:w.length ≤ 1048576):EO t w = some (qY t w) ∧ xH t w = some (qY t w):=by
 obtain ⟨r,hs,hi⟩:=aG7 t w h0 h1 h2 hw
 unfold qY
 rw [hi]
 exact ⟨hs,rfl⟩
section
variable {t:bI} (h0:t.aG.Graph.aF.length ≤ 1048576) (h1:t.aG.Places.length ≤ 1048576) (h2:t.aN.length ≤ 1048576)
include h0 h1 h2
theorem aOf {N:Nat} (hN:N ≤ 1000) (l:List (List Int)) (hl:∀ r ∈ l,r.length = N) (hll:l.length ≤ 3):∀ (m k n:Nat) (w:List Int),k + m = l.length → m < n → w.length = N →
  ∃ r,zL n w (k:Int) l t = some r ∧ r.2.1 = (tY (qY t) (l.drop k) w).isSome ∧ r.2.2 = (l,t) ∧ ∀ y,tY (qY t) (l.drop k) w = some y → r.1 = y:=by
 intro m
 induction m with
 | zero =>
  intro k n w hk hn hw
  obtain ⟨n,rfl⟩:∃ q,n = q + 1:=⟨n - 1,by omega⟩
  have hkl:k = l.length:=by omega
  refine ⟨(w,qY t w,l,t),?_,?_,rfl,fun y hy => ?_⟩
  ·show LV (zL n) w (k:Int) l t = _
   unfold LV
   rw [hkl,beq_self_eq_true,cond_true,(aAw t w h0 h1 h2 (by omega)).2]
   rfl
  ·rw [hkl,List.drop_length]
   unfold tY
   cases qY t w <;> rfl
  ·rw [hkl,List.drop_length] at hy
   unfold tY at hy
   cases hs:qY t w with
   | true => rw [hs] at hy; injection hy with hy
   | false => rw [hs] at hy; cases hy
 | succ m ih =>
  intro k n w hk hn hw
  obtain ⟨n,rfl⟩:∃ q,n = q + 1:=⟨n - 1,by omega⟩
  have hkl:k < l.length:=by omega
  have hx:=List.getElem?_eq_getElem hkl
  have hrow:=hl _ (List.getElem_mem hkl)
  have hdrop:l.drop k = l[k] :: l.drop (k + 1):=List.drop_eq_getElem_cons hkl
  generalize l[k] = row at hx hrow hdrop
  let R:Int → Option (List Int):=fun a => tY (qY t) (l.drop (k + 1)) (qf a w row)
  have hR:tY (qY t) (l.drop k) w = five.findSome? R:=by rw [hdrop]; rfl
  -- the innerL loop
  have aMZ:∀ a:Int,bH (Qr (k:Int) (a,l,t.aG.Graph.aI,t.aG.Graph.aF,t.aG.Places,t.aN) w) BIG (0,w) = some (a,l,t.aG.Graph.aI,t.aG.Graph.aF,t.aG.Places,t.aN,qf a w row):=by
   intro a
   obtain ⟨r,hr,hq⟩:=uH (b:=Qr (k:Int) (a,l,t.aG.Graph.aI,t.aG.Graph.aF,t.aG.Places,t.aN) w) (s:=(0,w))
    (fun j s => ∃ x:List Int,s = ((j:Int),x) ∧ x.length = N ∧ (∀ i,i < j → x[i]? = (qf a w row)[i]?) ∧ ∀ i,j ≤ i → x[i]? = w[i]?)
    (fun r => r = (a,l,t.aG.Graph.aI,t.aG.Graph.aF,t.aG.Places,t.aN,qf a w row)) N (by omega) ⟨w,rfl,hw,(fun i hi => by omega),(fun _ _ => rfl)⟩ (fun j s hj hs => by
     obtain ⟨x,rfl,hxl,ha,hb⟩:=hs
     have hwj:w[j]? = some (w[j]'(by omega)):=List.getElem?_eq_getElem (by omega)
     have hrj:row[j]? = some (row[j]'(by omega)):=List.getElem?_eq_getElem (by omega)
     have hxj:x[j]? = some (w[j]'(by omega)):=(hb j (Nat.le_refl _)).trans hwj
     have hg:=aBe (a:=a) hwj hrj
     refine .inl ⟨_,?_,x.set j (aA (w[j]'(by omega) + aA (a * row[j]'(by omega)))),rfl,by simpa using hxl,fun i hi => ?_,fun i hi => ?_⟩
     ·unfold Qr
      simp only [kT hxj,kT hx,kT hrj,Option.bind_some,Int.toNat_natCast,fK (show j ≤ 1099511627776 by omega)]
      rw [decide_eq_true (by omega)]
      rfl
     ·rw [List.getElem?_set]
      by_cases hij:j = i
      ·subst hij
       rw [if_pos rfl,if_pos (by omega),hg]
      ·rw [if_neg hij]
       exact ha i (by omega)
     ·rw [List.getElem?_set,if_neg (by omega)]
      exact hb i (by omega)) (fun s hs => by
     obtain ⟨x,rfl,hxl,ha,hb⟩:=hs
     refine ⟨_,by unfold Qr; rw [decide_eq_false (by simp only; omega)]; rfl,?_⟩
     have:x = qf a w row:=List.ext_getElem? fun i => by
      by_cases hi:i < N
      ·exact ha i hi
      ·rw [List.getElem?_eq_none (by omega),List.getElem?_eq_none (by rw [UO hw hrow]; omega)]
     rw [this])
   rw [hr,hq]
  obtain ⟨r,hr,hq⟩:=uH (b:=Qq w (k:Int) (zL n)) (s:=((-2),l,t.aG.Graph.aI,t.aG.Graph.aF,t.aG.Places,t.aN))
   (fun j s => s = ((j:Int) - 2,l,t.aG.Graph.aI,t.aG.Graph.aF,t.aG.Places,t.aN) ∧ ∀ i:Nat,i < j → R ((i:Int) - 2) = none)
   (fun r => (five.findSome? R = none ∧ r = .inl (l,t.aG.Graph.aI,t.aG.Graph.aF,t.aG.Places,t.aN)) ∨ ∃ y,five.findSome? R = some y ∧ r = .inr (y,true,l,t)) 5 (by omega) ⟨rfl,fun i hi => by omega⟩ (fun j s hj hs => by
    obtain ⟨rfl,hnone⟩:=hs
    obtain ⟨q,hq,hq1,hq2,hq3⟩:=ih (k + 1) n (qf ((j:Int) - 2) w row) (by omega) (by omega) (UO hw hrow)
    have e2:q = (q.1,q.2.1,l,t):=by rw [← hq2]
    have hstep:Qq w (k:Int) (zL n) ((j:Int) - 2,l,t.aG.Graph.aI,t.aG.Graph.aF,t.aG.Places,t.aN) = bif q.2.1 then some (.inr (.inr (q.1,true,l,t))) else some (.inl (((j + 1:Nat):Int) - 2,l,t.aG.Graph.aI,t.aG.Graph.aF,t.aG.Places,t.aN)):=by
     unfold Qq
     rw [decide_eq_true (by simp only; omega),cond_true,Uo w (by omega)]
     simp only [Option.bind_some,aMZ,fK (show k ≤ 1099511627776 by omega)]
     rw [show bI.mk (ah.mk (bW.mk t.aG.Graph.aI t.aG.Graph.aF) t.aG.Places) t.aN = t from rfl,hq,e2]
     simp only [Option.bind_some]
     rw [dU (n:=(j:Int) - 2 + 1) (by omega) (by omega),show (j:Int) - 2 + 1 = ((j + 1:Nat):Int) - 2 by omega]
    rw [hstep]
    cases hb:q.2.1 with
    | true =>
     rw [hb] at hq1
     obtain ⟨y,hy⟩:=Option.isSome_iff_exists.1 hq1.symm
     have hy1:=hq3 y hy
     refine .inr ⟨_,rfl,.inr ⟨y,?_,by rw [hy1]⟩⟩
     refine aId (U7 hj) hy fun i z hi hz => ?_
     rw [U7 (by omega)] at hz
     injection hz with hz
     rw [← hz]
     exact hnone i hi
    | false =>
     rw [hb] at hq1
     refine .inl ⟨_,rfl,rfl,fun i hi => ?_⟩
     by_cases hij:i = j
     ·subst hij
      exact Option.isSome_eq_false_iff.1 hq1.symm |> Option.isNone_iff_eq_none.1
     ·exact hnone i (by omega)) (fun s hs => by
    obtain ⟨rfl,hnone⟩:=hs
    refine ⟨_,by unfold Qq; rw [decide_eq_false (by simp only; omega)]; rfl,.inl ⟨?_,rfl⟩⟩
    rw [List.findSome?_eq_none_iff]
    intro z hz
    obtain ⟨i,hi⟩:=List.getElem?_of_mem hz
    have hi5:i < 5:=(List.getElem?_eq_some_iff.1 hi).1
    rw [U7 hi5] at hi
    injection hi with hi
    rw [← hi]
    exact hnone i hi5)
  have hB:zL (n + 1) w (k:Int) l t = Sum.elim (fun jJ => some (([]:List Int),false,jJ.1,(bI.mk (ah.mk (bW.mk jJ.2.1 jJ.2.2.1) jJ.2.2.2.1) jJ.2.2.2.2))) (fun r => some r) r:=by
   show LV (zL n) w (k:Int) l t = _
   unfold LV
   have hne:((k:Int) == (l.length:Int)) = false:=by simp; omega
   rw [hne,cond_false,hr]
   rfl
  rw [hB,hR]
  rcases hq with ⟨e,rfl⟩ | ⟨y,e,rfl⟩
  ·exact ⟨_,rfl,by rw [e]; rfl,rfl,fun y hy => by rw [e] at hy; cases hy⟩
  ·exact ⟨_,rfl,by rw [e]; rfl,rfl,fun z hz => by rw [e] at hz; injection hz⟩
omit h0 h1 h2 in
theorem aOd {N:Nat} (hN:N ≤ 1000) (l:List (List Int)) (hl:∀ r ∈ l,r.length = N) (hll:l.length ≤ 1000):SI l (N:Int) = some (expand (l.take 3) [List.replicate N 0]):=by
 have hz:(List.replicate N (0:Int)).length = N:=List.length_replicate
 -- one sum
 have one:∀ (i k:Nat) (a:Int) (out next:List (List Int)) (w row:List Int),out[k]? = some w → l[i]? = some row → w.length = N → row.length = N →
   bH (JI l (N:Int) ((i:Int),(k:Int),a,out,next)) BIG (0,[]) = some ((i:Int),(k:Int),a,out,next,qf a w row):=by
  intro i k a out next w row hw hrow hwl hrl
  have:=J7 (b:=JI l (N:Int) ((i:Int),(k:Int),a,out,next)) (s:=(0,[])) (fun j x => ((j:Int),x)) (fun j => match w[j]?,row[j]? with | some x,some y => [aA (x + aA (a * y))] | _,_ => []) (fun x => ((i:Int),(k:Int),a,out,next,x)) 1 N [] (by omega) rfl (fun j hj => by
   rw [List.getElem?_eq_getElem (show j < w.length by omega),List.getElem?_eq_getElem (show j < row.length by omega)]
   exact Nat.le_refl _) (fun j x hj hxl => by
   have e1:=List.getElem?_eq_getElem (show j < w.length by omega)
   have e2:=List.getElem?_eq_getElem (show j < row.length by omega)
   simp only [List.length_nil,Nat.zero_add,Nat.one_mul] at hxl
   unfold JI
   simp only [kT hw,kT hrow,kT e1,kT e2,e1,e2,Option.bind_some,fK (show j ≤ 1099511627776 by omega)]
   rw [decide_eq_true (by omega),cond_true,kV (by simp; omega)]
   rfl) (fun x => by
   unfold JI
   rw [decide_eq_false (by simp only; omega)]
   rfl)
  rw [this]
  have hp:∀ n,n ≤ N → pieces (fun j => match w[j]?,row[j]? with | some x,some y => [aA (x + aA (a * y))] | _,_ => []) n = (qf a w row).take n:=fun n => by
   induction n with
   | zero => intro _; rfl
   | succ n ih =>
    intro hn
    have e1:=List.getElem?_eq_getElem (show n < w.length by omega)
    have e2:=List.getElem?_eq_getElem (show n < row.length by omega)
    change pieces _ n ++ (match w[n]?,row[n]? with | some x,some y => [aA (x + aA (a * y))] | _,_ => []) = _
    rw [ih (by omega),List.take_add_one,aBe e1 e2,e1,e2]
    rfl
  rw [hp N (Nat.le_refl _),List.take_of_length_le (by rw [UO hwl hrl]; exact Nat.le_refl _)]
  rfl
 -- five sums
 have aIe:∀ (i k:Nat) (out next:List (List Int)) (w row:List Int),out[k]? = some w → l[i]? = some row → w.length = N → row.length = N → next.length ≤ 100000 →
   bH (Nu l (N:Int)) BIG ((i:Int),(k:Int),-2,out,next) = some ((i:Int),(k:Int),out,next ++ five.map fun a => qf a w row):=by
  intro i k out next w row hw hrow hwl hrl hnl
  refine kM (fun j => ((i:Int),(k:Int),(j:Int) - 2,out,next ++ (five.take j).map fun a => qf a w row)) 5 (by omega) (by simp) (fun j hj => ?_) ?_
  ·have h5:=U7 hj
   have hlen:((five.take j).map fun a => qf a w row).length ≤ 5:=by simp; omega
   unfold Nu
   rw [decide_eq_true (by simp only; omega),cond_true]
   simp only [one i k _ out _ w row hw hrow hwl hrl,Option.bind_some]
   rw [kV (by simp only [List.length_append,List.length_singleton]; omega),Option.bind_some,dU (by omega) (by omega),List.take_add_one,h5,show (j:Int) - 2 + 1 = ((j + 1:Nat):Int) - 2 by omega]
   simp
  ·unfold Nu
   rw [decide_eq_false (by simp only; omega)]
   rfl
 -- a row
 have aNm:∀ (i:Nat) (out:List (List Int)) (row:List Int),l[i]? = some row → row.length = N → (∀ w ∈ out,w.length = N) → out.length ≤ 1000 →
   bH (Ns l (N:Int)) BIG ((i:Int),0,out,[]) = some ((i:Int),out.flatMap fun w => five.map fun a => qf a w row):=by
  intro i out row hrow hrl how hol
  have hfl:∀ ws:List (List Int),(ws.flatMap fun w => five.map fun a => qf a w row).length = ws.length * 5:=fun ws => by
   induction ws with
   | nil => rfl
   | cons w ws ih =>
    simp only [List.flatMap_cons,List.length_append,List.length_map,ih,List.length_cons]
    simp [five]
    omega
  refine kM (fun k => ((i:Int),(k:Int),out,(out.take k).flatMap fun w => five.map fun a => qf a w row)) out.length (by omega) (by simp) (fun k hk => ?_) ?_
  ·have hw:=List.getElem?_eq_getElem hk
   have hl5:=hfl (out.take k)
   rw [List.length_take] at hl5
   have hf:=aIe i k out ((out.take k).flatMap fun w => five.map fun a => qf a w row) _ row hw hrow (how _ (List.getElem_mem hk)) hrl (by omega)
   unfold Ns
   rw [decide_eq_true (by simp only; omega),cond_true]
   simp only [hf,Option.bind_some,fK (show k ≤ 1099511627776 by omega)]
   rw [uM hk,List.flatMap_append]
   simp
  ·unfold Ns
   rw [decide_eq_false (by simp only; omega),List.take_length]
   rfl
 have hL:bH (JH l (N:Int)) BIG (0,[List.replicate N 0]) = some (expand (l.take 3) [List.replicate N 0]):=by
  have hex:∀ (L:List (List Int)) (r:List Int) (ws:List (List Int)),expand (L ++ [r]) ws = (expand L ws).flatMap fun w => five.map fun a => qf a w r:=fun L r => by
   induction L with
   | nil => intro ws; rfl
   | cons s L ih => intro ws; exact ih _
  obtain ⟨r,hr,hq⟩:=uH (b:=JH l (N:Int)) (s:=(0,[List.replicate N 0])) (fun i s => s = ((i:Int),expand (l.take i) [List.replicate N 0])) (fun r => r = expand (l.take 3) [List.replicate N 0]) (min l.length 3) (by omega) rfl (fun i s hi hs => by
   subst hs
   have hil:i < l.length:=by omega
   have hrow:=List.getElem?_eq_getElem hil
   have htk:∀ r ∈ l.take i,r.length = N:=fun r hr => hl r (List.mem_of_mem_take hr)
   have hel:=YW (l.take i) [List.replicate N 0]
   have VT:5 ^ (l.take i).length ≤ 5 ^ 2:=Nat.pow_le_pow_right (by omega) (by rw [List.length_take]; omega)
   refine .inl ⟨_,?_,rfl⟩
   unfold JH
   rw [decide_eq_true (by simp only; omega),decide_eq_true (by simp only; omega)]
   simp only [cond_true,Option.bind_some,aNm i _ _ hrow (hl _ (List.getElem_mem hil)) (U4 _ _ htk (fun w hw => by rw [List.mem_singleton] at hw; rw [hw]; exact hz)) (by simp only [List.length_singleton] at hel; omega),fK (show i ≤ 1099511627776 by omega)]
   rw [uM hil,hex]) (fun s hs => by
   subst hs
   refine ⟨_,?_,rfl⟩
   unfold JH
   by_cases h3:l.length < 3
   ·rw [decide_eq_false (by simp only; omega),show min l.length 3 = l.length by omega,List.take_length,List.take_of_length_le (by omega)]
    rfl
   ·rw [show min l.length 3 = 3 by omega,decide_eq_false (show ¬ ((3:Nat):Int) < 3 by omega)]
    cases decide (((3:Nat):Int) < (l.length:Int)) <;> rfl)
  rw [hr,hq]
 unfold SI
 rw [FW (by omega) (by omega),Option.bind_some,Int.toNat_natCast,hL]
 rfl
def sD (t:bI):List Int × Bool:=bif vT t then (match tY (qY t) ((lU t.aG).take 3) (List.replicate t.aN.length 0) with
 | some y => (y,true)
 | none => ([],false)) else ([],false)
omit h0 h1 h2 in
theorem aOI (f:ah):(lU f).length ≤ 1000:=by
 unfold lU
 cases hv:vF f with
 | false => exact Nat.zero_le _
 | true =>
  cases decide (0 < f.Graph.aF.length) with
  | false => exact Nat.zero_le _
  | true =>
   have hl:=(o5 hv).len
   have:=aEd (n:=f.Graph.aF.length) (M:=turned (nC f) (fZ f))
   show (zT f.Graph.aF.length (turned (nC f) (fZ f))).length ≤ 1000
   omega
theorem aG9:Ri t = some (sD t) ∧ V7 t = some ((sD t).1,(sD t).2,t.aG.Graph.aF,t.aG.Places,t.aN) ∧ (sD t).1.length ≤ 1048576:=by
 have s0:SM t.aG.Graph.aF.length:=by show _ ≤ _; omega
 have s1:SM t.aG.Places.length:=by show _ ≤ _; omega
 have s2:SM t.aN.length:=by show _ ≤ _; omega
 unfold Ri V7 sD
 rw [Kz t s0 s1 s2,Qc t s0 s1 s2]
 cases hv:vT t with
 | false => exact ⟨rfl,rfl,by simp⟩
 | true =>
  obtain ⟨hV,hk⟩:=DC hv
  have hb:=hV.len
  have hrow:∀ r ∈ lU t.aG,r.length = t.aN.length:=fun r hr => by rw [hk]; exact (aAv hr).2.len
  have hrow3:∀ r ∈ (lU t.aG).take 3,r.length = t.aN.length:=fun r hr => hrow r (List.mem_of_mem_take hr)
  have hsl:=aOI t.aG
  have hz:(List.replicate t.aN.length (0:Int)).length = t.aN.length:=List.length_replicate
  simp only [Option.bind_some,Bool.not_true,cond_false,cond_true,aFY _ s0 s1,aOH _ s0 s1,aOd (N:=t.aN.length) (by omega) _ hrow hsl]
  have hfind:=XZ (qY t) ((lU t.aG).take 3) (List.replicate t.aN.length 0)
  have hel:=YW ((lU t.aG).take 3) [List.replicate t.aN.length 0]
  have VT:5 ^ ((lU t.aG).take 3).length ≤ 5 ^ 3:=Nat.pow_le_pow_right (by omega) (by rw [List.length_take]; omega)
  simp only [List.length_singleton,Nat.one_mul] at hel
  have aJ6:=U4 ((lU t.aG).take 3) [List.replicate t.aN.length 0] hrow3 (fun w hw => by rw [List.mem_singleton] at hw; rw [hw]; exact hz)
  refine ⟨?_,?_,?_⟩
  ·have key:=U6 (b:=NG t (expand ((lU t.aG).take 3) [List.replicate t.aN.length 0])) (fun v => bif qY t v then some (v,true) else none) (expand ((lU t.aG).take 3) [List.replicate t.aN.length 0]) (by omega) (fun k v hkv => by
    have hk2:=(List.getElem?_eq_some_iff.1 hkv).1
    have hvl:=aJ6 v (List.mem_of_getElem? hkv)
    unfold NG
    rw [decide_eq_true (by omega),cond_true,kT hkv,Option.bind_some,(aAw t v h0 h1 h2 (by omega)).1,Option.bind_some]
    cases qY t v
    ·rfl
    ·simp only [cond_true,Option.bind_some]
     rw [kV (by simp; omega)]
     rfl) (by
    unfold NG
    rw [decide_eq_false (by omega)]
    rfl)
   rw [key]
   have hfs:∀ ws:List (List Int),(ws.findSome? fun v => bif qY t v then some (v,true) else none) = (ws.find? (qY t)).map fun v => (v,true):=fun ws => by
    induction ws with
    | nil => rfl
    | cons w ws ih =>
     rw [List.findSome?_cons,List.find?_cons,ih]
     cases qY t w <;> rfl
   rw [hfs,hfind]
   cases tY (qY t) ((lU t.aG).take 3) (List.replicate t.aN.length 0) <;> rfl
  ·have hn3:(if 3 < ((lU t.aG).length:Int) then (3:Int) else ((lU t.aG).length:Int)) = ((min (lU t.aG).length 3:Nat):Int):=by split <;> omega
   have htk:(lU t.aG).take (min (lU t.aG).length 3) = (lU t.aG).take 3:=by
    by_cases h:(lU t.aG).length ≤ 3
    ·rw [Nat.min_eq_left h,List.take_length,List.take_of_length_le h]
    ·rw [Nat.min_eq_right (by omega)]
   have hs:slc (lU t.aG) 0 ((min (lU t.aG).length 3:Nat):Int) = some (((lU t.aG).take (min (lU t.aG).length 3)).drop 0):=by
    unfold slc
    rw [if_pos (by omega)]
    rfl
   obtain ⟨r,hr,hr1,hr2,hr3⟩:=aOf h0 h1 h2 (N:=t.aN.length) (by omega) ((lU t.aG).take 3) hrow3 (by rw [List.length_take]; omega) ((lU t.aG).take 3).length 0 64 (List.replicate t.aN.length 0) (by omega) (by rw [List.length_take]; omega) hz
   rw [hn3,hs,Option.bind_some,FW (by omega) (by omega),Option.bind_some,Int.toNat_natCast,Int.toNat_natCast,htk,List.drop_zero,show zL 64 (List.replicate t.aN.length 0) 0 ((lU t.aG).take 3) t = some r from hr]
   rw [List.drop_zero] at hr1 hr3
   simp only [Option.bind_some]
   have e2:r.2.2.2 = t:=by rw [hr2]
   cases hF:tY (qY t) ((lU t.aG).take 3) (List.replicate t.aN.length 0) with
   | none =>
    rw [hF] at hr1
    rw [hr1,e2]
    rfl
   | some y =>
    have hy:=hr3 y hF
    rw [hF] at hr1
    rw [hr1,e2,hy]
    rfl
  ·cases hF:tY (qY t) ((lU t.aG).take 3) (List.replicate t.aN.length 0) with
   | none => simp
   | some y =>
    have:=aFn hrow3 hz hF
    show y.length ≤ _
    omega
end
end
section
theorem aC7:∀ n,LW n = zL n
 | 0 => rfl
 | n + 1 => by
  funext w i a b
  show V8 (LW n) w i a b = LV (zL n) w i a b
  rw [aC7 n]
  rfl
theorem aIw (t:bI):LX t = (V7 t).map fun r => (r.1,r.2.1):=by
 unfold LX V7
 cases zN t with
 | none => rfl
 | some b =>
  cases b with
  | false => rfl
  | true =>
   simp only [Option.bind_some,Bool.not_true,cond_false]
   cases Iy t.aG with
   | none => rfl
   | some r3 =>
    simp only [Option.bind_some]
    cases slc r3 0 (if 3 < (r3.length:Int) then 3 else (r3.length:Int)) with
    | none => rfl
    | some v4 =>
     simp only [Option.bind_some]
     cases xG (t.aN.length:Int) with
     | none => rfl
     | some u =>
      simp only [Option.bind_some,aC7]
      cases zL 64 (List.replicate (t.aN.length:Int).toNat (0:Int)) 0 ((r3.take ((if 3 < (r3.length:Int) then 3 else (r3.length:Int)).toNat)).drop 0) t with
      | none => rfl
      | some r6 =>
       simp only [Option.bind_some]
       cases r6.2.1 <;> rfl
theorem aC0 (keep:List Int) (t:bI):Qn keep t = aAC keep t:=rfl
theorem aIx {t:bI} (h:(sD t).2 = true):qY t (sD t).1 = true:=by
 unfold sD at h ⊢
 cases hv:vT t with
 | false => rw [hv] at h; cases h
 | true =>
  rw [hv] at h
  simp only [cond_true] at h ⊢
  cases hf:tY (qY t) ((lU t.aG).take 3) (List.replicate t.aN.length 0) with
  | none => rw [hf] at h; cases h
  | some y =>
   rw [← XZ] at hf
   exact List.find?_some hf
section
variable {t:bI} (h0:t.aG.Graph.aF.length ≤ 1048576) (h1:t.aG.Places.length ≤ 1048576) (h2:t.aN.length ≤ 1048576)
include h0 h1 h2
theorem aOJ {w:List Int} (hw:w.length ≤ 1048576):qY t w = strict t w:=by
 have h:=(aAw t w h0 h1 h2 hw).2
 rw [Tm t w (by show _ ≤ _; omega) (by show _ ≤ _; omega) (by show _ ≤ _; omega) (by show _ ≤ _; omega)] at h
 exact (Option.some.inj h).symm
theorem aEB {v:List Int} (hv:v.length ≤ 1048576):rP t v = (allowed t v && !vk t.aG v):=by
 have h:=(FZ t v h0 h1 h2 hv).2
 unfold wQ at h
 rw [UX t v (by show _ ≤ _; omega) (by show _ ≤ _; omega) (by show _ ≤ _; omega) (by show _ ≤ _; omega),(Tt t.aG v (by show _ ≤ _; omega) (by show _ ≤ _; omega) (by show _ ≤ _; omega)).2] at h
 cases ha:allowed t v with
 | false => rw [ha] at h; exact (Option.some.inj h).symm
 | true =>
  rw [ha] at h
  simp only [Option.bind_some,cond_true] at h
  rw [Bool.true_and]
  exact (Option.some.inj h).symm
omit h2 in
theorem aER {w v:List Int} (hv:v.length ≤ 1048576) (hs:strict t w = true) (hf:zW t.aG = true) (ha:allowed t v = true):vk t.aG v = true:=by
 have hm:=aOK hs ha
 unfold allowed at ha
 simp only [Bool.and_eq_true] at ha
 have h:=aOA (by show _ ≤ _; omega) (by show _ ≤ _; omega) (by show _ ≤ _; omega) hf ha.2.1 hm
 have h':=(Tt t.aG v (by show _ ≤ _; omega) (by show _ ≤ _; omega) (by show _ ≤ _; omega)).2
 rw [h] at h'
 exact (Option.some.inj h').symm
theorem aFX {w:List Int} (hw:w.length ≤ 1048576):Iu t w = some (strict t w && zW t.aG):=by
 unfold Iu
 rw [Tm t w (by show _ ≤ _; omega) (by show _ ≤ _; omega) (by show _ ≤ _; omega) (by show _ ≤ _; omega),aN6 _ (by show _ ≤ _; omega) (by show _ ≤ _; omega)]
 cases strict t w <;> rfl
theorem aN7 {w:List Int} (hw:w.length ≤ 1048576):Ry t w = some (strict t w && zW t.aG):=by
 unfold Ry
 rw [aAx t w (by show _ ≤ _; omega) (by show _ ≤ _; omega) (by show _ ≤ _; omega) (by show _ ≤ _; omega),aN8 _ (by show _ ≤ _; omega) (by show _ ≤ _; omega)]
 cases strict t w <;> rfl
omit h0 h1 h2 in
theorem aM7 (hT:vT t = true) {v:List Int} (hv:v ∈ iU t.aG):allowed t v = true:=by
 obtain ⟨Bd,hN⟩:=WJ hv
 obtain ⟨H,hk⟩:=DC hT
 have VR:=yY H
 have hl:=H.len
 have p1:=H.g.p1
 unfold iU at hv
 rw [Bd,cond_true] at hv
 unfold allowed
 rw [hT,Bool.true_and,Bool.and_eq_true,Bool.not_eq_true',qh]
 refine ⟨?_,fun k _ hkl => ?_⟩
 ·unfold nM Ce
  have:(List.range' 0 v.length).any (mr v fun x => !y9 x) = false:=qh.2 fun k _ hk => by
   have hk':k < v.length:=by omega
   have hx:=List.getElem?_eq_getElem hk'
   have Yp:=hN.bnd k
   rw [List.getD_eq_getElem?_getD,hx] at Yp
   simp only [Option.getD_some] at Yp
   unfold BB at Yp
   unfold mr
   rw [hx]
   simp only [y9,Bool.not_eq_false',Bool.and_eq_true,decide_eq_true_eq]
   omega
  rw [this,Bd,hN.len]
  unfold nC
  simp only [Bool.not_false,Bool.true_and,beq_iff_eq]
  omega
 ·have hkb:k < t.aG.Graph.aF.length:=by omega
  have hb:=List.getElem?_eq_getElem hkb
  have hz:=List.getElem?_eq_getElem (show k < t.aN.length by omega)
  have hr:rowOf t.aG t.aG.Graph.aF[k] ∈ fZ t.aG:=by
   unfold fZ
   exact List.mem_map.2 ⟨_,List.getElem_mem hkb,rfl⟩
  have h:=aNI (by omega) (by rw [vH]; omega) (yw H) (Oo H) hv hr
  rw [aE8 H hb hN.len] at h
  unfold Dk
  rw [hb,hz]
  simp only [h]
  cases t.aN[k]'(by omega) == 0 <;> cases t.aN[k]'(by omega) == 1 <;> cases t.aN[k]'(by omega) == 2 <;> rfl
theorem aIp (hT:vT t = true) (h:(AA t.aG).2 = true):rP t (AA t.aG).1 = true:=by
 unfold AA at h ⊢
 cases hf:(iU t.aG).findSome? fun v => bif vk t.aG v then none else some (v,true) with
 | none => rw [hf] at h; cases h
 | some r =>
  obtain ⟨v,hv,e⟩:=YX hf
  cases ht:vk t.aG v with
  | true => rw [ht] at e; cases e
  | false =>
   rw [ht] at e
   injection e with e
   subst e
   show rP t v = true
   have:=JS t.aG hv
   rw [aEB h0 h1 h2 (by omega),aM7 hT hv,ht]
   rfl
omit h0 h1 h2 in
theorem aED (L:List (List Int)) (h:(Af t L).2 = true):rP t (Af t L).1 = true:=by
 unfold Af at h ⊢
 cases hf:L.findSome? (zK t) with
 | none => rw [hf] at h; cases h
 | some r =>
  obtain ⟨v,hv,e⟩:=YX hf
  unfold zK at e
  cases h1:rP t v with
  | true => rw [h1] at e; injection e with e; subst e; exact h1
  | false =>
   rw [h1] at e
   cases h2:rP t (nX v) with
   | true => rw [h2] at e; injection e with e; subst e; exact h2
   | false => rw [h2] at e; cases e
end
theorem aHB (t:bI) (i:Nat) (hl:t.aN.length ≤ 1048576) (q:List Int × Int × List bD × List eG × List Int):bH (Ip t ((i:Int),q)) BIG (0,[]) = some ((i:Int),q.2.1,q.2.2.1,q.2.2.2.1,q.2.2.2.2,q.1,zx t.aN.length i):=by
 have:=J7 (b:=Ip t ((i:Int),q)) (s:=(0,([]:List Int))) (fun k out => ((k:Int),out)) (fun j => bif (j:Int) != (i:Int) then [(j:Int)] else []) (fun out => ((i:Int),q.2.1,q.2.2.1,q.2.2.2.1,q.2.2.2.2,q.1,out)) 1 t.aN.length [] (by omega) rfl (fun k _ => by cases ((k:Nat):Int) != (i:Int) <;> simp)
  (fun k out hk ho => by
   have hlm:lim (out.length + ([(k:Int)]:List Int).length) = some ():=kV (by simp at ho ⊢; omega)
   unfold Ip
   rw [decide_eq_true (show ((k:Int)) < (t.aN.length:Int) by omega),cond_true]
   cases hb:(k:Int) != (i:Int)
   ·simp only [cond_false,Option.bind_some,List.append_nil,fK (show k ≤ 1099511627776 by omega)]
   ·simp only [cond_true,hlm,Option.bind_some,fK (show k ≤ 1099511627776 by omega)]) (fun out => by
   unfold Ip
   rw [decide_eq_false (by omega)]
   rfl)
 rw [this]
 rfl
theorem aBw (t:bI) (h0:t.aG.Graph.aF.length ≤ 1048576) (h1:t.aG.Places.length ≤ 1048576) (h2:t.aN.length ≤ 1048576) :
  ∃ w,NC t = some w ∧ Qo t = some w ∧ w.1.length ≤ 12 ∧ (w.2 = true → rP t w.1 = true):=by
 have s0:SM t.aG.Graph.aF.length:=by show _ ≤ _; omega
 have s1:SM t.aG.Places.length:=by show _ ≤ _; omega
 have s2:SM t.aN.length:=by show _ ≤ _; omega
 unfold NC Qo
 rw [Kz t s0 s1 s2,Qc t s0 s1 s2,Option.bind_some,Option.bind_some]
 cases hv:vT t with
 | false => exact ⟨([],false),rfl,rfl,Nat.zero_le _,fun h => by cases h⟩
 | true =>
  obtain ⟨hV,hk⟩:=DC hv
  have Bd:vF t.aG = true:=by
   unfold vT at hv
   simp only [Bool.and_eq_true] at hv
   exact hv.2.1
  have hb:=hV.len
  have hvG:vG t.aG.Graph = true:=by
   unfold vF at Bd
   simp only [Bool.and_eq_true] at Bd
   exact Bd.1.1.1.1.1
  simp only [Bool.not_true,cond_false,aIn t.aG s0 s1,aIm t.aG s0 s1,Option.bind_some]
  have hfl:=aIo t.aG
  cases hfm:(AA t.aG).2 with
  | true => exact ⟨((AA t.aG).1,true),rfl,rfl,by show (AA t.aG).1.length ≤ _; omega,fun _ => aIp h0 h1 h2 hv hfm⟩
  | false =>
   simp only [cond_false]
   have key:=aMv (b:=ND t) (b':=LQ t) (s:=(0,[])) (s':=(0,([],t.aG.Graph.aI,t.aG.Graph.aF,t.aG.Places,t.aN)))
    (fun k a b => ∃ bars:List Int,bars.length ≤ k ∧ a = ((k:Int),bars) ∧ b = ((k:Int),bars,t.aG.Graph.aI,t.aG.Graph.aF,t.aG.Places,t.aN))
    (fun a b => (∃ bars:List Int,bars.length ≤ t.aN.length ∧ a = .inl bars ∧ b = .inl (t.aG.Graph.aI,t.aG.Graph.aF,t.aG.Places,t.aN,bars)) ∨ ∃ w:List Int × Bool,w.1.length ≤ 12 ∧ (w.2 = true → rP t w.1 = true) ∧ a = .inr w ∧ b = .inr w)
    t.aN.length (by omega) ⟨[],Nat.le_refl _,rfl,rfl⟩ (fun k a b hk2 hI => by
     obtain ⟨bars,hbl,rfl,rfl⟩:=hI
     have hki:=oP hk2
     have hlm:lim (bars.length + ([(k:Int)]:List Int).length) = some ():=kV (by simp; omega)
     unfold ND LQ
     simp only [hki,Option.bind_some]
     rw [decide_eq_true (show (k:Int) < (t.aN.length:Int) by omega),cond_true,cond_true]
     cases hz:t.aN[k] == 0 with
     | true =>
      left
      refine ⟨_,_,by simp only [cond_true,hlm,Option.bind_some]; rfl,by simp only [cond_true,hlm,Option.bind_some]; rfl,bars ++ [(k:Int)],by simp; omega,?_,?_⟩
      ·rw [fK (by omega)]
      ·rw [fK (by omega)]
     | false =>
      have hkb:k < t.aG.Graph.aF.length:=by omega
      have hbo:=aHC t.aN.length k
      have hds:=aIP s0 k
      have e1:=aFo t h0 h1 h2 (zx t.aN.length k) (by show _ ≤ _; omega)
      have e2:yc t (zx t.aN.length k) = ⟨xC t.aG.Graph k,t.aG.Places⟩:=by
       unfold yc
       rw [hk,aNN hkb]
      rw [e2] at e1
      have e3:=aEE t h0 h1 h2 ⟨xC t.aG.Graph k,t.aG.Places⟩
      have e4:=aEC t ⟨xC t.aG.Graph k,t.aG.Places⟩
      have e5:=aED (t:=t) (iU ⟨xC t.aG.Graph k,t.aG.Places⟩)
      simp only [cond_false,aNi hvG hkb,aAJ (f:=⟨xC t.aG.Graph k,t.aG.Places⟩) hds s1,e3,aHB t k h2,Option.bind_some,aC0]
      rw [show (bI.mk (ah.mk (bW.mk t.aG.Graph.aI t.aG.Graph.aF) t.aG.Places) t.aN) = t from rfl,e1,Option.bind_some]
      generalize Af t (iU ⟨xC t.aG.Graph k,t.aG.Places⟩) = w at *
      cases hw:w.2 with
      | true => exact .inr ⟨_,_,rfl,rfl,.inr ⟨(w.1,true),e4,fun _ => e5 hw,rfl,rfl⟩⟩
      | false =>
       left
       refine ⟨_,_,rfl,rfl,bars,by omega,?_,?_⟩
       ·rw [fK (by omega)]
       ·rw [fK (by omega)]) (fun a b hI => by
     obtain ⟨bars,hbl,rfl,rfl⟩:=hI
     refine ⟨.inl bars,.inl (t.aG.Graph.aI,t.aG.Graph.aF,t.aG.Places,t.aN,bars),?_,?_,.inl ⟨bars,hbl,rfl,rfl⟩⟩
     ·unfold ND
      rw [decide_eq_false (by omega)]
      rfl
     ·unfold LQ
      rw [decide_eq_false (by omega)]
      rfl)
   obtain ⟨r,r',q1,q2,q3⟩:=key
   rw [q1,q2]
   rcases q3 with ⟨bars,hbl,rfl,rfl⟩ | ⟨w,hw,hw2,rfl,rfl⟩
   ·have hbs:SM bars.length:=by show _ ≤ _; omega
    have ho:=aEm s0 bars
    have e1:=aFo t h0 h1 h2 bars hbs
    have e3:=aEE t h0 h1 h2 (yc t bars)
    have e4:=aEC t (yc t bars)
    refine ⟨Af t (iU (yc t bars)),?_,?_,e4,aED _⟩
    ·simp only [Option.bind_some,Sum.elim_inl,aNM _ s0 bars hbs]
     rw [show (ah.mk (only t.aG.Graph bars) t.aG.Places) = yc t bars from rfl,aAJ (f:=yc t bars) ho s1,Option.bind_some,e3]
     rfl
    ·simp only [Option.bind_some,Sum.elim_inl,aC0]
     rw [show (bI.mk (ah.mk (bW.mk t.aG.Graph.aI t.aG.Graph.aF) t.aG.Places) t.aN) = t from rfl,e1]
     rfl
   ·exact ⟨w,rfl,rfl,hw,hw2⟩
def swapT (t:bI):bI:=⟨t.aG,t.aN.map vN⟩
theorem aAy (t:bI) (h0:SM t.aG.Graph.aF.length) (h1:SM t.aG.Places.length) (h2:SM t.aN.length):Iz t = some (swapT t):=by
 unfold Iz
 rw [aIC _ h0 h1,Option.bind_some,Uo _ h2,Option.bind_some]
 rw [aEI (b:=L9 t.aG t.aN) (s:=(0,t.aN)) (fun k a => ((k:Int),a)) (fun a => (t.aG.Graph.aF,t.aG.Places,a,t.aG.Graph.aI)) vN t.aN h2 rfl (fun k a x hk ha hx hy => by
  unfold L9 vN
  simp only [kT hy,Option.bind_some,Int.toNat_natCast,fK (show k ≤ 1099511627776 by omega)]
  rw [decide_eq_true (by omega),cond_true]
  cases x == 1
  ·cases x == 2
   ·simp only [cond_false,Option.bind_some,aNs hy]
   ·rfl
  ·rfl) (fun a ha => by
  unfold L9
  simp only
  rw [decide_eq_false (by omega)]
  rfl)]
 rfl
theorem aAz (x:Int):(x = 1 ∧ vN x = 2) ∨ (x = 2 ∧ vN x = 1) ∨ (x ≠ 1 ∧ x ≠ 2 ∧ vN x = x):=by
 unfold vN
 by_cases h1:x = 1
 ·subst h1; exact .inl ⟨rfl,rfl⟩
 ·by_cases h2:x = 2
  ·subst h2; exact .inr (.inl ⟨rfl,rfl⟩)
  ·rw [beq_eq_false_iff_ne.2 h1,beq_eq_false_iff_ne.2 h2]
   exact .inr (.inr ⟨h1,h2,rfl⟩)
theorem aOO (t:bI):swapT (swapT t) = t:=by
 obtain ⟨f,K⟩:=t
 unfold swapT
 simp only [List.map_map]
 congr 1
 conv => rhs; rw [← List.map_id K]
 refine List.map_congr_left fun x _ => ?_
 show vN (vN x) = x
 rcases aAz x with ⟨rfl,h⟩ | ⟨rfl,h⟩ | ⟨h1,h2,h⟩
 ·rw [h]; rfl
 ·rw [h]; rfl
 ·rw [h,h]
theorem aOQ (t:bI):vT (swapT t) = vT t:=by
 unfold vT swapT
 simp only [List.length_map]
 congr 2
 rw [Bool.eq_iff_iff]
 have:∀ k,mr (t.aN.map vN) (fun x => !(decide (0 ≤ x) && decide (x ≤ 2))) k = mr t.aN (fun x => !(decide (0 ≤ x) && decide (x ≤ 2))) k:=fun k => by
  unfold mr
  rw [List.getElem?_map]
  cases t.aN[k]? with
  | none => rfl
  | some x =>
   show (!(decide (0 ≤ vN x) && decide (vN x ≤ 2))) = !(decide (0 ≤ x) && decide (x ≤ 2))
   rcases aAz x with ⟨rfl,h⟩ | ⟨rfl,h⟩ | ⟨h1,h2,h⟩ <;> rw [h] <;> rfl
 rw [show (mr (t.aN.map vN) fun x => !(decide (0 ≤ x) && decide (x ≤ 2))) = mr t.aN (fun x => !(decide (0 ≤ x) && decide (x ≤ 2))) from funext this]
def uZ (w:List Int):Prop:=∀ x ∈ w,-10000000000 ≤ x ∧ x ≤ 10000000000
theorem aEL {w:List Int} (h:uZ w):Ce w = true:=by
 unfold Ce
 rw [Bool.not_eq_true',qh]
 intro k _ hk
 have hk':k < w.length:=by omega
 obtain ⟨a,b⟩:=h _ (List.getElem_mem hk')
 rw [Et hk']
 simp only [y9,Bool.not_eq_false',Bool.and_eq_true,decide_eq_true_eq]
 exact ⟨a,b⟩
theorem aM5 {w:List Int} (h:uZ w):w.map (fun x => aA (-x)) = w.map (- ·):=List.map_congr_left fun x hx => by
 have:=h x hx
 exact dU (by omega) (by omega)
theorem aM6 {w:List Int} (h:uZ w):uZ (w.map (- ·)):=fun x hx => by
 obtain ⟨y,hy,rfl⟩:=List.mem_map.1 hx
 have:=h y hy
 omega
theorem aOE {f:ah} {w:List Int} (h:uZ w):wW f (w.map (- ·)) = wW f w:=by
 unfold wW
 have Ib:nM f (w.map (- ·)) f.Graph.aF.length = nM f w f.Graph.aF.length:=by
  unfold nM
  rw [aEL h,aEL (aM6 h),List.length_map]
 rw [Ib]
 cases hv:nM f w f.Graph.aF.length with
 | false => rfl
 | true =>
  rw [hv] at Ib
  congr 2
  have hb:∀ k,k < f.Graph.aI.toNat → zq f (w.map (- ·)) k = zq f w k:=fun k hk => by
   unfold zq
   rw [Yc hv (by omega),Yc Ib (by omega),aAX,aAX]
   have e:∀ x:Int,(-x != 0) = (x != 0):=fun x => by
    by_cases hx:x = 0
    ·subst hx; rfl
    ·rw [bne_iff_ne.2 hx,bne_iff_ne.2 (by omega)]
   simp only [e]
  rw [Bool.eq_iff_iff,UZ,UZ]
  constructor
  ·rintro ⟨k,a,b,c⟩; exact ⟨k,a,b,by rw [← hb k (by omega)]; exact c⟩
  ·rintro ⟨k,a,b,c⟩; exact ⟨k,a,b,by rw [hb k (by omega)]; exact c⟩
theorem aNa {t:bI} {w:List Int} (h:uZ w):proper (swapT t) (w.map (- ·)) = proper t w:=by
 unfold proper
 rw [aOQ]
 show (vT t && (wW t.aG (w.map (- ·)) && !(List.range' 0 (w.map (- ·)).length).any (zD (swapT t) (w.map (- ·))))) = _
 rw [aOE h,List.length_map]
 have hb:zD (swapT t) (w.map (- ·)) = zD t w:=by
  funext k
  unfold zD swapT
  simp only [List.getElem?_map]
  cases t.aN[k]? with
  | none => rfl
  | some z =>
   cases w[k]? with
   | none => rfl
   | some c =>
    show ((vN z == 1 && decide (-c < 0)) || (vN z == 2 && decide (0 < -c))) = ((z == 1 && decide (c < 0)) || (z == 2 && decide (0 < c)))
    have e1:decide (-c < 0) = decide (0 < c):=by rw [decide_eq_decide]; omega
    have e2:decide (0 < -c) = decide (c < 0):=by rw [decide_eq_decide]; omega
    rw [e1,e2]
    rcases aAz z with ⟨rfl,h⟩ | ⟨rfl,h⟩ | ⟨h1,h2,h⟩
    ·rw [h]
     show (false || (true && _)) = ((true && _) || false)
     rw [Bool.false_or,Bool.or_false]
    ·rw [h]
     show ((true && _) || false) = (false || (true && _))
     rw [Bool.false_or,Bool.or_false]
    ·rw [h,beq_eq_false_iff_ne.2 h1,beq_eq_false_iff_ne.2 h2]
     rfl
 rw [hb]
theorem aOL {t:bI} {w:List Int} (h:strict t w = true):proper t w = true:=by
 unfold strict at h
 rw [Bool.and_eq_true] at h
 exact h.1
theorem aNr (a b:List Int) (h:a.length ≤ 100000):Bz a b = some (decide (a = b)):=by
 by_cases he:a = b
 ·subst he
  rw [XI a h,decide_eq_true rfl]
 ·rw [decide_eq_false he]
  unfold Bz
  by_cases hl:a.length = b.length
  ·rw [show ((a.length:Int) != (b.length:Int)) = false by rw [hl]; exact bne_self_eq_false _,cond_false]
   have:=qg (b:=EN a b) (fun k => a.getD k 0 != b.getD k 0) false a.length (by omega) (fun k hk => by
    unfold EN
    rw [decide_eq_true (by omega),cond_true,oP hk,Option.bind_some,oP (show k < b.length by omega),Option.bind_some]
    simp only [List.getD_eq_getElem?_getD,List.getElem?_eq_getElem hk,List.getElem?_eq_getElem (show k < b.length by omega),Option.getD_some]) (by simp [EN])
   rw [this]
   have hany:(List.range' 0 a.length).any (fun k => a.getD k 0 != b.getD k 0) = true:=by
    apply Classical.byContradiction
    intro hn
    rw [Bool.not_eq_true,qh] at hn
    refine he (List.ext_getElem hl fun k h1 h2 => ?_)
    have:=hn k (by omega) (by omega)
    simp only [List.getD_eq_getElem?_getD,List.getElem?_eq_getElem h1,List.getElem?_eq_getElem h2,Option.getD_some,bne_eq_false_iff_eq] at this
    exact this
   rw [hany]
   rfl
  ·rw [show ((a.length:Int) != (b.length:Int)) = true by rw [bne_iff_ne]; omega,cond_true]
structure TS (t:bI):Prop where
 f:FS t.aG
 k:t.aN.length ≤ 1000
theorem UY {c:dW} (h:CO c):Ex (F8 c) fun r => CO r.2 ∧ TS r.1:=by
 unfold F8
 refine (JZ h 4).bind fun r1 h1 => Ex.bif (fun _ => ?_) (fun _ => ?_)
 ·unfold WC
  obtain ⟨g,hg,hgi,uq⟩:=aIA (n:=4) (by omega) (by omega)
  rw [hg,Option.bind_some,Option.bind_some]
  have hfs:FS ⟨g,[(eG.mk 0 0),(eG.mk 3 0),(eG.mk 3 3),(eG.mk 0 3)]⟩:=⟨by have:=hgi.len; simp only; omega,by simp⟩
  refine (JZ h1 2).bind fun r4 h4 => Ex.bind (Q:=fun j => CO ⟨j.1,j.2.1,j.2.2.1⟩ ∧ j.2.2.2.length ≤ 1000) (Ex.bif (fun _ => ?_) (fun _ => Ex.ret ⟨h4,by simp⟩)) fun j hj => Ex.ret ⟨hj.1,hfs,hj.2⟩
  refine (rJ h4 6).bind fun r11 h11 => (rJ h11.1 3).bind fun r12 h12 => Ex.idx h11.2.1 (by have:=h11.2.2 (by omega); simp; omega) fun x _ => Ex.ret ⟨h12.1,by simp⟩
 ·refine (aGy h1).bind fun gX VK => ?_
  have hl:=VK.2.b
  refine Ex.bind (Q:=fun b => CO ⟨b.1,b.2.1,b.2.2.1⟩ ∧ b.2.2.2.1 = gX.1.Graph.aF ∧ b.2.2.2.2.2.1 = gX.1.Places ∧ b.2.2.2.2.2.2.length ≤ 200) ?_ fun b hb => ?_
  ·refine uH (fun k s => s.1 = (k:Int) ∧ CO ⟨s.2.1,s.2.2.1,s.2.2.2.1⟩ ∧ s.2.2.2.2.length ≤ k) _ gX.1.Graph.aF.length (by omega) ⟨rfl,VK.1,by simp⟩ (fun k s hk hI => ?_) (fun s hI => ?_)
   ·obtain ⟨a,b,i,hh,l⟩:=s
    obtain ⟨ha,hc,hll⟩:=hI
    change a = (k:Int) at ha
    subst ha
    change l.length ≤ k at hll
    have key:Ex (Nj gX ((k:Int),b,i,hh,l)) fun r => ∃ t,r = .inl t ∧ t.1 = ((k + 1:Nat):Int) ∧ CO ⟨t.2.1,t.2.2.1,t.2.2.2.1⟩ ∧ t.2.2.2.2.length ≤ k + 1:=by
     unfold Nj
     rw [decide_eq_true (by simp only; omega),cond_true]
     refine (rJ hc 3).bind fun r hr => (rJ hr.1 2).bind fun r2 hr2 => Ex.lim (by simp; omega) (Ex.ret ⟨_,rfl,?_,hr2.1,by simp; omega⟩)
     simp only
     rw [fK (by omega)]
    obtain ⟨r,e,t,rfl,ht⟩:=key
    exact .inl ⟨t,e,ht⟩
   ·obtain ⟨a,b,i,hh,l⟩:=s
    obtain ⟨ha,hc,hll⟩:=hI
    change a = ((gX.1.Graph.aF.length:Nat):Int) at ha
    change l.length ≤ _ at hll
    refine ⟨(b,i,hh,gX.1.Graph.aF,gX.1.Graph.aI,gX.1.Places,l),?_,hc,rfl,rfl,by simp only; omega⟩
    unfold Nj
    rw [decide_eq_false (by simp only; omega)]
    rfl
  ·obtain ⟨hc,e1,e2,hl2⟩:=hb
   refine Ex.bind (Q:=fun j => CO ⟨j.2.1,j.2.2.1,j.2.2.2⟩ ∧ (j.1 = true → 0 < b.2.2.2.2.2.2.length)) (Ex.bif (fun hd => (JZ hc 14).bind fun r hr => Ex.ret ⟨hr,fun _ => by have:=of_decide_eq_true hd; omega⟩) (fun _ => Ex.ret ⟨hc,fun h => by cases h⟩)) fun j hj => ?_
   refine Ex.bind (Q:=fun q => CO ⟨q.1,q.2.1,q.2.2.1⟩ ∧ q.2.2.2.length ≤ 1000) (Ex.bif (fun hj1 => ?_) (fun _ => Ex.ret ⟨hj.1,by simp only; omega⟩)) fun q hq => Ex.ret ⟨hq.1,⟨by simp only; rw [e1]; exact VK.2.b,by simp only; rw [e2]; exact VK.2.p⟩,hq.2⟩
   have hpos:=hj.2 hj1
   exact (aEr hj.1 _ (by simp)).bind fun r hr => Ex.idx (Int.le_refl _) (by omega) fun x _ => Ex.ret ⟨hr.1,by simp; omega⟩
theorem aFy {c:dW} (h:CO c) {n:Int} (hn:n ≤ 1000):Ex (OL c n) fun r => CO r.2 ∧ r.1.length ≤ 1000 ∧ uZ r.1:=by
 unfold OL
 refine Ex.bind (Q:=fun b => CO ⟨b.1,b.2.1,b.2.2.1⟩ ∧ b.2.2.2.length ≤ 1000 ∧ uZ b.2.2.2) ?_ fun b hb => Ex.ret hb
 refine uH (fun k s => s.1 = (k:Int) ∧ CO ⟨s.2.1,s.2.2.1,s.2.2.2.1⟩ ∧ s.2.2.2.2.length ≤ k ∧ uZ s.2.2.2.2) _ n.toNat (by omega) ⟨rfl,h,by simp,fun x hx => by cases hx⟩ (fun k s hk hI => ?_) (fun s hI => ?_)
 ·obtain ⟨a,b,i,hh,l⟩:=s
  obtain ⟨ha,hc,hl,hm⟩:=hI
  change a = (k:Int) at ha
  subst ha
  change l.length ≤ k at hl
  change uZ l at hm
  have key:Ex (OM n ((k:Int),b,i,hh,l)) fun r => ∃ t,r = .inl t ∧ t.1 = ((k + 1:Nat):Int) ∧ CO ⟨t.2.1,t.2.2.1,t.2.2.2.1⟩ ∧ t.2.2.2.2.length ≤ k + 1 ∧ uZ t.2.2.2.2:=by
   unfold OM
   rw [decide_eq_true (by simp only; omega),cond_true]
   refine (rJ hc 13).bind fun r hr => Ex.lim (by simp; omega) (Ex.ret ⟨_,rfl,?_,hr.1,by simp; omega,fun x hx => ?_⟩)
   ·simp only
    rw [fK (by omega)]
   ·rcases List.mem_append.1 hx with hx | hx
    ·exact hm x hx
    ·have:=hr.2.1
     have:=hr.2.2 (by omega)
     rw [List.mem_singleton.1 hx,dU (by omega) (by omega)]
     omega
  obtain ⟨r,e,t,rfl,ht⟩:=key
  exact .inl ⟨t,e,ht⟩
 ·obtain ⟨a,b,i,hh,l⟩:=s
  obtain ⟨ha,hc,hl,hm⟩:=hI
  change a = ((n.toNat:Nat):Int) at ha
  change l.length ≤ _ at hl
  refine ⟨(b,i,hh,l),?_,hc,by simp only; omega,hm⟩
  unfold OM
  rw [decide_eq_false (by simp only; omega)]
  rfl
theorem aOG {code:List Int} (h:code.length ≤ 1048576):Ex (Nr code) fun r => TS r.1 ∧ r.2.length ≤ 1000 ∧ uZ r.2:=by
 unfold Nr
 refine (WN h).bind fun c hc => (UY hc).bind fun r2 h2 => ?_
 have b0:SM r2.1.aG.Graph.aF.length:=by have:=h2.2.f.b; show _ ≤ _; omega
 have b1:SM r2.1.aG.Places.length:=by have:=h2.2.f.p; show _ ≤ _; omega
 rw [aFY r2.1.aG b0 b1,Option.bind_some]
 refine Ex.bind (Q:=fun j => CO ⟨j.2.1,j.2.2.1,j.2.2.2⟩ ∧ (j.1 = true → 0 < (lU r2.1.aG).length)) (Ex.bif (fun hd => (JZ h2.1 5).bind fun r8 h8 => Ex.ret ⟨h8,fun _ => by have:=of_decide_eq_true hd; omega⟩) (fun _ => Ex.ret ⟨h2.1,fun h => by cases h⟩)) fun j hj => Ex.bif (fun hj1 => ?_) (fun _ => ?_)
 ·have hpos:=hj.2 hj1
  refine (rJ hj.1 _).bind fun r10 h10 => Ex.idx h10.2.1 (h10.2.2 (by omega)) fun x hx => ?_
  obtain ⟨hv,hN⟩:=aAv hx
  have hl1:=(o5 hv).len
  have hl2:=hN.len
  have hmx:uZ x:=fun y hy => by
   obtain ⟨i,hi,rfl⟩:=List.getElem_of_mem hy
   have:=hN.bnd i
   rw [List.getD_eq_getElem?_getD,List.getElem?_eq_getElem hi] at this
   simp only [Option.getD_some] at this
   unfold BB at this
   omega
  refine Ex.lim (by simp; omega) ((JZ h10.1 2).bind fun r13 h13 => Ex.bind (Q:=fun q => q.2.1 = r2.1.aG.Places ∧ q.2.2.1.length ≤ 1000 ∧ uZ q.2.2.1 ∧ q.2.2.2.1 = r2.1.aG.Graph.aF ∧ q.2.2.2.2 = r2.1.aN) (Ex.bif (fun _ => ?_) (fun _ => Ex.ret ⟨rfl,by simp; omega,hmx,rfl,rfl⟩)) fun q hq => Ex.ret ⟨⟨⟨by simp only; rw [hq.2.2.2.1]; exact h2.2.f.b,by simp only; rw [hq.1]; exact h2.2.f.p⟩,by simp only; rw [hq.2.2.2.2]; exact h2.2.k⟩,hq.2.1,hq.2.2.1⟩)
  refine Ex.bind (Q:=fun b => b.1 = r2.1.aG.Graph.aF ∧ b.2.1 = r2.1.aN ∧ b.2.2.2.1 = r2.1.aG.Places ∧ b.2.2.2.2.length ≤ 1000 ∧ uZ b.2.2.2.2) ?_ fun b hb => Ex.ret ⟨hb.2.2.1,hb.2.2.2.1,hb.2.2.2.2,hb.1,hb.2.1⟩
  rw [List.nil_append]
  refine uH (fun k s => s.1 = (k:Int) ∧ s.2.length = x.length ∧ uZ s.2) _ x.length (by omega) ⟨rfl,rfl,hmx⟩ (fun k s hk hI => ?_) (fun s hI => ?_)
  ·obtain ⟨a,l⟩:=s
   obtain ⟨rfl,hl,hm⟩:=hI
   change l.length = x.length at hl
   change uZ l at hm
   left
   have hkl:k < l.length:=by omega
   refine ⟨(((k + 1:Nat):Int),l.set k (aA (-l[k]))),?_,rfl,by simp only [List.length_set]; exact hl,fun y hy => ?_⟩
   ·unfold SH
    rw [decide_eq_true (by simp only; omega),cond_true]
    simp only [oP hkl,Option.bind_some,fK (show k ≤ 1099511627776 by omega),Int.toNat_natCast]
   ·have hb:=hm _ (List.getElem_mem hkl)
    rcases List.mem_or_eq_of_mem_set hy with hy | rfl
    ·exact hm y hy
    ·rw [dU (by omega) (by omega)]
     omega
  ·obtain ⟨a,l⟩:=s
   obtain ⟨rfl,hl,hm⟩:=hI
   change l.length = x.length at hl
   refine ⟨(r2.1.aG.Graph.aF,r2.1.aN,r2.1.aG.Graph.aI,r2.1.aG.Places,l),?_,rfl,rfl,rfl,by simp only; omega,hm⟩
   unfold SH
   rw [decide_eq_false (by simp only; omega)]
   rfl
 ·exact (aFy hj.1 (by have:=h2.2.k; omega)).bind fun r hr => Ex.ret ⟨h2.2,hr.2⟩
theorem TS.b {t:bI} (h:TS t):t.aG.Graph.aF.length ≤ 1048576 ∧ t.aG.Places.length ≤ 1048576 ∧ t.aN.length ≤ 1048576:=by
 have:=h.f.b
 have:=h.f.p
 have:=h.k
 omega
theorem TS.s {t:bI} (h:TS t):SM t.aG.Graph.aF.length ∧ SM t.aG.Places.length ∧ SM t.aN.length:=by
 have:=h.f.b
 have:=h.f.p
 have:=h.k
 exact ⟨by show _ ≤ _; omega,by show _ ≤ _; omega,by show _ ≤ _; omega⟩
theorem aM8 {code:List Int} (h:code.length ≤ 1048576):Ex (Nq code) fun r => TS r.1 ∧ r.2.length ≤ 1000:=by
 unfold Nq
 refine (WN h).bind fun c hc => (UY hc).bind fun r2 h2 => ?_
 obtain ⟨b0,b1,b2⟩:=h2.2.b
 obtain ⟨w,e,_,hw,_⟩:=aBw r2.1 b0 b1 b2
 rw [e,Option.bind_some]
 refine Ex.bind (Q:=fun j => CO ⟨j.2.1,j.2.2.1,j.2.2.2⟩) (Ex.bif (fun _ => (JZ h2.1 4).bind fun r8 h8 => Ex.ret h8) (fun _ => Ex.ret h2.1)) fun j hj => Ex.bif (fun _ => Ex.ret ⟨h2.2,by simp only; omega⟩) (fun _ => ?_)
 have hp:=h2.2.f.p
 exact (aFy hj (by rw [dU (by omega) (by omega)]; omega)).bind fun r hr => Ex.ret ⟨h2.2,hr.2.1⟩
theorem aMq (code:List Int):WA code = some true:=by
 unfold WA WB
 rw [Option.bind_some]
 by_cases hbig:(1048576:Int) < (code.length:Int)
 ·rw [decide_eq_true hbig]
  rfl
 ·rw [decide_eq_false hbig,cond_false]
  have hcode:code.length ≤ 1048576:=by omega
  obtain ⟨t,ht,hT⟩:Ex (RN code) TS:=by
   unfold RN
   exact (WN hcode).bind fun c hc => (UY hc).bind fun r hr => Ex.ret hr.2
  obtain ⟨q,hq,hQ⟩:Ex (RX code) TS:=by
   unfold RX
   exact (WN hcode).bind fun c hc => (UY hc).bind fun r hr => Ex.ret hr.2
  obtain ⟨a,ha,hA,hal,ham⟩:=aOG hcode
  obtain ⟨m,hm,hM,hml⟩:=aM8 hcode
  have ha1:RQ code = some a:=by unfold RQ; rw [ha]; rfl
  have ha2:RV code = some a:=by unfold RV; rw [ha]; rfl
  have hm1:RP code = some m:=by unfold RP; rw [hm]; rfl
  have hm2:RU code = some m:=by unfold RU; rw [hm]; rfl
  obtain ⟨t0,t1,t2⟩:=hT.b
  obtain ⟨ts0,ts1,ts2⟩:=hT.s
  obtain ⟨q0,q1,q2⟩:=hQ.s
  obtain ⟨a0,a1,a2⟩:=hA.b
  obtain ⟨as0,Df,Es⟩:=hA.s
  obtain ⟨m0,m1,m2⟩:=hM.b
  obtain ⟨ms0,ms1,ms2⟩:=hM.s
  obtain ⟨fS,fI,fl⟩:=aG9 (t:=t) t0 t1 t2
  have fI1:LX t = some (sD t):=by rw [aIw,fI]; rfl
  obtain ⟨w,wS,wI,wl,wt⟩:=aBw t t0 t1 t2
  have fl2:(sD t).1.length ≤ 100000:=by
   unfold sD
   cases hv:vT t with
   | false => simp
   | true =>
    obtain ⟨hV,hk⟩:=DC hv
    have hb:=hV.len
    cases hf:tY (qY t) ((lU t.aG).take 3) (List.replicate t.aN.length 0) with
    | none => simp
    | some y =>
     have:=aFn (n:=t.aN.length) (fun r hr => by rw [hk]; exact (aAv (List.mem_of_mem_take hr)).2.len) (by simp) hf
     simp only [cond_true]
     omega
  have fst:xH t (sD t).1 = some (strict t (sD t).1):=Tm t _ ts0 ts1 ts2 (by show _ ≤ _; omega)
  have Yd:(sD t).2 = true → strict t (sD t).1 = true:=fun h => by rw [← aOJ t0 t1 t2 fl]; exact aIx h
  have wlo:wQ t w.1 = some (rP t w.1):=(FZ t w.1 t0 t1 t2 (by omega)).2
  have fps:=aFX t0 t1 t2 fl
  simp only [ht,Option.bind_some,fI1,fS,wI,wS,bne_self_eq_false,cond_false,XI _ fl2,XI w.1 (by omega),Bool.not_true,fst,wlo,fps]
  have hblk1:(bif (sD t).2 then bif !strict t (sD t).1 then some true else bif w.2 then some (!rP t w.1) else some false else bif w.2 then some (!rP t w.1) else some false:Option Bool) = some false:=by
   cases h1:(sD t).2 with
   | false =>
    cases h2:w.2 with
    | false => rfl
    | true => rw [wt h2]; rfl
   | true =>
    rw [Yd h1]
    cases h2:w.2 with
    | false => rfl
    | true => rw [wt h2]; rfl
  have hblk2:(bif (sD t).2 then bif strict t (sD t).1 && zW t.aG then some w.2 else some false else some false:Option Bool) = some false:=by
   cases h1:(sD t).2 with
   | false => rfl
   | true =>
    rw [Yd h1,Bool.true_and]
    cases h3:zW t.aG with
    | false => rfl
    | true =>
     cases h2:w.2 with
     | false => rfl
     | true =>
      have h4:=wt h2
      rw [aEB t0 t1 t2 (by omega),Bool.and_eq_true] at h4
      have h5:=aER t0 t1 (by omega) (Yd h1) h3 h4.1
      rw [h5] at h4
      exact absurd h4.2 (by simp)
  rw [hblk1]
  simp only [Option.bind_some,cond_false]
  rw [hblk2]
  simp only [Option.bind_some,cond_false,ha1]
  have hpr:=aAV a.1 a.2 as0 Df Es (by show _ ≤ _; omega)
  have hloop:∀ b:Bool,bH (MX a b) BIG (0,[]) = some (b,a.1.aG.Graph.aF,a.1.aN,a.2,a.1.aG.Graph.aI,a.1.aG.Places,a.2.map (- ·)):=fun b => by
   rw [← aM5 ham]
   refine kM (fun k => ((k:Int),(a.2.take k).map fun x => aA (-x))) a.2.length (by omega) rfl (fun k hk => ?_) ?_
   ·unfold MX
    simp only
    rw [decide_eq_true (by omega),cond_true,oP hk,Option.bind_some,kV (by simp; omega),Option.bind_some,fK (show k ≤ 1099511627776 by omega),List.take_succ_eq_append_getElem hk,List.map_append]
    rfl
   ·unfold MX
    simp only
    rw [decide_eq_false (by omega),cond_false,List.take_length]
  have hmn:SM (a.2.map (- ·)).length:=by show _ ≤ _; simp; omega
  have hsw:Fe (swapT a.1) (a.2.map (- ·)) = some (proper a.1 a.2):=by
   rw [← aNa ham]
   exact aAV (swapT a.1) _ as0 Df (by show SM (a.1.aN.map vN).length; rw [List.length_map]; exact Es) hmn
  rw [hpr]
  simp only [Option.bind_some,hloop]
  rw [show (bI.mk (ah.mk (bW.mk a.1.aG.Graph.aI a.1.aG.Graph.aF) a.1.aG.Places) a.1.aN) = a.1 from rfl]
  rw [show (ah.mk (bW.mk a.1.aG.Graph.aI a.1.aG.Graph.aF) a.1.aG.Places) = a.1.aG from rfl]
  have hs1:=Tm a.1 a.2 as0 Df Es (by show _ ≤ _; omega)
  have hs2:=aAx a.1 a.2 as0 Df Es (by show _ ≤ _; omega)
  simp only [aEy a.1 a.2 as0 Df Es (by show _ ≤ _; omega),Option.bind_some,bne_self_eq_false,cond_false,aAy a.1 as0 Df Es,hsw,hs1,hs2,Qc a.1 as0 Df Es,Kz a.1 as0 Df Es]
  have hblk3:(bif strict a.1 a.2 then bif !proper a.1 a.2 then some true else some false else some false:Option Bool) = some false:=by
   cases h:strict a.1 a.2 with
   | false => rfl
   | true => rw [aOL h]; rfl
  rw [hblk3]
  have htr:=(Tt m.1.aG m.2 ms0 ms1 (by show _ ≤ _; omega)).2
  simp only [Option.bind_some,cond_false,hm1,Kz m.1 ms0 ms1 ms2,UX m.1 m.2 ms0 ms1 ms2 (by show _ ≤ _; omega),Xw m.1 m.2 ms0 ms1 ms2 (by show _ ≤ _; omega),aCn a.1.aG m.1.aG as0 Df,aNr a.1.aN m.1.aN (by have:=hA.k; omega),aFX a0 a1 a2 (w:=a.2) (by omega),aN7 a0 a1 a2 (w:=a.2) (by omega),htr,ha2,hm2,hq,aAy q q0 q1 q2,aAy (swapT q) q0 q1 (by show SM (q.aN.map vN).length; rw [List.length_map]; exact q2),aOO,(FZ m.1 m.2 m0 m1 m2 (by omega)).1,(FZ m.1 m.2 m0 m1 m2 (by omega)).2,beq_self_eq_true,cond_true,aCn q.aG q.aG q0 q1,(aCo _ _).2 rfl,XI q.aN (by have:=hQ.k; omega)]
  have aJJ:(bif vT m.1 then bif allowed m.1 m.2 then bif vT a.1 then bif eqF a.1.aG m.1.aG then bif decide (a.1.aN = m.1.aN) then bif strict a.1 a.2 && zW a.1.aG then some (!vk m.1.aG m.2) else some false else some false else some false else some false else some false else some false:Option Bool) = some false:=by
   cases vT m.1 with
   | false => rfl
   | true =>
    cases h2:allowed m.1 m.2 with
    | false => rfl
    | true =>
     cases vT a.1 with
     | false => rfl
     | true =>
      cases h4:eqF a.1.aG m.1.aG with
      | false => rfl
      | true =>
       have h4:=(aCo _ _).1 h4
       by_cases h5:a.1.aN = m.1.aN
       ·rw [decide_eq_true h5]
        have he:a.1 = m.1:=by
         have e:∀ t:bI,t = ⟨t.aG,t.aN⟩:=fun _ => rfl
         rw [e a.1,e m.1,h4,h5]
        cases h6:strict a.1 a.2 && zW a.1.aG with
        | false => rfl
        | true =>
         rw [Bool.and_eq_true,he] at h6
         rw [aER m0 m1 (by omega) h6.1 h6.2 h2]
         rfl
       ·rw [decide_eq_false h5]
        rfl
  rw [aJJ]
  rfl
end
end Go.Proofs.YtdmlaldifbmkpaaGreat
end
section
namespace Go.Fw
section
def yG (ops:Array Oper) (σ:Slots) (o:Oper):Option (Bool × Bool):=match o.guard with
 | none => none
 | some (j,want) => ((ops[j]?).bind (·.dst)).bind fun d => match lk σ d with
  | some (.s (.c (.pv (.sc (.bool c))))) => some (c,want)
  | some (.eH []) => some (!want,want)
  | _ => none
theorem gH {ops:Array Oper} {σ:Slots} {o:Oper} {c c0 want b:Bool} (hc:c = c0) (h:yG ops σ o = some (c,want)) (hb:b = (c0 == want)):ig ops σ o b:=by
 subst hc hb
 unfold yG at h
 unfold ig
 cases hg:o.guard with
 | none => rw [hg] at h; cases h
 | some p =>
  obtain ⟨j,wt⟩:=p
  rw [hg] at h
  dsimp only at h
  cases hd:(ops[j]?).bind (·.dst) with
  | none => rw [hd] at h; cases h
  | some d =>
   rw [hd] at h
   refine ⟨d,hd,?_⟩
   simp only [Option.bind_some] at h
   split at h
   ·rename_i cc hl; injection h with h; injection h with h1 h2; subst h1 h2; exact .inl ⟨cc,hl,rfl⟩
   ·rename_i hl; injection h with h; injection h with h1 h2; subst h1 h2; exact .inr ⟨hl,by cases wt <;> rfl⟩
   ·cases h
theorem gS {ops:Array Oper} {σ:Slots} {o:Oper} {c want b:Bool} (h:yG ops σ o = some (c,want)) (hb:b = (c == want)):ig ops σ o b:=gH rfl h hb
abbrev FT (P:Program) {ρ:Type} (M:Option ρ) (f:FuncId) (args:List SV) (us:Mem) (rs:ρ → List SV) (jc:ρ → Mem) (X:List Nat):Prop:=∀ t,M = some t → Fn P f args us (vZ (rs t)) (jc t) (keys us) X
section
variable {P:Program}
theorem FT.of (pn:List Nat) {f:FuncId} {fn:Func} {c:Code} {args:List SV} {us:Mem} {X:List Nat} {N:Nat} {ρ:Type} {M:Option ρ} {rs:ρ → List SV} {jc:ρ → Mem} (hf:P.funcs[f]? = some fn) (hN:fn.ntmps = N) (hb:fn.body = some c)
  (hs:args.length.ble N = true ∧ (fJ (keys us) (pn ++ X) && nG X pn && fJ pn (keys us)) = true)
  (h:∀ w0 U0 R0 g0,aB P ⟨w0,U0,R0,g0,N,pn⟩ [.code c] (DZ 0 args) us M (ja P fn.results.toList us X rs jc)):FT P M f args us rs jc X :=
 Fn.of hf hb hN (Nat.le_of_ble_eq_true hs.1) hs.2 h
theorem FT.xK (pn:List Nat) {f:FuncId} {fn:Func} {c:Code} {args:List SV} {us:Mem} {X:List Nat} {N:Nat} {ρ:Type} {M:Option ρ} {rs:ρ → List SV} {jc:ρ → Mem} (hf:P.funcs[f]? = some fn) (hN:fn.ntmps = N) (hb:fn.body = some c)
  (hs:args.length.ble N = true ∧ (fJ (keys us) (pn ++ X) && nG X pn && fJ pn (keys us)) = true)
  (h:∀ w0 U0 R0 g0,(∀ b,U0 b → ∃ n ∈ keys us,(g0 n).has b) → aB P ⟨w0,U0,R0,g0,N,pn⟩ [.code c] (DZ 0 args) us M (ja P fn.results.toList us X rs jc)):FT P M f args us rs jc X :=
 Fn.xK hf hb hN (Nat.le_of_ble_eq_true hs.1) hs.2 h
variable {C:Ctx} {σ:Slots} {m:Mem} {is:List It} {τ υ:Type} {M:Option τ} {K:τ → Post} {ops:Array Oper} {l:List Oper} {done:List Ct} {rest:List Oper} {o o':Oper}
theorem qx (c:CV) {x:Operand} {t e:TypeId} {n off:Nat} {cs:List CV} (ho:o.op = .load t x) (h:lY P t = some false) (hk:cs[off]? = some c:=by exact rfl):LT P o [(x,Cc (.pl n off))] [(n,.row e [cs])] (Cc c) [] [] []:=LT.PG ho h hk
theorem bQ (out:List CV) {x:Operand} {t e:TypeId} {n off s:Nat} {cs:List CV} (ho:o.op = .load t x) (h:lY P t = some true) (hi:(P.info? t).isSome = true) (hs:cO P t = s) (ho2:(cs.drop off).take s = out:=by exact rfl) (hl:out.length = s:=by exact rfl) :
  LT P o [(x,Cc (.pl n off))] [(n,.row e [cs])] (Ag out) [] [] []:=LT.aG6 ho h (ji hi) hs ho2 hl
theorem ve (v:SV) (out:List CV) {t e:TypeId} {n off s:Nat} {x y:Operand} {cs:List CV} (ho:o.op = .store t x y) (hd:o.dst = none) (hi:(P.info? t).isSome = true) (hs:cO P t = s) (hl:(mD v).length = s:=by exact rfl) (hk:(off + s).ble cs.length = true:=by exact rfl)
  (hout:ow cs off (mD v) = out:=by exact rfl):LT P o [(x,Cc (.pl n off)),(y,.s v)] [(n,.row e [cs])] (.eH []) [(n,.row e [out])] [n] []:=LT.aBz ho hd (ji hi) hs hl (Nat.le_of_ble_eq_true hk) hout
theorem stA (v:List CV) {t e:TypeId} {n off s:Nat} {x y:Operand} {cs:List CV} (ho:o.op = .store t x y) (hd:o.dst = none) (hi:(P.info? t).isSome = true) (hs:cO P t = s) (hl:(mD (.agg v)).length = s:=by exact rfl) (hk:(off + s).ble cs.length = true:=by exact rfl)
  (hout:ow cs off (mD (.agg v)) = v:=by exact rfl):LT P o [(x,Cc (.pl n off)),(y,Ag v)] [(n,.row e [cs])] (.eH []) [(n,.row e [v])] [n] []:=LT.aBz ho hd (ji hi) hs hl (Nat.le_of_ble_eq_true hk) hout
theorem fC (c:CV) {x x':Operand} {t t' e:TypeId} {i n off d:Nat} {cs:List CV} (hf:ru P t i = some d) (ha:lY P t' = some false)
  (h:o.op = .fieldAddr t x i ∧ gI σ x (Cc (.pl n off)) ∧ ig ops σ o true ∧ iW C.N o.dst = true ∧ o'.op = .load t' x' ∧ gI (gU σ o.dst (Cc (.pl n (off + d)))) x' (Cc (.pl n (off + d))) ∧ lk m n = some (.row e [cs]) ∧ ig ops (gU σ o.dst (Cc (.pl n (off + d)))) o' true ∧ iW C.N o'.dst = true ∧ cs[off + d]? = some c)
  (k:aT P C ops rest is (gU (gU σ o.dst (Cc (.pl n (off + d)))) o'.dst (Cc c)) m M K):aT P C ops (o :: o' :: rest) is σ m M K :=
 have ⟨a,b,c1,d1,a2,b2,l,c2,d2,z⟩:=h
 aW (LT.dR a hf) b c1 d1 (bV (LT.PG a2 ha z) b2 l c2 d2 k)
theorem jd (c:CV) {x x':Operand} {t t' e:TypeId} {i n off d:Nat} {cs:List CV} {cb c0 w1 w2:Bool} (hf:ru P t i = some d) (ha:lY P t' = some false) (hc:cb = c0)
  (h:o.op = .fieldAddr t x i ∧ gI σ x (Cc (.pl n off)) ∧ yG ops σ o = some (cb,w1) ∧ true = (c0 == w1) ∧ iW C.N o.dst = true ∧ o'.op = .load t' x' ∧ gI (gU σ o.dst (Cc (.pl n (off + d)))) x' (Cc (.pl n (off + d))) ∧ lk m n = some (.row e [cs]) ∧ yG ops (gU σ o.dst (Cc (.pl n (off + d)))) o' = some (cb,w2) ∧ true = (c0 == w2) ∧ iW C.N o'.dst = true ∧ cs[off + d]? = some c)
  (k:aT P C ops rest is (gU (gU σ o.dst (Cc (.pl n (off + d)))) o'.dst (Cc c)) m M K):aT P C ops (o :: o' :: rest) is σ m M K :=
 have ⟨a,b,c1,c2,d1,a2,b2,l,c3,c4,d2,z⟩:=h
 aW (LT.dR a hf) b (gH hc c1 c2) d1 (bV (LT.PG a2 ha z) b2 l (gH hc c3 c4) d2 k)
theorem dh (c:CV) {x x':Operand} {t t' e:TypeId} {i n off d:Nat} {cs:List CV} (hf:ru P t i = some d) (ha:lY P t' = some false)
  (h:o.op = .fieldAddr t x i ∧ gI σ x (Cc (.pl n off)) ∧ ig l.toArray σ o true ∧ iW C.N o.dst = true ∧ o'.op = .load t' x' ∧ gI (gU σ o.dst (Cc (.pl n (off + d)))) x' (Cc (.pl n (off + d))) ∧ lk m n = some (.row e [cs]) ∧ ig l.toArray (gU σ o.dst (Cc (.pl n (off + d)))) o' true ∧ iW C.N o'.dst = true ∧ cs[off + d]? = some c)
  (k:aQ P C l (⟨[(x',Cc (.pl n (off + d)))],[(n,.row e [cs])],Cc c,[],[],[],true⟩ :: ⟨[(x,Cc (.pl n off))],[],Cc (.pl n (off + d)),[],[],[],true⟩ :: done) rest is (gU (gU σ o.dst (Cc (.pl n (off + d)))) o'.dst (Cc c)) m M K):aQ P C l done (o :: o' :: rest) is σ m M K :=
 have ⟨a,b,c1,d1,a2,b2,l,c2,d2,z⟩:=h
 ax (LT.dR a hf) b c1 d1 (fM (LT.PG a2 ha z) b2 l c2 d2 k)
theorem ql (c:CV) {x x':Operand} {t t' e:TypeId} {i n off d:Nat} {cs:List CV} {cb c0 w1 w2:Bool} (hf:ru P t i = some d) (ha:lY P t' = some false) (hc:cb = c0)
  (h:o.op = .fieldAddr t x i ∧ gI σ x (Cc (.pl n off)) ∧ yG l.toArray σ o = some (cb,w1) ∧ true = (c0 == w1) ∧ iW C.N o.dst = true ∧ o'.op = .load t' x' ∧ gI (gU σ o.dst (Cc (.pl n (off + d)))) x' (Cc (.pl n (off + d))) ∧ lk m n = some (.row e [cs]) ∧ yG l.toArray (gU σ o.dst (Cc (.pl n (off + d)))) o' = some (cb,w2) ∧ true = (c0 == w2) ∧ iW C.N o'.dst = true ∧ cs[off + d]? = some c)
  (k:aQ P C l (⟨[(x',Cc (.pl n (off + d)))],[(n,.row e [cs])],Cc c,[],[],[],true⟩ :: ⟨[(x,Cc (.pl n off))],[],Cc (.pl n (off + d)),[],[],[],true⟩ :: done) rest is (gU (gU σ o.dst (Cc (.pl n (off + d)))) o'.dst (Cc c)) m M K):aQ P C l done (o :: o' :: rest) is σ m M K :=
 have ⟨a,b,c1,c2,d1,a2,b2,l,c3,c4,d2,z⟩:=h
 ax (LT.dR a hf) b (gH hc c1 c2) d1 (fM (LT.PG a2 ha z) b2 l (gH hc c3 c4) d2 k)
theorem bF {j:Nat} {want:Bool} {d:Tmp} {c:Bool} (h:o.guard = some (j,want) ∧ (ops[j]?).bind (·.dst) = some d ∧ lk σ d = some (Bv c) ∧ (c == want) = false ∧ iW C.N o.dst = true) (k:aT P C ops rest is (gU σ o.dst (.eH [])) m M K):aT P C ops (o :: rest) is σ m M K:=Ok h.1 h.2.1 h.2.2.1 h.2.2.2.1 h.2.2.2.2 k
theorem aK {j:Nat} {want:Bool} {d:Tmp} {c c0:Bool} (hc:c = c0) (h:o.guard = some (j,want) ∧ (ops[j]?).bind (·.dst) = some d ∧ lk σ d = some (Bv c) ∧ (c0 == want) = false ∧ iW C.N o.dst = true) (k:aT P C ops rest is (gU σ o.dst (.eH [])) m M K):aT P C ops (o :: rest) is σ m M K:=Ok h.1 h.2.1 h.2.2.1 (hc ▸ h.2.2.2.1) h.2.2.2.2 k
theorem bM {c want:Bool} (h:yG l.toArray σ o = some (c,want) ∧ false = (c == want) ∧ iW C.N o.dst = true) (k:aQ P C l (⟨[],[],.eH [],[],[],[],false⟩ :: done) rest is (gU σ o.dst (.eH [])) m M K):aQ P C l done (o :: rest) is σ m M K:=aQ.skip (gS h.1 h.2.1) h.2.2 k
theorem bJ {c c0 want:Bool} (hc:c = c0) (h:yG l.toArray σ o = some (c,want) ∧ false = (c0 == want) ∧ iW C.N o.dst = true) (k:aQ P C l (⟨[],[],.eH [],[],[],[],false⟩ :: done) rest is (gU σ o.dst (.eH [])) m M K):aQ P C l done (o :: rest) is σ m M K:=aQ.skip (gH hc h.1 h.2.1) h.2.2 k
theorem aH (v:AV) {x:Operand} (h:o.op = .move x ∧ gI σ x v ∧ ig ops σ o true ∧ iW C.N o.dst = true) (k:aT P C ops rest is (gU σ o.dst v) m M K):aT P C ops (o :: rest) is σ m M K:=mv v h.1 h.2.1 h.2.2.1 h.2.2.2 k
theorem aJ (v:AV) {x:Operand} (h:o.op = .assign x ∧ gI σ x v ∧ ig ops σ o true ∧ iW C.N o.dst = true) (k:aT P C ops rest is (gU σ o.dst v) m M K):aT P C ops (o :: rest) is σ m M K:=asg v h.1 h.2.1 h.2.2.1 h.2.2.2 k
theorem dB (v:AV) {x:Operand} {c c0 w:Bool} (hc:c = c0) (h:o.op = .move x ∧ gI σ x v ∧ yG ops σ o = some (c,w) ∧ true = (c0 == w) ∧ iW C.N o.dst = true) (k:aT P C ops rest is (gU σ o.dst v) m M K):aT P C ops (o :: rest) is σ m M K:=mv v h.1 h.2.1 (gH hc h.2.2.1 h.2.2.2.1) h.2.2.2.2 k
theorem ay (v:AV) {x:Operand} (h:o.op = .move x ∧ gI σ x v ∧ ig l.toArray σ o true ∧ iW C.N o.dst = true) (k:aQ P C l (⟨[(x,v)],[],v,[],[],[],true⟩ :: done) rest is (gU σ o.dst v) m M K):aQ P C l done (o :: rest) is σ m M K:=ax (LT.move h.1) h.2.1 h.2.2.1 h.2.2.2 k
theorem kN (v:AV) {x:Operand} {c c0 w:Bool} (hc:c = c0) (h:o.op = .move x ∧ gI σ x v ∧ yG l.toArray σ o = some (c,w) ∧ true = (c0 == w) ∧ iW C.N o.dst = true) (k:aQ P C l (⟨[(x,v)],[],v,[],[],[],true⟩ :: done) rest is (gU σ o.dst v) m M K):aQ P C l done (o :: rest) is σ m M K:=ax (LT.move h.1) h.2.1 (gH hc h.2.2.1 h.2.2.2.1) h.2.2.2.2 k
theorem af {x0 x1:Operand} {v0 v1 v:AV} {A:Prop} (f:A → LT P o [(x0,v0),(x1,v1)] [] v [] [] []) (h:A ∧ gI σ x0 v0 ∧ gI σ x1 v1 ∧ ig ops σ o true ∧ iW C.N o.dst = true) (k:aT P C ops rest is (gU σ o.dst v) m M K):aT P C ops (o :: rest) is σ m M K:=bg (f h.1) h.2.1 h.2.2.1 h.2.2.2.1 h.2.2.2.2 k
theorem fB {x0 x1:Operand} {v0 v1 v:AV} {A:Prop} {c c0 w:Bool} (f:A → LT P o [(x0,v0),(x1,v1)] [] v [] [] []) (hc:c = c0) (h:A ∧ gI σ x0 v0 ∧ gI σ x1 v1 ∧ yG ops σ o = some (c,w) ∧ true = (c0 == w) ∧ iW C.N o.dst = true) (k:aT P C ops rest is (gU σ o.dst v) m M K):aT P C ops (o :: rest) is σ m M K:=bg (f h.1) h.2.1 h.2.2.1 (gH hc h.2.2.2.1 h.2.2.2.2.1) h.2.2.2.2.2 k
theorem dV {x0 x1:Operand} {v0 v1 v:AV} {A:Prop} (f:A → LT P o [(x0,v0),(x1,v1)] [] v [] [] []) (h:A ∧ gI σ x0 v0 ∧ gI σ x1 v1 ∧ ig l.toArray σ o true ∧ iW C.N o.dst = true) (k:aQ P C l (⟨[(x0,v0),(x1,v1)],[],v,[],[],[],true⟩ :: done) rest is (gU σ o.dst v) m M K):aQ P C l done (o :: rest) is σ m M K:=bZ (f h.1) h.2.1 h.2.2.1 h.2.2.2.1 h.2.2.2.2 k
theorem oV {x0 x1:Operand} {v0 v1 v:AV} {A:Prop} {c c0 w:Bool} (f:A → LT P o [(x0,v0),(x1,v1)] [] v [] [] []) (hc:c = c0) (h:A ∧ gI σ x0 v0 ∧ gI σ x1 v1 ∧ yG l.toArray σ o = some (c,w) ∧ true = (c0 == w) ∧ iW C.N o.dst = true) (k:aQ P C l (⟨[(x0,v0),(x1,v1)],[],v,[],[],[],true⟩ :: done) rest is (gU σ o.dst v) m M K):aQ P C l done (o :: rest) is σ m M K:=bZ (f h.1) h.2.1 h.2.2.1 (gH hc h.2.2.2.1 h.2.2.2.2.1) h.2.2.2.2.2 k
theorem dD (v:AV) {c x y:Operand} {b:Bool} (hb:b = true) (h:o.op = .pick c x y ∧ gI σ c (Bv b) ∧ gI σ x v ∧ ig ops σ o true ∧ iW C.N o.dst = true) (k:aT P C ops rest is (gU σ o.dst v) m M K):aT P C ops (o :: rest) is σ m M K:=bg (LT.nY h.1 hb) h.2.1 h.2.2.1 h.2.2.2.1 h.2.2.2.2 k
theorem dA (v:AV) {c x y:Operand} {b:Bool} (hb:b = false) (h:o.op = .pick c x y ∧ gI σ c (Bv b) ∧ gI σ y v ∧ ig ops σ o true ∧ iW C.N o.dst = true) (k:aT P C ops rest is (gU σ o.dst v) m M K):aT P C ops (o :: rest) is σ m M K:=bg (LT.oG h.1 hb) h.2.1 h.2.2.1 h.2.2.2.1 h.2.2.2.2 k
theorem mP (v:AV) {c x y:Operand} {b:Bool} (hb:b = true) (h:o.op = .pick c x y ∧ gI σ c (Bv b) ∧ gI σ x v ∧ ig l.toArray σ o true ∧ iW C.N o.dst = true) (k:aQ P C l (⟨[(c,Bv b),(x,v)],[],v,[],[],[],true⟩ :: done) rest is (gU σ o.dst v) m M K):aQ P C l done (o :: rest) is σ m M K:=bZ (LT.nY h.1 hb) h.2.1 h.2.2.1 h.2.2.2.1 h.2.2.2.2 k
theorem lm (v:AV) {c x y:Operand} {b:Bool} (hb:b = false) (h:o.op = .pick c x y ∧ gI σ c (Bv b) ∧ gI σ y v ∧ ig l.toArray σ o true ∧ iW C.N o.dst = true) (k:aQ P C l (⟨[(c,Bv b),(y,v)],[],v,[],[],[],true⟩ :: done) rest is (gU σ o.dst v) m M K):aQ P C l done (o :: rest) is σ m M K:=bZ (LT.oG h.1 hb) h.2.1 h.2.2.1 h.2.2.2.1 h.2.2.2.2 k
theorem aV {t:τ} {σ':Slots} {m':Mem} (e:K t .normal σ m = (Exit.normal = Exit.normal ∧ aY P C σ m σ' m')) (h1:DY σ' σ) (h2:DX m' m):aB P C [] σ m (some t) K:=aB.nil (by rw [e]; exact ⟨rfl,aY.of h1 h2⟩)
theorem cF (xs:List SV) (sh:Mem) {cf:Operand} {f:FuncId} {os:Array Operand} {ts:Array TypeId} {ys:List SV} {us df:Mem} {v:AV} {W X:List Nat} (hf:Fn P f ys us v df W X) (hb:dM P f = true) (hsh:qO sh xs ys) (hus:Eo (keys sh) us)
  (h:o.op = .call { callee:=.value cf,args:=os,argTypes:=ts } ∧ os.size = xs.length ∧ (nG (keys sh) (W ++ X ++ keys us ++ keys df ++ []) && fJ W (keys us)) = true):LT P o ((cf,Cc (.fn f [])) :: Ej os.toList xs) (us ++ sh) v df W X:=LT.X5 hf h.1 hb hsh h.2.1 h.2.2 hus
theorem dK (xs:List SV) {cf:Operand} {f:FuncId} {os:Array Operand} {ts:Array TypeId} {ys:List SV} {us df:Mem} {v:AV} {W X:List Nat} (hf:Fn P f ys us v df W X) (hb:dM P f = true) (hsh:qO [] xs ys) (hus:Eo (keys ([]:Mem)) us)
  (h:o.op = .call { callee:=.value cf,args:=os,argTypes:=ts } ∧ os.size = xs.length ∧ (nG (keys ([]:Mem)) (W ++ X ++ keys us ++ keys df ++ []) && fJ W (keys us)) = true):LT P o ((cf,Cc (.fn f [])) :: Ej os.toList xs) (us ++ []) v df W X:=LT.X5 hf h.1 hb hsh h.2.1 h.2.2 hus
theorem gy (n:Nat) (v:SV) {t:TypeId} {s:Nat} {x:Operand} (hs:cO P t = s) (h:o.op = .box t x ∧ (mD v).length = s ∧ gI σ x (.s v) ∧ ig ops σ o true ∧ (iW C.N o.dst && fJ [] ([n] ++ keys [(n,Ob.row t [(mD v).map (dF [n])])]) && fJ [] (keys ([]:Mem)) && fJ (keys [(n,Ob.row t [(mD v).map (dF [n])])]) ([n] ++ []) && nG [n] C.pn) = true)
  (k:aT P C ops rest is (gU (kH [n] σ) o.dst (Cc (.pl n 0))) ([(n,Ob.row t [(mD v).map (dF [n])])] ++ jL [n] m) M K):aT P C ops (o :: rest) is σ m M K :=
 pV (LT.box h.1 hs h.2.1) h.2.2.1 h.2.2.2.1 h.2.2.2.2 k
theorem iF (n:Nat) (cells:List CV) {t:TypeId} {s b:Nat} {z:Value} (ht:TI P t z s b) (h:o.op = .alloc t ∧ z.cells.toList.map sC = cells ∧ z.cells.toList.all (·.oneCell') = true ∧ cells.length = s ∧ ig ops σ o true ∧ (iW C.N o.dst && fJ [] ([n] ++ keys [(n,Ob.row t [cells.map (dF [n])])]) && fJ [] (keys ([]:Mem)) && fJ (keys [(n,Ob.row t [cells.map (dF [n])])]) ([n] ++ []) && nG [n] C.pn) = true)
  (k:aT P C ops rest is (gU (kH [n] σ) o.dst (Cc (.pl n 0))) ([(n,Ob.row t [cells.map (dF [n])])] ++ jL [n] m) M K):aT P C ops (o :: rest) is σ m M K :=
 jo (LT.alloc h.1 ht h.2.1 h.2.2.1 h.2.2.2.1) h.2.2.2.2.1 h.2.2.2.2.2 k
theorem gu {α:Type} (n:Nat) (enc:α → List PV) (ps:Parts) (xs:List α) {t e:TypeId} {len:Nat} {parts:Array (Nat × Operand)} {z:Value} {s b:Nat} {zc:List CV} (he:P.underlying t = some (.slice e)) (hz:TI P e z s b)
  (h:o.op = .buildSlice t len parts ∧ parts.toList = Parts.ops ps ∧ z.cells.toList.map sC = zc ∧ z.cells.toList.all (·.oneCell') = true ∧ zc.length = s ∧ xs.length = len ∧ Hy (fun i => some (i * s,s)) ((List.range (len * s)).map fun i => zc.getD (i % s) .junk) (Parts.vals ps) = some (iP (xs.map enc)).flatten)
  (hel:∀ a,(enc a).length = s:=by exact fun _ => rfl) (hmax:len * s ≤ 16777216 ∧ 0 < s:=by decide):LT P o (Parts.ins ps) [] (Cc (.loc n 0 xs.length)) [(n,.dL e (xs.map enc))] [] [n] :=
 LT.aOU ps xs h.1 h.2.1 he hz h.2.2.1 h.2.2.2.1 h.2.2.2.2.1 h.2.2.2.2.2.1 hmax hel h.2.2.2.2.2.2
theorem jQ (v:SV) {x:Operand} {k:Nat} {vs:List SV} (h:o.op = .extract x k ∧ gI σ x (.eH vs) ∧ vs[k]? = some v ∧ ig ops σ o true ∧ iW C.N o.dst = true) (k:aT P C ops rest is (gU σ o.dst (.s v)) m M K):aT P C ops (o :: rest) is σ m M K:=aW (LT.extract h.1 h.2.2.1) h.2.1 h.2.2.2.1 h.2.2.2.2 k
theorem KH (v:SV) {x:Operand} {k:Nat} {vs:List SV} (h:o.op = .extract x k ∧ gI σ x (.eH vs) ∧ vs[k]? = some v ∧ ig l.toArray σ o true ∧ iW C.N o.dst = true) (k:aQ P C l (⟨[(x,.eH vs)],[],.s v,[],[],[],true⟩ :: done) rest is (gU σ o.dst (.s v)) m M K):aQ P C l done (o :: rest) is σ m M K:=ax (LT.extract h.1 h.2.2.1) h.2.1 h.2.2.2.1 h.2.2.2.2 k
theorem kJ {x:Operand} {t:TypeId} {q:Bool} {cs:List PV} {s:Nat} (ho:o.op = .load t x) (h:lY P t = some true) (hi:(P.info? t).isSome = true) (hs:cO P t = s) (hl:cs.length = s:=by exact rfl):LT P o [(x,Cc (.px q cs))] [] (Ag (cs.map .pv)) [] [] []:=LT.aMu ho h (ji hi) (hl.trans hs.symm)
theorem ni {α:Type} {enc:α → List PV} (k:Nat) {x:Operand} {t e:TypeId} {n off:Nat} {i:Int} {xs:List α} {b:α} {p:PV} (ho:o.op = .load t x) (h:lY P t = some false) (hi:idx xs i = some b) (hk:(enc b)[k]? = some p:=by exact rfl)
  (ha:off = i.toNat * cO P e + k:=by exact rfl):LT P o [(x,Cc (.pl n off))] [(n,.dL e (xs.map enc))] (Cc (.pv p)) [] [] []:=LT.aOb ho h hi hk ha
theorem qI {α:Type} {enc:α → List PV} (k:Nat) (v:SV) (b':α) {t e:TypeId} {n off s:Nat} {x y:Operand} {i:Int} {xs:List α} {b:α} (ho:o.op = .store t x y) (hd:o.dst = none) (hit:(P.info? t).isSome = true) (hs:cO P t = s) (hi:idx xs i = some b)
  (hl:(mD v).length = s:=by exact rfl) (ha:off = i.toNat * cO P e + k:=by exact rfl) (hk:(k + s).ble (enc b).length = true:=by exact rfl) (hb:ow ((enc b).map .pv) k (mD v) = (enc b').map .pv:=by exact rfl) :
  LT P o [(x,Cc (.pl n off)),(y,.s v)] [(n,.dL e (xs.map enc))] (.eH []) [(n,.dL e ((xs.set i.toNat b').map enc))] [n] []:=LT.aFp ho hd (ji hit) hs hl hi ha (Nat.le_of_ble_eq_true hk) hb
theorem bT {ρ:Type} {res:List ResultVar} {us:Mem} {X:List Nat} {rs:ρ → List SV} {jc:ρ → Mem} {t:ρ} (h1:yA P σ m res (rs t)) (h2:qL m (jc t)) (h3:BI (rs t)) (h4:HY (jc t))
  (hs:(fJ (keys us) (keys (jc t)) && fJ X (keys (jc t)) && okA (keys us ++ X) (vZ (rs t)) && (jc t).all (fun p => (keys us ++ X).elem p.1 && okO (keys us ++ X) p.2)) = true:=by exact rfl):aB P C (.code .ret :: is) σ m (some t) (ja P res us X rs jc):=aB.ret (ja.mk (.inr rfl) h1 h2 hs h3 h4)
theorem kz {ρ:Type} {res:List ResultVar} {us:Mem} {X:List Nat} {rs:ρ → List SV} {jc:ρ → Mem} {t:ρ} (h1:yA P σ m res (rs t)) (h2:qL m (jc t)) (h3:BI (rs t)) (h4:HY (jc t))
  (hs:(fJ (keys us) (keys (jc t)) && fJ X (keys (jc t)) && okA (keys us ++ X) (vZ (rs t)) && (jc t).all (fun p => (keys us ++ X).elem p.1 && okO (keys us ++ X) p.2)) = true:=by exact rfl):ja P res us X rs jc t .ret σ m:=ja.mk (.inr rfl) h1 h2 hs h3 h4
theorem iD (xs:List SV) {cf:Operand} {f:FuncId} {os:Array Operand} {ts:Array TypeId} {ys:List SV} {v:AV} (hf:Fn P f ys [] v [] [] []) (hb:dM P f = true) (hsh:qO [] xs ys)
  (h:o.op = .call { callee:=.value cf,args:=os,argTypes:=ts } ∧ os.size = xs.length ∧ (nG (keys ([]:Mem)) ([] ++ [] ++ keys ([]:Mem) ++ keys ([]:Mem) ++ []) && fJ [] (keys ([]:Mem))) = true ∧ ig ops σ o true ∧ iW C.N o.dst = true) (he:EvL σ ((cf,Cc (.fn f [])) :: Ej os.toList xs))
  (k:aT P C ops rest is (gU σ o.dst v) m M K):aT P C ops (o :: rest) is σ m M K:=aT.pure (LT.X5 (us:=[]) hf h.1 hb hsh h.2.1 h.2.2.1 trivial) he trivial h.2.2.2.1 h.2.2.2.2 k
theorem eu {id:Nat} {t:τ} {σ':Slots} {m':Mem} (e:AL id is = false ∧ K t (.exit id) σ m = (Exit.exit id = Exit.exit id ∧ aY P C σ m σ' m')) (h1:DY σ' σ) (h2:DX m' m):aB P C (.code (.exit id) :: is) σ m (some t) K:=aB.Pg e.1 (by rw [e.2]; exact ⟨rfl,aY.of h1 h2⟩)
theorem lK {ρ:Type} {K:ρ → Post}:∀ (r t:ρ) (σ:Slots) (m:Mem),(some r:Option ρ) = some t → K r .ret σ m → K t .ret σ m:=fun r t σ m ht hk => by
 injection ht with ht
 subst ht
 exact hk
theorem dm (h:aB P C is σ m M K) (hd:Ux l done.reverse = true:=by kernel_rfl):aQ P C l done [] is σ m M K:=aQ.nil hd h
end
end
end Go.Fw
end
section
open Go Go.Fw
namespace Go.Proofs.YtdmlaldifbmkpaaGreat
section
theorem Q {α:Type} {a:α}:a = a:=rfl
theorem J:True:=trivial
theorem K {n m:Nat} (h:n.ble m = true):n ≤ m:=Nat.le_of_ble_eq_true h
theorem aNU {P:Program} {C:Fw.Ctx} {σ:Slots} {mm:Mem} {α:Type} {enc:α → List PV} {n p c:Nat} {e e2:TypeId} {els:List (List CV)} (hn:lk mm n = some (.row e els)) (he:els = List.replicate c [.pv (.sc aX)]) (hd:(!Nat.beq n p && !C.pn.elem p) = true) :
    aY P C σ mm (kH [p] σ) ((p, .pool e2 (rowsOf enc (List.replicate c ([]:List α)))) :: (n, .bf e p (bP (List.replicate c ([]:List α)))) :: jL [p] mm):=aY.aNT (by rw [hn, he]) hd
section
variable {α0 α1 α2 α3 α4 α5 α6 α7 α8 α9 α10 α11 α12 α13 α14 α15:Type} {a0:α0} {a1:α1} {a2:α2} {a3:α3} {a4:α4} {a5:α5} {a6:α6} {a7:α7} {a8:α8} {a9:α9} {a10:α10} {a11:α11} {a12:α12} {a13:α13} {a14:α14} {a15:α15}
theorem z1:a0 = a0 ∧ True:=⟨rfl, trivial⟩
theorem z2:a0 = a0 ∧ a1 = a1 ∧ True:=⟨rfl, rfl, trivial⟩
theorem y2:a0 = a0 ∧ a1 = a1:=⟨rfl, rfl⟩
theorem z3:a0 = a0 ∧ a1 = a1 ∧ a2 = a2 ∧ True:=⟨rfl, rfl, rfl, trivial⟩
theorem y3:a0 = a0 ∧ a1 = a1 ∧ a2 = a2:=⟨rfl, rfl, rfl⟩
theorem z4:a0 = a0 ∧ a1 = a1 ∧ a2 = a2 ∧ a3 = a3 ∧ True:=⟨rfl, rfl, rfl, rfl, trivial⟩
theorem y4:a0 = a0 ∧ a1 = a1 ∧ a2 = a2 ∧ a3 = a3:=⟨rfl, rfl, rfl, rfl⟩
theorem z5:a0 = a0 ∧ a1 = a1 ∧ a2 = a2 ∧ a3 = a3 ∧ a4 = a4 ∧ True:=⟨rfl, rfl, rfl, rfl, rfl, trivial⟩
theorem z6:a0 = a0 ∧ a1 = a1 ∧ a2 = a2 ∧ a3 = a3 ∧ a4 = a4 ∧ a5 = a5 ∧ True:=⟨rfl, rfl, rfl, rfl, rfl, rfl, trivial⟩
theorem z7:a0 = a0 ∧ a1 = a1 ∧ a2 = a2 ∧ a3 = a3 ∧ a4 = a4 ∧ a5 = a5 ∧ a6 = a6 ∧ True:=⟨rfl, rfl, rfl, rfl, rfl, rfl, rfl, trivial⟩
theorem z8:a0 = a0 ∧ a1 = a1 ∧ a2 = a2 ∧ a3 = a3 ∧ a4 = a4 ∧ a5 = a5 ∧ a6 = a6 ∧ a7 = a7 ∧ True:=⟨rfl, rfl, rfl, rfl, rfl, rfl, rfl, rfl, trivial⟩
theorem z9:a0 = a0 ∧ a1 = a1 ∧ a2 = a2 ∧ a3 = a3 ∧ a4 = a4 ∧ a5 = a5 ∧ a6 = a6 ∧ a7 = a7 ∧ a8 = a8 ∧ True:=⟨rfl, rfl, rfl, rfl, rfl, rfl, rfl, rfl, rfl, trivial⟩
theorem z10:a0 = a0 ∧ a1 = a1 ∧ a2 = a2 ∧ a3 = a3 ∧ a4 = a4 ∧ a5 = a5 ∧ a6 = a6 ∧ a7 = a7 ∧ a8 = a8 ∧ a9 = a9 ∧ True:=⟨rfl, rfl, rfl, rfl, rfl, rfl, rfl, rfl, rfl, rfl, trivial⟩
theorem z11:a0 = a0 ∧ a1 = a1 ∧ a2 = a2 ∧ a3 = a3 ∧ a4 = a4 ∧ a5 = a5 ∧ a6 = a6 ∧ a7 = a7 ∧ a8 = a8 ∧ a9 = a9 ∧ a10 = a10 ∧ True:=⟨rfl, rfl, rfl, rfl, rfl, rfl, rfl, rfl, rfl, rfl, rfl, trivial⟩
theorem z12:a0 = a0 ∧ a1 = a1 ∧ a2 = a2 ∧ a3 = a3 ∧ a4 = a4 ∧ a5 = a5 ∧ a6 = a6 ∧ a7 = a7 ∧ a8 = a8 ∧ a9 = a9 ∧ a10 = a10 ∧ a11 = a11 ∧ True:=⟨rfl, rfl, rfl, rfl, rfl, rfl, rfl, rfl, rfl, rfl, rfl, rfl, trivial⟩
theorem z13:a0 = a0 ∧ a1 = a1 ∧ a2 = a2 ∧ a3 = a3 ∧ a4 = a4 ∧ a5 = a5 ∧ a6 = a6 ∧ a7 = a7 ∧ a8 = a8 ∧ a9 = a9 ∧ a10 = a10 ∧ a11 = a11 ∧ a12 = a12 ∧ True:=⟨rfl, rfl, rfl, rfl, rfl, rfl, rfl, rfl, rfl, rfl, rfl, rfl, rfl, trivial⟩
theorem aU:a0 = a0 ∧ a1 = a1 ∧ (a2 = a2 ∧ a3 = a3) ∧ a4 = a4 ∧ a5 = a5:=⟨rfl, rfl, ⟨rfl, rfl⟩, rfl, rfl⟩
theorem iT:a0 = a0 ∧ a1 = a1 ∧ (a2 = a2 ∧ a3 = a3) ∧ a4 = a4 ∧ a5 = a5 ∧ a6 = a6:=⟨rfl, rfl, ⟨rfl, rfl⟩, rfl, rfl, rfl⟩
theorem aZ:a0 = a0 ∧ (a1 = a1 ∧ a2 = a2) ∧ a3 = a3 ∧ a4 = a4:=⟨rfl, ⟨rfl, rfl⟩, rfl, rfl⟩
theorem lV:a0 = a0 ∧ (a1 = a1 ∧ a2 = a2) ∧ a3 = a3 ∧ a4 = a4 ∧ a5 = a5:=⟨rfl, ⟨rfl, rfl⟩, rfl, rfl, rfl⟩
theorem Jj:a0 = a0 ∧ (a1 = a1 ∧ a2 = a2) ∧ a3 = a3 ∧ a4 = a4 ∧ a5 = a5 ∧ a6 = a6:=⟨rfl, ⟨rfl, rfl⟩, rfl, rfl, rfl, rfl⟩
theorem bK:a0 = a0 ∧ a1 = a1 ∧ a2 = a2 ∧ a3 = a3 ∧ a4 = a4 ∧ a5 = a5 ∧ a6 = a6 ∧ a7 = a7 ∧ a8 = a8 ∧ a9 = a9:=⟨rfl, rfl, rfl, rfl, rfl, rfl, rfl, rfl, rfl, rfl⟩
theorem iJ:a0 = a0 ∧ a1 = a1 ∧ a2 = a2 ∧ a3 = a3 ∧ a4 = a4 ∧ a5 = a5 ∧ a6 = a6 ∧ a7 = a7 ∧ a8 = a8 ∧ a9 = a9 ∧ a10 = a10 ∧ a11 = a11:=⟨rfl, rfl, rfl, rfl, rfl, rfl, rfl, rfl, rfl, rfl, rfl, rfl⟩
theorem y5:a0 = a0 ∧ a1 = a1 ∧ a2 = a2 ∧ a3 = a3 ∧ a4 = a4:=⟨rfl, rfl, rfl, rfl, rfl⟩
theorem y6:a0 = a0 ∧ a1 = a1 ∧ a2 = a2 ∧ a3 = a3 ∧ a4 = a4 ∧ a5 = a5:=⟨rfl, rfl, rfl, rfl, rfl, rfl⟩
theorem y7:a0 = a0 ∧ a1 = a1 ∧ a2 = a2 ∧ a3 = a3 ∧ a4 = a4 ∧ a5 = a5 ∧ a6 = a6:=⟨rfl, rfl, rfl, rfl, rfl, rfl, rfl⟩
end
theorem l9 {sh:Mem} {x0:CV} (h:dF (keys sh) x0 = x0):qO sh [.c x0] [.c x0]:=.cons (.c (.same h)) .nil
theorem jv {sh:Mem} {x0 x1:CV} (h:dF (keys sh) x0 = x0 ∧ dF (keys sh) x1 = x1):qO sh [.c x0, .c x1] [.c x0, .c x1]:=.cons (.c (.same h.1)) (.cons (.c (.same h.2)) .nil)
theorem vK {sh:Mem} {x0 x1 x2:CV} (h:dF (keys sh) x0 = x0 ∧ dF (keys sh) x1 = x1 ∧ dF (keys sh) x2 = x2):qO sh [.c x0, .c x1, .c x2] [.c x0, .c x1, .c x2]:=.cons (.c (.same h.1)) (.cons (.c (.same h.2.1)) (.cons (.c (.same h.2.2)) .nil))
theorem aNu {sh:Mem} {x0 x1 x2 x3 x4:CV} (h:dF (keys sh) x0 = x0 ∧ dF (keys sh) x1 = x1 ∧ dF (keys sh) x2 = x2 ∧ dF (keys sh) x3 = x3 ∧ dF (keys sh) x4 = x4):qO sh [.c x0, .c x1, .agg [x2, x3], .c x4] [.c x0, .c x1, .agg [x2, x3], .c x4]:=.cons (.c (.same h.1)) (.cons (.c (.same h.2.1)) (.cons (.agg (.cons (.same h.2.2.1) (.cons (.same h.2.2.2.1) .nil))) (.cons (.c (.same h.2.2.2.2)) .nil)))
theorem Gf {sh:Mem} {x0 x1:CV} (h:dF (keys sh) x0 = x0 ∧ dF (keys sh) x1 = x1):qO sh [.agg [x0, x1]] [.agg [x0, x1]]:=.cons (.agg (.cons (.same h.1) (.cons (.same h.2) .nil))) .nil
theorem Ov {sh:Mem} {x0 x1 x2:CV} (h:dF (keys sh) x0 = x0 ∧ dF (keys sh) x1 = x1 ∧ dF (keys sh) x2 = x2):qO sh [.agg [x0, x1], .c x2] [.agg [x0, x1], .c x2]:=.cons (.agg (.cons (.same h.1) (.cons (.same h.2.1) .nil))) (.cons (.c (.same h.2.2)) .nil)
theorem Tj {sh:Mem} {x0 x1 x2 x3:CV} (h:dF (keys sh) x0 = x0 ∧ dF (keys sh) x1 = x1 ∧ dF (keys sh) x2 = x2 ∧ dF (keys sh) x3 = x3):qO sh [.agg [x0, x1], .agg [x2, x3]] [.agg [x0, x1], .agg [x2, x3]]:=.cons (.agg (.cons (.same h.1) (.cons (.same h.2.1) .nil))) (.cons (.agg (.cons (.same h.2.2.1) (.cons (.same h.2.2.2) .nil))) .nil)
theorem mV {sh:Mem} {x0 x1 x2:CV} (h:dF (keys sh) x0 = x0 ∧ dF (keys sh) x1 = x1 ∧ dF (keys sh) x2 = x2):qO sh [.agg [x0, x1, x2]] [.agg [x0, x1, x2]]:=.cons (.agg (.cons (.same h.1) (.cons (.same h.2.1) (.cons (.same h.2.2) .nil)))) .nil
theorem vM {sh:Mem} {x0 x1 x2 x3:CV} (h:dF (keys sh) x0 = x0 ∧ dF (keys sh) x1 = x1 ∧ dF (keys sh) x2 = x2 ∧ dF (keys sh) x3 = x3):qO sh [.agg [x0, x1, x2], .c x3] [.agg [x0, x1, x2], .c x3]:=.cons (.agg (.cons (.same h.1) (.cons (.same h.2.1) (.cons (.same h.2.2.1) .nil)))) (.cons (.c (.same h.2.2.2)) .nil)
theorem aFO {sh:Mem} {x0 x1 x2 x3 x4:CV} (h:dF (keys sh) x0 = x0 ∧ dF (keys sh) x1 = x1 ∧ dF (keys sh) x2 = x2 ∧ dF (keys sh) x3 = x3 ∧ dF (keys sh) x4 = x4):qO sh [.agg [x0, x1, x2], .c x3, .c x4] [.agg [x0, x1, x2], .c x3, .c x4]:=.cons (.agg (.cons (.same h.1) (.cons (.same h.2.1) (.cons (.same h.2.2.1) .nil)))) (.cons (.c (.same h.2.2.2.1)) (.cons (.c (.same h.2.2.2.2)) .nil))
theorem aAq {sh:Mem} {x0 x1 x2 x3 x4 x5:CV} (h:dF (keys sh) x0 = x0 ∧ dF (keys sh) x1 = x1 ∧ dF (keys sh) x2 = x2 ∧ dF (keys sh) x3 = x3 ∧ dF (keys sh) x4 = x4 ∧ dF (keys sh) x5 = x5):qO sh [.agg [x0, x1, x2], .c x3, .c x4, .c x5] [.agg [x0, x1, x2], .c x3, .c x4, .c x5]:=.cons (.agg (.cons (.same h.1) (.cons (.same h.2.1) (.cons (.same h.2.2.1) .nil)))) (.cons (.c (.same h.2.2.2.1)) (.cons (.c (.same h.2.2.2.2.1)) (.cons (.c (.same h.2.2.2.2.2)) .nil)))
theorem Gg {sh:Mem} {x0 x1 x2 x3:CV} (h:dF (keys sh) x0 = x0 ∧ dF (keys sh) x1 = x1 ∧ dF (keys sh) x2 = x2 ∧ dF (keys sh) x3 = x3):qO sh [.agg [x0, x1, x2, x3]] [.agg [x0, x1, x2, x3]]:=.cons (.agg (.cons (.same h.1) (.cons (.same h.2.1) (.cons (.same h.2.2.1) (.cons (.same h.2.2.2) .nil))))) .nil
theorem Gh {sh:Mem} {x0 x1 x2 x3 x4:CV} (h:dF (keys sh) x0 = x0 ∧ dF (keys sh) x1 = x1 ∧ dF (keys sh) x2 = x2 ∧ dF (keys sh) x3 = x3 ∧ dF (keys sh) x4 = x4):qO sh [.agg [x0, x1, x2, x3], .c x4] [.agg [x0, x1, x2, x3], .c x4]:=.cons (.agg (.cons (.same h.1) (.cons (.same h.2.1) (.cons (.same h.2.2.1) (.cons (.same h.2.2.2.1) .nil))))) (.cons (.c (.same h.2.2.2.2)) .nil)
abbrev eP (x:bI):List CV:=[(iC x.aG.Graph.aI), (xF aP x.aG.Graph.aF), (xF aO x.aG.Places), (xF aC x.aN)]
abbrev iK (x:bI):List CV:=[(iC x.aG.Graph.aI), (xT aP x.aG.Graph.aF), (xT aO x.aG.Places), (xT aC x.aN)]
abbrev aj (x:ah):List CV:=[(iC x.Graph.aI), (xF aP x.Graph.aF), (xF aO x.Places)]
abbrev Uc (x:ah):List CV:=[(iC x.Graph.aI), (xT aP x.Graph.aF), (xT aO x.Places)]
abbrev iw (x:dW):List CV:=[(xT dI x.b), (iC x.i), (iC x.h)]
abbrev eY (x:bW):List CV:=[(iC x.aI), (xF aP x.aF)]
abbrev aB1 (x:bW):List CV:=[(iC x.aI), (xT aP x.aF)]
theorem aBg:lY Tryz.prog 22 = some false:=by kernel_rfl
theorem jC:lY Tryz.prog 24 = some false:=by kernel_rfl
theorem jq:lY Tryz.prog 26 = some true:=by kernel_rfl
theorem fP:lY Tryz.prog 28 = some false:=by kernel_rfl
theorem ak:lY Tryz.prog 3 = some false:=by kernel_rfl
theorem lX:lY Tryz.prog 40 = some true:=by kernel_rfl
theorem iV:lY Tryz.prog 44 = some false:=by kernel_rfl
theorem gY:lY Tryz.prog 46 = some true:=by kernel_rfl
theorem gZ:lY Tryz.prog 48 = some true:=by kernel_rfl
theorem ag5:lY Tryz.prog 5 = some false:=by kernel_rfl
theorem UQ:lY Tryz.prog 87 = some false:=by kernel_rfl
theorem aBh:lY Tryz.prog 89 = some false:=by kernel_rfl
theorem o6:lY Tryz.prog 98 = some true:=by kernel_rfl
theorem Ue:dM Tryz.prog 10 = true:=by kernel_rfl
theorem aB3:dM Tryz.prog 100 = true:=by kernel_rfl
theorem Uf:dM Tryz.prog 101 = true:=by kernel_rfl
theorem aHF:dM Tryz.prog 102 = true:=by kernel_rfl
theorem aB4:dM Tryz.prog 103 = true:=by kernel_rfl
theorem aHG:dM Tryz.prog 104 = true:=by kernel_rfl
theorem aB5:dM Tryz.prog 105 = true:=by kernel_rfl
theorem aB6:dM Tryz.prog 106 = true:=by kernel_rfl
theorem aHH:dM Tryz.prog 107 = true:=by kernel_rfl
theorem aB7:dM Tryz.prog 108 = true:=by kernel_rfl
theorem aB8:dM Tryz.prog 109 = true:=by kernel_rfl
theorem X7:dM Tryz.prog 110 = true:=by kernel_rfl
theorem aHI:dM Tryz.prog 111 = true:=by kernel_rfl
theorem aB9:dM Tryz.prog 112 = true:=by kernel_rfl
theorem aHJ:dM Tryz.prog 113 = true:=by kernel_rfl
theorem aHK:dM Tryz.prog 114 = true:=by kernel_rfl
theorem KD:dM Tryz.prog 115 = true:=by kernel_rfl
theorem Ez:dM Tryz.prog 116 = true:=by kernel_rfl
theorem aCA:dM Tryz.prog 117 = true:=by kernel_rfl
theorem X8:dM Tryz.prog 118 = true:=by kernel_rfl
theorem aHL:dM Tryz.prog 119 = true:=by kernel_rfl
theorem Ug:dM Tryz.prog 120 = true:=by kernel_rfl
theorem aCB:dM Tryz.prog 121 = true:=by kernel_rfl
theorem aHM:dM Tryz.prog 122 = true:=by kernel_rfl
theorem aCC:dM Tryz.prog 123 = true:=by kernel_rfl
theorem aHN:dM Tryz.prog 126 = true:=by kernel_rfl
theorem aHO:dM Tryz.prog 129 = true:=by kernel_rfl
theorem aHP:dM Tryz.prog 130 = true:=by kernel_rfl
theorem aCD:dM Tryz.prog 131 = true:=by kernel_rfl
theorem aHQ:dM Tryz.prog 132 = true:=by kernel_rfl
theorem aCE:dM Tryz.prog 135 = true:=by kernel_rfl
theorem aHR:dM Tryz.prog 136 = true:=by kernel_rfl
theorem aCF:dM Tryz.prog 138 = true:=by kernel_rfl
theorem aCG:dM Tryz.prog 139 = true:=by kernel_rfl
theorem PN:dM Tryz.prog 145 = true:=by kernel_rfl
theorem Ho:dM Tryz.prog 147 = true:=by kernel_rfl
theorem aHS:dM Tryz.prog 148 = true:=by kernel_rfl
theorem aHT:dM Tryz.prog 149 = true:=by kernel_rfl
theorem X9:dM Tryz.prog 15 = true:=by kernel_rfl
theorem aCH:dM Tryz.prog 150 = true:=by kernel_rfl
theorem aHU:dM Tryz.prog 151 = true:=by kernel_rfl
theorem YA:dM Tryz.prog 152 = true:=by kernel_rfl
theorem aCI:dM Tryz.prog 153 = true:=by kernel_rfl
theorem aHV:dM Tryz.prog 154 = true:=by kernel_rfl
theorem YB:dM Tryz.prog 155 = true:=by kernel_rfl
theorem aHW:dM Tryz.prog 156 = true:=by kernel_rfl
theorem aCJ:dM Tryz.prog 157 = true:=by kernel_rfl
theorem YC:dM Tryz.prog 158 = true:=by kernel_rfl
theorem aHX:dM Tryz.prog 159 = true:=by kernel_rfl
theorem aHY:dM Tryz.prog 160 = true:=by kernel_rfl
theorem aCK:dM Tryz.prog 161 = true:=by kernel_rfl
theorem aHZ:dM Tryz.prog 162 = true:=by kernel_rfl
theorem aHa:dM Tryz.prog 163 = true:=by kernel_rfl
theorem aHb:dM Tryz.prog 165 = true:=by kernel_rfl
theorem aCL:dM Tryz.prog 166 = true:=by kernel_rfl
theorem aHc:dM Tryz.prog 167 = true:=by kernel_rfl
theorem aHd:dM Tryz.prog 168 = true:=by kernel_rfl
theorem aCM:dM Tryz.prog 169 = true:=by kernel_rfl
theorem aHe:dM Tryz.prog 170 = true:=by kernel_rfl
theorem aHf:dM Tryz.prog 178 = true:=by kernel_rfl
theorem aHg:dM Tryz.prog 179 = true:=by kernel_rfl
theorem aHh:dM Tryz.prog 180 = true:=by kernel_rfl
theorem aCN:dM Tryz.prog 181 = true:=by kernel_rfl
theorem aHi:dM Tryz.prog 182 = true:=by kernel_rfl
theorem Uh:dM Tryz.prog 183 = true:=by kernel_rfl
theorem aCO:dM Tryz.prog 184 = true:=by kernel_rfl
theorem aHj:dM Tryz.prog 185 = true:=by kernel_rfl
theorem aHk:dM Tryz.prog 186 = true:=by kernel_rfl
theorem aCP:dM Tryz.prog 189 = true:=by kernel_rfl
theorem aHl:dM Tryz.prog 190 = true:=by kernel_rfl
theorem YD:dM Tryz.prog 204 = true:=by kernel_rfl
theorem aHm:dM Tryz.prog 205 = true:=by kernel_rfl
theorem YE:dM Tryz.prog 206 = true:=by kernel_rfl
theorem aHn:dM Tryz.prog 207 = true:=by kernel_rfl
theorem aHo:dM Tryz.prog 22 = true:=by kernel_rfl
theorem aHp:dM Tryz.prog 29 = true:=by kernel_rfl
theorem aHq:dM Tryz.prog 30 = true:=by kernel_rfl
theorem aHr:dM Tryz.prog 31 = true:=by kernel_rfl
theorem aHs:dM Tryz.prog 32 = true:=by kernel_rfl
theorem aCQ:dM Tryz.prog 33 = true:=by kernel_rfl
theorem PO:dM Tryz.prog 34 = true:=by kernel_rfl
theorem PS:dM Tryz.prog 35 = true:=by kernel_rfl
theorem YF:dM Tryz.prog 36 = true:=by kernel_rfl
theorem aHt:dM Tryz.prog 37 = true:=by kernel_rfl
theorem YG:dM Tryz.prog 38 = true:=by kernel_rfl
theorem aCR:dM Tryz.prog 39 = true:=by kernel_rfl
theorem YH:dM Tryz.prog 40 = true:=by kernel_rfl
theorem YI:dM Tryz.prog 41 = true:=by kernel_rfl
theorem KE:dM Tryz.prog 42 = true:=by kernel_rfl
theorem E5:dM Tryz.prog 43 = true:=by kernel_rfl
theorem aHu:dM Tryz.prog 44 = true:=by kernel_rfl
theorem YJ:dM Tryz.prog 45 = true:=by kernel_rfl
theorem aCS:dM Tryz.prog 46 = true:=by kernel_rfl
theorem YK:dM Tryz.prog 47 = true:=by kernel_rfl
theorem aHv:dM Tryz.prog 48 = true:=by kernel_rfl
theorem aHw:dM Tryz.prog 49 = true:=by kernel_rfl
theorem aHx:dM Tryz.prog 50 = true:=by kernel_rfl
theorem aCT:dM Tryz.prog 51 = true:=by kernel_rfl
theorem aHy:dM Tryz.prog 52 = true:=by kernel_rfl
theorem YL:dM Tryz.prog 53 = true:=by kernel_rfl
theorem cb6:dM Tryz.prog 6 = true:=by kernel_rfl
theorem E8:dM Tryz.prog 60 = true:=by kernel_rfl
theorem aHz:dM Tryz.prog 61 = true:=by kernel_rfl
theorem aH0:dM Tryz.prog 66 = true:=by kernel_rfl
theorem Ui:dM Tryz.prog 74 = true:=by kernel_rfl
theorem aH1:dM Tryz.prog 75 = true:=by kernel_rfl
theorem aH2:dM Tryz.prog 76 = true:=by kernel_rfl
theorem aCU:dM Tryz.prog 79 = true:=by kernel_rfl
theorem BN:dM Tryz.prog 81 = true:=by kernel_rfl
theorem aCV:dM Tryz.prog 82 = true:=by kernel_rfl
theorem aH3:dM Tryz.prog 83 = true:=by kernel_rfl
theorem aH4:dM Tryz.prog 85 = true:=by kernel_rfl
theorem aCW:dM Tryz.prog 88 = true:=by kernel_rfl
theorem Hq:dM Tryz.prog 90 = true:=by kernel_rfl
theorem rM:dM Tryz.prog 93 = true:=by kernel_rfl
theorem aH5:dM Tryz.prog 95 = true:=by kernel_rfl
theorem Uj:dM Tryz.prog 98 = true:=by kernel_rfl
theorem aH6:dM Tryz.prog 99 = true:=by kernel_rfl
theorem aCk:wG Tryz.prog 22 = some 5:=by kernel_rfl
theorem qP:wG Tryz.prog 24 = some 40:=by kernel_rfl
theorem dG:wG Tryz.prog 28 = some 3:=by kernel_rfl
theorem jU:wG Tryz.prog 44 = some 98:=by kernel_rfl
theorem jw:wG Tryz.prog 87 = some 28:=by kernel_rfl
theorem aC2:ru Tryz.prog 105 0 = some 0:=by kernel_rfl
theorem U9:ru Tryz.prog 105 1 = some 1:=by kernel_rfl
theorem VA:ru Tryz.prog 105 2 = some 2:=by kernel_rfl
theorem lT:ru Tryz.prog 26 0 = some 0:=by kernel_rfl
theorem iO:ru Tryz.prog 26 1 = some 1:=by kernel_rfl
theorem nS:ru Tryz.prog 40 0 = some 0:=by kernel_rfl
theorem oZ:ru Tryz.prog 40 1 = some 1:=by kernel_rfl
theorem jW:ru Tryz.prog 46 0 = some 0:=by kernel_rfl
theorem iR:ru Tryz.prog 46 1 = some 2:=by kernel_rfl
theorem mM:ru Tryz.prog 48 0 = some 0:=by kernel_rfl
theorem jy:ru Tryz.prog 48 1 = some 3:=by kernel_rfl
theorem qC:ru Tryz.prog 98 0 = some 0:=by kernel_rfl
theorem qQ:ru Tryz.prog 98 1 = some 1:=by kernel_rfl
theorem FM:(Tryz.prog.info? 24).isSome = true:=by kernel_rfl
theorem gW:(Tryz.prog.info? 26).isSome = true:=by kernel_rfl
theorem EH:(Tryz.prog.info? 28).isSome = true:=by kernel_rfl
theorem pX:(Tryz.prog.info? 3).isSome = true:=by kernel_rfl
theorem je:(Tryz.prog.info? 40).isSome = true:=by kernel_rfl
theorem aDl:(Tryz.prog.info? 44).isSome = true:=by kernel_rfl
theorem fF:(Tryz.prog.info? 46).isSome = true:=by kernel_rfl
theorem eF:(Tryz.prog.info? 48).isSome = true:=by kernel_rfl
theorem aDm:(Tryz.prog.info? 87).isSome = true:=by kernel_rfl
theorem aMY:(Tryz.prog.info? 89).isSome = true:=by kernel_rfl
theorem lJ:(Tryz.prog.info? 98).isSome = true:=by kernel_rfl
theorem Vq:LC Tryz.prog 40 = some 2:=by kernel_rfl
theorem FQ:LC Tryz.prog 98 = some 2:=by kernel_rfl
theorem mixed:Tryz.prog.follows .mixedOrders = true:=by kernel_rfl
theorem aNQ:GV Tryz.prog 105 = some [(0, 1), (1, 1), (2, 1)]:=by kernel_rfl
theorem Ap:GV Tryz.prog 26 = some [(0, 1), (1, 1)]:=by kernel_rfl
theorem ES:GV Tryz.prog 40 = some [(0, 1), (1, 1)]:=by kernel_rfl
theorem OY:GV Tryz.prog 46 = some [(0, 2), (2, 1)]:=by kernel_rfl
theorem aAS:GV Tryz.prog 48 = some [(0, 3), (3, 1)]:=by kernel_rfl
theorem TF:GV Tryz.prog 98 = some [(0, 1), (1, 1)]:=by kernel_rfl
theorem aOS:cO Tryz.prog 105 = 3:=by kernel_rfl
theorem Gm:cO Tryz.prog 24 = 1:=by kernel_rfl
theorem fD:cO Tryz.prog 26 = 2:=by kernel_rfl
theorem uU:cO Tryz.prog 28 = 1:=by kernel_rfl
theorem dQ:cO Tryz.prog 3 = 1:=by kernel_rfl
theorem fU:cO Tryz.prog 40 = 2:=by kernel_rfl
theorem aFZ:cO Tryz.prog 44 = 1:=by kernel_rfl
theorem dS:cO Tryz.prog 46 = 3:=by kernel_rfl
theorem dP:cO Tryz.prog 48 = 4:=by kernel_rfl
theorem sz5:cO Tryz.prog 5 = 1:=by kernel_rfl
theorem aFa:cO Tryz.prog 87 = 1:=by kernel_rfl
theorem aOT:cO Tryz.prog 89 = 1:=by kernel_rfl
theorem fE:cO Tryz.prog 98 = 2:=by kernel_rfl
theorem aOY:TI Tryz.prog 105 (.agg #[(.slice none 0 0), (.int .i64 0), (.int .i64 0)]) 3 40:=by unfold TI; kernel_rfl
theorem nK:TI Tryz.prog 26 (.agg #[(.int .i64 0), (.slice none 0 0)]) 2 32:=by unfold TI; kernel_rfl
theorem oH:TI Tryz.prog 28 (.slice none 0 0) 1 24:=by unfold TI; kernel_rfl
theorem iL:TI Tryz.prog 3 (.int .i64 0) 1 8:=by unfold TI; kernel_rfl
theorem jh:TI Tryz.prog 40 (.agg #[(.int .i64 0), (.int .i64 0)]) 2 16:=by unfold TI; kernel_rfl
theorem xR:TI Tryz.prog 46 (.agg #[(.int .i64 0), (.slice none 0 0), (.slice none 0 0)]) 3 56:=by unfold TI; kernel_rfl
theorem oI:TI Tryz.prog 48 (.agg #[(.int .i64 0), (.slice none 0 0), (.slice none 0 0), (.slice none 0 0)]) 4 80:=by unfold TI; kernel_rfl
theorem aOZ:TI Tryz.prog 87 (.slice none 0 0) 1 24:=by unfold TI; kernel_rfl
theorem aOa:TI Tryz.prog 89 .nilFunc 1 8:=by unfold TI; kernel_rfl
theorem tX:TI Tryz.prog 98 (.agg #[(.int .i64 0), (.int .i64 0)]) 2 16:=by unfold TI; kernel_rfl
theorem Xb:Tryz.prog.underlying 22 = some (.slice 5):=by kernel_rfl
theorem jE:Tryz.prog.underlying 24 = some (.slice 40):=by kernel_rfl
theorem dO:Tryz.prog.underlying 28 = some (.slice 3):=by kernel_rfl
theorem aFv:Tryz.prog.underlying 3 = some (.int .i64):=by kernel_rfl
theorem C9:Tryz.prog.underlying 4 = some .bool:=by kernel_rfl
theorem uN:Tryz.prog.underlying 44 = some (.slice 98):=by kernel_rfl
theorem jR:Tryz.prog.underlying 87 = some (.slice 28):=by kernel_rfl
theorem aFw:(Tryz.prog.underlying 5).isSome = true:=by kernel_rfl
end
theorem aPU (code:(List Int)):FT Tryz.prog (WB code) 6 [.c (xF dI code)] [] (fun (t:Bool) => [.c (bC t)]) (fun (t:Bool) => []) []:=by
 refine FT.of [] Tryz.func6 Tryz.ntmps6 Q y2 ?_
 intro w0 U0 R0 g0
 unfold WB
 refine Ws (Wr ?_)
 refine aJ (Bv false) aZ (On (Ws (Wr ?_)))
 refine aH (Cc (xF dI code)) y4 (aW (LT.fG Q Xb) Q Q Q (af LT.gtr aU (aJ (Bv (decide (1048576 < (code.length:Int)))) y4 (On (bT z1 J ⟨au.sc,J⟩ J)))))
theorem Xl (code:(List Int)):FT Tryz.prog (F9 code) 74 [.c (xT dI code)] [] (fun (t:dW) => [.c (.pl 0 0)]) (fun (t:dW) => [(0,.row 105 [iw t])]) [0]:=by
 refine FT.of [] Tryz.func74 Tryz.ntmps74 Q y2 ?_
 intro w0 U0 R0 g0
 unfold F9
 refine Ws (Wr ?_)
 refine aJ (Cc (sC (.pointer none))) aZ (On (Ws (Wr ?_)))
 refine aH (Cc (xT dI code)) y4 (aW (LT.fG Q Xb) Q Q Q (af LT.add lV (aJ (Iv (aA (10101 + (code.length:Int)))) y4 (On (Ws (Ws (Wr ?_)))))))
 refine aJ (Iv 0) aZ (On (aB.block ?_))
 refine aB.jM (id:=0) (JJ code) (fun s1 => ([(0,Cc (xT dI code)),(3,Iv s1.1),(4,Iv s1.2)],[])) (fun b12 => ([(0,Cc (xT dI code)),(3,Iv b12)],[])) ?_ (aY.of z3 J) Q (fun b12 _ => ?_)
 ·intro s1
  unfold JJ
  refine Ws (Ws ?_)
  refine aB.eX (fun j14 => ([(0,Cc (xT dI code)),(3,Iv s1.1),(4,Iv s1.2),(15,Bv j14)],[])) ?_ (fun j14 _ => ?_)
  ·refine Wr (aH (Iv s1.2) y4 (aH (Cc (xT dI code)) y4 (aW (LT.fG Q Xb) Q Q Q (af LT.lss y5 (aH (Bv (decide (s1.2 < (code.length:Int)))) y4 (aT.split (fun uO => ?_) (fun uO => ?_)))))))
   ·refine dB (Iv s1.2) uO y5 (fB LT.lss uO iT (dD (Bv (decide (s1.2 < 4000))) uO y5 (On (aV Q z4 J))))
   ·refine aK uO y5 (aK uO y5 (dA (Bv false) uO aU (On (aV Q z4 J))))
  ·refine aB.cond Q (fun hc16 => ?_) (fun hc16 => ?_)
   ·refine aB.skip (Ws (aB.block (Wr ?_)))
    refine aH (Iv s1.1) y4 (af LT.mul aU (aH (Cc (xT dI code)) y4 (aH (Iv s1.2) y4 (aS fun x17 EF => (bg (LT.bU (enc:=dI) Q aCk EF sz5) Q Q Q Q (aW (LT.dJ Q ag5) Q Q Q (aW (LT.aCf Q aFw aFv) Q Q Q (af LT.add y5 (af LT.add aU (af LT.and aU (aJ (Iv (bits .and .i64 (aA ((aA ((aA (s1.1 * 131)) + (aA x17))) + 7)) 1073741823)) y4 ?_)))))))))))
    refine On (aB.blk ?_)
    refine en [(0,Cc (xT dI code)),(3,Iv (bits .and .i64 (aA ((aA ((aA (s1.1 * 131)) + (aA x17))) + 7)) 1073741823)),(4,Iv s1.2)] [] z3 J (Wr (aH (Iv s1.2) y4 (af LT.add aU (aJ (Iv (aA (s1.2 + 1))) y4 (On (aV Q z3 J))))))
   ·refine eu y2 z2 J
 ·refine Ws (Wr ?_)
  refine aH (Cc (xT dI code)) y4 (aH (Iv b12) y4 (bg (LT.build [(0,.tmp 28,.c (xT dI code)),(2,.tmp 29,.c (iC b12))] Q Q aNQ aOY Q Q Q) Q Q Q Q (gy 21 (.agg [xT dI code,iC 0,iC b12]) aOS y5 (aJ (Cc (.pl 21 0)) y4 (On (en [(2,Cc (.pl 21 0))] [(21,.row 105 [[xT dI code,iC 0,iC b12]])] z1 z1 (aB.ent (aY.mv 21 0 Q Q) (en [(2,Cc (.pl 0 0))] [(0,.row 105 [[xT dI code,iC 0,iC b12]])] z1 z1 (bT z1 z1 ⟨J,J⟩ ⟨cZ.nP ⟨iY tH,au.sc,au.sc,J⟩,J⟩)))))))))
theorem UE (c:dW):FT Tryz.prog (EP c) 145 [.c (.pl 0 0)] [(0,.row 105 [iw c])] (fun (t:(Int × dW)) => [.c (iC t.1)]) (fun (t:(Int × dW)) => [(0,.row 105 [iw t.2])]) []:=by
 refine FT.of [0] Tryz.func145 Tryz.ntmps145 Q y2 ?_
 intro w0 U0 R0 g0
 unfold EP
 refine Ws (Wr ?_)
 refine aJ (Iv 0) aZ (On (Ws (Wr ?_)))
 refine aH (Cc (.pl 0 0)) y4 (aH (Cc (.pl 0 0)) y4 (aW (LT.CP Q) Q Q Q (fC (iC c.h) VA ak bK (af LT.mul aU (af LT.add aU (aW (LT.CP Q) Q Q Q (aW (LT.dR Q VA) Q Q Q (dZ (ve (.c (iC (aA ((aA (c.h * 6364136223846793005)) + 1442695040888963407)))) [xT dI c.b,iC c.i,iC (aA ((aA (c.h * 6364136223846793005)) + 1442695040888963407))] Q Q pX dQ) Q Q Q Q Q (On (Ws ?_))))))))))
 refine en [(0,Cc (.pl 0 0))] [(0,.row 105 [[xT dI c.b,iC c.i,iC (aA ((aA (c.h * 6364136223846793005)) + 1442695040888963407))]])] z1 z1 (aB.draw mixed (ay (Cc (.pl 0 0)) y4 (ax (LT.CP Q) Q Q Q (dh (iC (aA ((aA (c.h * 6364136223846793005)) + 1442695040888963407))) VA ak bK (bZ (LT.shr Q (by decide)) Q y2 Q Q (ay (Cc (.pl 0 0)) y4 (ax (LT.CP Q) Q Q Q (dh (iC (aA ((aA (c.h * 6364136223846793005)) + 1442695040888963407))) VA ak bK (bZ (LT.shr Q (by decide)) Q y2 Q Q ?_)))))))))
 refine dV LT.xor y5 (dV LT.and aU (ax (LT.assign (v:=(Iv (bits .and .i64 (bits .xor .i64 (tN (aA ((aA (c.h * 6364136223846793005)) + 1442695040888963407)) 33) (tN (aA ((aA (c.h * 6364136223846793005)) + 1442695040888963407)) 45)) 255))) Q) Q Q Q (dm (Ws (Ws ?_)))))
 refine en [(0,Cc (.pl 0 0)),(3,Iv (bits .and .i64 (bits .xor .i64 (tN (aA ((aA (c.h * 6364136223846793005)) + 1442695040888963407)) 33) (tN (aA ((aA (c.h * 6364136223846793005)) + 1442695040888963407)) 45)) 255))] [(0,.row 105 [[xT dI c.b,iC c.i,iC (aA ((aA (c.h * 6364136223846793005)) + 1442695040888963407))]])] z2 z1 (aB.draw mixed (ay (Cc (.pl 0 0)) y4 (ax (LT.CP Q) Q Q Q (dh (iC c.i) U9 ak bK (ay (Cc (.pl 0 0)) y4 (ax (LT.CP Q) Q Q Q (dh (xT dI c.b) aC2 aBg bK (ax (LT.fG Q Xb) Q Q Q (dV LT.lss y5 ?_)))))))))
 refine dm (aB.eX (fun j3 => ([(3,Iv j3.1)],[(0,.row 105 [[xT dI c.b,iC j3.2,iC (aA ((aA (c.h * 6364136223846793005)) + 1442695040888963407))]])])) ?_ (fun j3 _ => ?_))
 ·refine aB.cond Q (fun hc4 => ?_) (fun hc4 => ?_)
  ·refine Ws (aB.draw mixed ?_)
   refine ay (Iv (bits .and .i64 (bits .xor .i64 (tN (aA ((aA (c.h * 6364136223846793005)) + 1442695040888963407)) 33) (tN (aA ((aA (c.h * 6364136223846793005)) + 1442695040888963407)) 45)) 255)) y4 (ay (Cc (.pl 0 0)) y4 (ax (LT.CP Q) Q Q Q (dh (xT dI c.b) aC2 aBg bK (ay (Cc (.pl 0 0)) y4 (ax (LT.CP Q) Q Q Q (dh (iC c.i) U9 ak bK (aQ.bind fun x5 hx5 => (bZ (LT.bU (enc:=dI) Q aCk hx5 sz5) Q Q Q Q (ax (LT.dJ Q ag5) Q Q Q ?_)))))))))
   refine ax (LT.aCf Q aFw aFv) Q Q Q (dV LT.add y5 (dV LT.and aU (ax (LT.assign (v:=(Iv (bits .and .i64 (aA ((bits .and .i64 (bits .xor .i64 (tN (aA ((aA (c.h * 6364136223846793005)) + 1442695040888963407)) 33) (tN (aA ((aA (c.h * 6364136223846793005)) + 1442695040888963407)) 45)) 255) + (aA x5))) 255))) Q) Q Q Q (dm (en [(0,Cc (.pl 0 0)),(3,Iv (bits .and .i64 (aA ((bits .and .i64 (bits .xor .i64 (tN (aA ((aA (c.h * 6364136223846793005)) + 1442695040888963407)) 33) (tN (aA ((aA (c.h * 6364136223846793005)) + 1442695040888963407)) 45)) 255) + (aA x5))) 255))] [(0,.row 105 [[xT dI c.b,iC c.i,iC (aA ((aA (c.h * 6364136223846793005)) + 1442695040888963407))]])] z2 z1 (Wr (aH (Cc (.pl 0 0)) y4 (aH (Cc (.pl 0 0)) y4 (aW (LT.CP Q) Q Q Q (fC (iC c.i) U9 ak bK ?_))))))))))
   refine af LT.add aU (aW (LT.CP Q) Q Q Q (aW (LT.dR Q U9) Q Q Q (dZ (ve (.c (iC (aA (c.i + 1)))) [xT dI c.b,iC (aA (c.i + 1)),iC (aA ((aA (c.h * 6364136223846793005)) + 1442695040888963407))] Q Q pX dQ) Q Q Q Q Q (On (aV Q z1 z1)))))
  ·refine aB.skip (aV Q z1 z1)
 ·refine Ws (Wr ?_)
  refine aH (Iv j3.1) y4 (aJ (Iv j3.1) y4 (On (bT z1 z1 ⟨au.sc,J⟩ ⟨cZ.nP ⟨iY tH,au.sc,au.sc,J⟩,J⟩)))
theorem rV (c:dW) (n:Int):FT Tryz.prog (pG c n) 93 [.c (.pl 0 0),.c (iC n)] [(0,.row 105 [iw c])] (fun (t:(Int × dW)) => [.c (iC t.1)]) (fun (t:(Int × dW)) => [(0,.row 105 [iw t.2])]) []:=by
 refine FT.of [0] Tryz.func93 Tryz.ntmps93 Q y2 ?_
 intro w0 U0 R0 g0
 unfold pG
 refine Ws (Wr ?_)
 refine aJ (Iv 0) aZ (On (Ws (Ws (Wr ?_))))
 refine aH (Iv n) y4 (af LT.leq aU (On (aB.cond Q (fun hc1 => ?_) (fun hc1 => ?_))))
 ·refine Ws (Wr ?_)
  refine aJ (Iv 0) aZ (On (bT z1 z1 ⟨au.sc,J⟩ ⟨cZ.nP ⟨iY tH,au.sc,au.sc,J⟩,J⟩))
 ·refine aB.skip (Ws (Ws (Wr ?_)))
  refine aH (Iv n) y4 (af LT.leq aU (On (aB.cond Q (fun hc2 => ?_) (fun hc2 => ?_))))
  ·refine Ws (Wr ?_)
   refine aH (Cc (.pl 0 0)) y4 (aS fun r3 hr3 => (aT.step (dK [.c (.pl 0 0)] (Fw.Fn.ren [(0,0)] (UE c r3 hr3) Q) PN (l9 Q) z1 y3) z2 z1 Q Q (aH (Iv n) y4 (aS fun u4 hu4 => (bg (LT.rem Q (yZ hu4)) Q Q Q Q (aJ (Iv (Int.tmod r3.1 n)) y4 (On (bT z1 z1 ⟨au.sc,J⟩ ⟨cZ.nP ⟨iY tH,au.sc,au.sc,J⟩,J⟩))))))))
  ·refine aB.skip (Ws (Wr ?_))
   refine aH (Cc (.pl 0 0)) y4 (aS fun r5 nI => (aT.step (dK [.c (.pl 0 0)] (Fw.Fn.ren [(0,0)] (UE c r5 nI) Q) PN (l9 Q) z1 y3) z2 z1 Q Q (aJ (Iv r5.1) y4 (On (Ws (Wr ?_))))))
   refine aH (Cc (.pl 0 0)) y4 (aS fun r6 EC => (aT.step (dK [.c (.pl 0 0)] (Fw.Fn.ren [(0,0)] (UE r5.2 r6 EC) Q) PN (l9 Q) z1 y3) z2 z1 Q Q (aJ (Iv r6.1) y4 (On (Ws ?_)))))
   refine en [(0,Cc (.pl 0 0)),(1,Iv n),(5,Iv r5.1),(6,Iv r6.1)] [(0,.row 105 [iw r6.2])] z4 z1 (Wr (aH (Cc (.pl 0 0)) y4 (aS fun r7 lH => (aT.step (dK [.c (.pl 0 0)] (Fw.Fn.ren [(0,0)] (UE r6.2 r7 lH) Q) PN (l9 Q) z1 y3) z2 z1 Q Q (aJ (Iv r7.1) y4 (On (Ws (Wr ?_))))))))
   refine aH (Cc (.pl 0 0)) y4 (aS fun r8 Ac => (aT.step (dK [.c (.pl 0 0)] (Fw.Fn.ren [(0,0)] (UE r7.2 r8 Ac) Q) PN (l9 Q) z1 y3) z2 z1 Q Q (aJ (Iv r8.1) y4 (On (Ws (Wr ?_))))))
   refine aH (Iv r5.1) y4 (af LT.mul aU (aH (Iv r6.1) y4 (af LT.mul aU (af LT.add y5 (aH (Iv r7.1) y4 (af LT.mul aU (af LT.add y5 (aH (Iv r8.1) y4 (af LT.add y5 (aH (Iv n) y4 (aS fun u9 hu9 => ?_)))))))))))
   refine bg (LT.rem Q (yZ hu9)) Q Q Q Q (aJ (Iv (Int.tmod (aA ((aA ((aA ((aA (r5.1 * 16777216)) + (aA (r6.1 * 65536)))) + (aA (r7.1 * 256)))) + r8.1)) n)) y4 (On (bT z1 z1 ⟨au.sc,J⟩ ⟨cZ.nP ⟨iY tH,au.sc,au.sc,J⟩,J⟩)))
theorem aPw (c:dW) (n:Int) (odd:Int):FT Tryz.prog (SK c n odd) 178 [.c (.pl 0 0),.c (iC n),.c (iC odd)] [(0,.row 105 [iw c])] (fun (t:(bW × dW)) => [.agg [iC t.1.aI,lo 1 t.1.aF.length]]) (fun (t:(bW × dW)) => [(0,.row 105 [iw t.2]),(1,pR 40 aP t.1.aF)]) [1]:=by
 refine FT.of [0] Tryz.func178 Tryz.ntmps178 Q y2 ?_
 intro w0 U0 R0 g0
 unfold SK
 refine Ws (Wr ?_)
 refine iF 21 [iC 0,sC aX] nK y6 (On (Ws (Wr ?_)))
 refine aH (Iv n) y4 (jo (gu 22 aP [] [] jE jh y7) Q Q (bg (LT.build [(0,.tmp 10,.c (iC n)),(1,.tmp 11,.c (lo 22 (([]:List bD).length)))] Q Q Ap nK Q Q Q) Q Q Q Q (iF 23 [iC 0,sC aX] nK y6 (dZ (stA [iC n,lo 22 (([]:List bD).length)] Q Q gW fD) Q Q Q Q Q (On (Ws (Ws ?_)))))))
 refine en [(0,Cc (.pl 0 0)),(1,Iv n),(2,Iv odd),(6,Cc (.pl 21 0)),(7,Cc (.pl 23 0))] [(0,.row 105 [iw c]),(21,.row 26 [[iC 0,sC aX]]),(22,pR 40 aP ([]:List bD)),(23,.row 26 [[iC n,lo 22 (([]:List bD).length)]])] z5 z4 (Wr (aJ (Iv 0) aZ (On (aB.block ?_))))
 refine aB.jM (id:=0) (SL n odd) (fun s1 => ([(0,Cc (.pl 0 0)),(1,Iv n),(2,Iv odd),(6,Cc (.pl 21 0)),(7,Cc (.pl 23 0)),(8,Iv s1.1)],[(0,.row 105 [[xT dI s1.2.1,iC s1.2.2.1,iC s1.2.2.2.1]]),(21,.row 26 [[iC 0,sC aX]]),(22,pR 40 aP s1.2.2.2.2),(23,.row 26 [[iC n,lo 22 s1.2.2.2.2.length]])])) (fun jP => ([(6,Cc (.pl 21 0)),(7,Cc (.pl 23 0))],[(0,.row 105 [[xT dI jP.1,iC jP.2.1,iC jP.2.2.1]]),(21,.row 26 [[iC 0,sC aX]]),(22,pR 40 aP jP.2.2.2),(23,.row 26 [[iC n,lo 22 jP.2.2.2.length]])])) ?_ (aY.of z6 z4) Q (fun jP _ => ?_)
 ·intro s1
  unfold SL
  refine Ws (Ws (Wr ?_))
  refine aH (Iv s1.1) y4 (aH (Iv n) y4 (af LT.lss y5 (On (aB.cond Q (fun Y0 => ?_) (fun Y0 => ?_)))))
  ·refine aB.skip (Ws (aB.block (Ws (Wr ?_))))
   refine aH (Iv s1.1) y4 (af LT.add aU (aJ (Iv (aA (s1.1 + 1))) y4 (On (aB.block ?_))))
   refine aB.jM (id:=2) (N7 n odd s1) (fun kK => ([(0,Cc (.pl 0 0)),(1,Iv n),(2,Iv odd),(6,Cc (.pl 21 0)),(7,Cc (.pl 23 0)),(8,Iv s1.1),(9,Iv kK.1)],[(0,.row 105 [[xT dI kK.2.1,iC kK.2.2.1,iC kK.2.2.2.1]]),(21,.row 26 [[iC 0,sC aX]]),(22,pR 40 aP kK.2.2.2.2),(23,.row 26 [[iC n,lo 22 kK.2.2.2.2.length]])])) (fun wC => ([(0,Cc (.pl 0 0)),(1,Iv n),(2,Iv odd),(6,Cc (.pl 21 0)),(7,Cc (.pl 23 0)),(8,Iv wC.1)],[(0,.row 105 [[xT dI wC.2.1,iC wC.2.2.1,iC wC.2.2.2.1]]),(21,.row 26 [[iC 0,sC aX]]),(22,pR 40 aP wC.2.2.2.2),(23,.row 26 [[iC n,lo 22 wC.2.2.2.2.length]])])) ?_ (aY.of z7 z4) Q (fun wC _ => ?_)
   ·intro kK
    unfold N7
    refine Ws (Ws (Wr ?_))
    refine aH (Iv kK.1) y4 (aH (Iv n) y4 (af LT.lss y5 (On (aB.cond Q (fun aJr => ?_) (fun aJr => ?_)))))
    ·refine aB.skip (Ws (aB.block (Ws ?_)))
     refine aB.eX (fun j81 => ([(0,Cc (.pl 0 0)),(1,Iv n),(2,Iv odd),(6,Cc (.pl 21 0)),(7,Cc (.pl 23 0)),(8,Iv s1.1),(9,Iv kK.1),(34,Bv j81.1)],[(0,.row 105 [[xT dI j81.2.1,iC j81.2.2.1,iC j81.2.2.2]]),(21,.row 26 [[iC 0,sC aX]]),(22,pR 40 aP kK.2.2.2.2),(23,.row 26 [[iC n,lo 22 kK.2.2.2.2.length]])])) ?_ (fun j81 _ => ?_)
     ·refine Wr (aH (Cc (.pl 0 0)) y4 (aS fun CZ aK9 => (aT.step (dK [.c (.pl 0 0),.c (iC 10)] (Fw.Fn.ren [(0,0)] (rV (dW.mk kK.2.1 kK.2.2.1 kK.2.2.2.1) 10 CZ aK9) Q) rM (jv y2) z1 y3) ⟨Q,Q,y2,J⟩ z1 Q Q (aH (Iv odd) y4 (af LT.lss y5 (aH (Bv (decide (CZ.1 < odd))) y4 (aT.split (fun qR => ?_) (fun qR => ?_))))))))
      ·refine jd (lo 22 kK.2.2.2.2.length) iO jC qR iJ (aW (LT.lC Q jE) Q (gH qR Q Q) Q (fB LT.lss qR iT (dD (Bv (decide ((kK.2.2.2.2.length:Int) < 24))) qR y5 (On (aV Q z8 z4)))))
      ·refine aK qR y5 (aK qR y5 (aK qR y5 (aK qR y5 (dA (Bv false) qR aU (On (aV Q z8 z4))))))
     ·refine aB.eX (fun j86 => ([(0,Cc (.pl 0 0)),(1,Iv n),(2,Iv odd),(6,Cc (.pl 21 0)),(7,Cc (.pl 23 0)),(8,Iv s1.1),(9,Iv kK.1)],[(0,.row 105 [[xT dI j81.2.1,iC j81.2.2.1,iC j81.2.2.2]]),(21,.row 26 [[iC 0,sC aX]]),(22,pR 40 aP j86),(23,.row 26 [[iC n,lo 22 j86.length]])])) ?_ (fun j86 _ => ?_)
      ·refine aB.cond Q (fun aJv => ?_) (fun aJv => ?_)
       ·refine Wr (fC (lo 22 kK.2.2.2.2.length) iO jC bK (aH (Iv s1.1) y4 (aH (Iv kK.1) y4 (bg (LT.build [(0,.tmp 37,.c (iC s1.1)),(1,.tmp 38,.c (iC kK.1))] Q Q ES jh Q Q Q) Q Q Q Q (pV (gu 25 aP [(0,.tmp 39,.agg [iC s1.1,iC kK.1])] [bD.mk s1.1 kK.1] jE jh y7) Q Q Q (aS fun u88 aLo => (qM (LT.pK (enc:=aP) Q Q Q jE jh Q (by decide) (by decide) (fun _ => Q) (kU aLo)) Q Q Q Q Q Q (aW (LT.dR Q iO) Q Q Q (dZ (ve (.c (lo 22 ((kK.2.2.2.2 ++ [bD.mk s1.1 kK.1]).length))) [iC n,lo 22 ((kK.2.2.2.2 ++ [bD.mk s1.1 kK.1]).length)] Q Q FM Gm) Q Q Q Q Q (On ?_))))))))))
        refine aV Q z7 z4
       ·refine aB.skip (aV Q z7 z4)
      ·refine aB.blk (Wr ?_)
       refine aH (Iv kK.1) y4 (af LT.add aU (aJ (Iv (aA (kK.1 + 1))) y4 (On (aV Q z7 z4))))
    ·refine eu y2 z6 z4
   ·refine aB.blk (Wr ?_)
    refine aH (Iv wC.1) y4 (af LT.add aU (aJ (Iv (aA (wC.1 + 1))) y4 (On (aV Q z6 z4))))
  ·refine eu y2 z2 z4
 ·refine Ws (Wr ?_)
  refine bV (bQ [iC n,lo 22 jP.2.2.2.length] Q jq gW fD) Q Q Q Q (dZ (stA [iC n,lo 22 jP.2.2.2.length] Q Q gW fD) Q Q Q Q Q (On (en [(6,Cc (.pl 21 0))] [(0,.row 105 [[xT dI jP.1,iC jP.2.1,iC jP.2.2.1]]),(21,.row 26 [[iC n,lo 22 jP.2.2.2.length]]),(22,pR 40 aP jP.2.2.2)] z1 z3 (aB.ent (aY.mv 22 1 Q Q) (en [(6,Cc (.pl 21 0))] [(0,.row 105 [[xT dI jP.1,iC jP.2.1,iC jP.2.2.1]]),(1,pR 40 aP jP.2.2.2),(21,.row 26 [[iC n,lo 1 jP.2.2.2.length]])] z1 z3 (bT ⟨⟨_,_,_,Q,Q,Q,jq,fD,_,ji gW⟩,J⟩ z2 ⟨⟨au.sc,J,J⟩,J⟩ ⟨cZ.nP ⟨iY tH,au.sc,au.sc,J⟩,cZ.fA lF,J⟩))))))
theorem DF (x:Int) (low:Int) (high:Int):FT Tryz.prog (xI x low high) 81 [.c (iC x),.c (iC low),.c (iC high)] [] (fun (t:Bool) => [.c (bC t)]) (fun (t:Bool) => []) []:=by
 refine FT.of [] Tryz.func81 Tryz.ntmps81 Q y2 ?_
 intro w0 U0 R0 g0
 unfold xI
 refine Ws (Wr ?_)
 refine aJ (Bv false) aZ (On (Ws ?_))
 refine aB.eX (fun j2 => ([(6,Bv j2)],[])) ?_ (fun j2 _ => ?_)
 ·refine Wr (aH (Iv x) y4 (aH (Iv low) y4 (af LT.geq y5 (aH (Bv (decide (low ≤ x))) y4 (aT.split (fun hb3 => ?_) (fun hb3 => ?_))))))
  ·refine dB (Iv x) hb3 y5 (dB (Iv high) hb3 y5 (fB LT.leq hb3 y6 (dD (Bv (decide (x ≤ high))) hb3 y5 (aJ (Bv (decide (x ≤ high))) y4 (On (aV Q z1 J))))))
  ·refine aK hb3 y5 (aK hb3 y5 (aK hb3 y5 (dA (Bv false) hb3 aU (aJ (Bv false) y4 (On (aV Q z1 J))))))
 ·refine bT z1 J ⟨au.sc,J⟩ J
theorem aGP (a:bD) (b:bD):FT Tryz.prog (JK a b) 82 [.agg [iC a.A,iC a.B],.agg [iC b.A,iC b.B]] [] (fun (t:Bool) => [.c (bC t)]) (fun (t:Bool) => []) []:=by
 refine FT.of [] Tryz.func82 Tryz.ntmps82 Q y2 ?_
 intro w0 U0 R0 g0
 unfold JK
 refine Ws (Wr ?_)
 refine gy 21 (.agg [iC a.A,iC a.B]) fU y5 (gy 22 (.agg [iC b.A,iC b.B]) fU y5 (aJ (Bv false) aZ (On (Ws ?_))))
 refine aB.eX (fun j3 => ([(4,Bv j3)],[])) ?_ (fun j3 _ => ?_)
 ·refine Wr (fC (iC a.A) nS ak bK (fC (iC b.A) nS ak bK (af LT.lss y5 (aH (Bv (decide (a.A < b.A))) y4 (aT.split (fun hb4 => ?_) (fun hb4 => ?_))))))
  ·refine aK hb4 y5 (aK hb4 y5 (aK hb4 y5 (aK hb4 y5 (aK hb4 y5 (aK hb4 y5 (Oj Q Q Q Q (Oj Q Q Q Q (Oj Q Q Q Q (Oj Q Q Q Q (Oj Q Q Q Q (aK hb4 y5 ?_)))))))))))
   refine dD (Bv true) hb4 aU (aJ (Bv true) y4 (On (aV Q z1 J)))
  ·refine jd (iC a.A) nS ak hb4 iJ (jd (iC b.A) nS ak hb4 iJ (fB LT.eql hb4 y6 (dB (Bv (a.A == b.A)) hb4 y5 (aT.split (fun hb5 => ?_) (fun hb5 => ?_)))))
   ·refine jd (iC a.B) oZ ak hb5 iJ (jd (iC b.B) oZ ak hb5 iJ (fB LT.leq hb5 y6 (bg (LT.nY (v:=(Bv (decide (a.B ≤ b.B)))) Q hb5) Q Q (gH hb4 Q Q) Q (dA (Bv (decide (a.B ≤ b.B))) hb4 y5 (aJ (Bv (decide (a.B ≤ b.B))) y4 (On (aV Q z1 J)))))))
   ·refine aK hb5 y5 (aK hb5 y5 (aK hb5 y5 (aK hb5 y5 (aK hb5 y5 (bg (LT.oG (v:=(Bv false)) Q hb5) Q y2 (gH hb4 Q Q) Q (dA (Bv false) hb4 y5 (aJ (Bv false) y4 (On (aV Q z1 J)))))))))
 ·refine bT z1 J ⟨au.sc,J⟩ J
theorem aBF (g:bW):FT Tryz.prog (I9 g) 15 [.agg (eY g)] [] (fun (t:Bool) => [.c (bC t)]) (fun (t:Bool) => []) []:=by
 refine FT.of [] Tryz.func15 Tryz.ntmps15 Q y2 ?_
 intro w0 U0 R0 g0
 unfold I9
 refine Ws (Wr ?_)
 refine gy 21 (.agg (eY g)) fD y5 (aJ (Bv false) aZ (On (Ws (Ws ?_))))
 refine aB.eX (fun j3 => ([(1,Cc (.pl 21 0)),(14,Bv j3)],[(21,.row 26 [eY g])])) ?_ (fun j3 _ => ?_)
 ·refine Wr (fC (iC g.aI) lT ak bK (aS fun r4 hr4 => (iD [.c (iC g.aI),.c (iC 1),.c (iC 8)] (DF g.aI 1 8 r4 hr4) BN (vK y3) y5 ⟨Q,Q,y2,y2,J⟩ (aW (LT.not Q) Q Q Q (aH (Bv (!r4)) y4 (aT.split (fun hb5 => ?_) (fun hb5 => ?_)))))))
  ·refine aK hb5 y5 (aK hb5 y5 (aK hb5 y5 (aK hb5 y5 (dD (Bv true) hb5 aU (On (aV Q z2 z1))))))
  ·refine jd (xF aP g.aF) iO jC hb5 iJ (aW (LT.fG Q jE) Q (gH hb5 Q Q) Q (fB LT.gtr hb5 iT (dA (Bv (decide (24 < (g.aF.length:Int)))) hb5 y5 (On (aV Q z2 z1)))))
 ·refine aB.cond Q (fun hc6 => ?_) (fun hc6 => ?_)
  ·refine Ws (Wr ?_)
   refine aJ (Bv false) aZ (On (bT z1 J ⟨au.sc,J⟩ J))
  ·refine aB.skip (Ws (Ws (Wr ?_)))
   refine aJ (Iv 0) aZ (On (aB.block ?_))
   refine aB.lD (id:=0) (Rq g) (fun s7 => ([(1,Cc (.pl 21 0)),(3,Iv s7)],[(21,.row 26 [eY g])])) (fun Eu => ([],[])) (ja Tryz.prog Tryz.f15.results.toList [] [] (fun (t:Bool) => [.c (bC t)]) (fun (t:Bool) => [])) ?_ (aY.of z2 z1) Q (fun Eu _ => ?_) lK
   ·intro s7
    unfold Rq
    refine Ws (Ws (Wr ?_))
    refine aH (Iv s7) y4 (fC (xF aP g.aF) iO jC bK (aW (LT.fG Q jE) Q Q Q (af LT.lss y5 (On (aB.cond Q (fun IV => ?_) (fun IV => ?_))))))
    ·refine aB.skip (Ws (aB.block (Ws (Wr ?_))))
     refine fC (xF aP g.aF) iO jC bK (aH (Iv s7) y4 (aS fun jI QX => (bg (LT.bU (enc:=aP) Q qP QX fU) Q Q Q Q (aW (kJ Q lX je fU) Q Q Q (iF 23 [iC 0,iC 0] jh y6 (dZ (stA [iC jI.A,iC jI.B] Q Q je fU) Q Q Q Q Q (On (Ws ?_))))))))
     refine aB.eX (fun j49 => ([(1,Cc (.pl 21 0)),(3,Iv s7),(58,Bv j49)],[(21,.row 26 [eY g])])) ?_ (fun j49 _ => ?_)
     ·refine en [(1,Cc (.pl 21 0)),(3,Iv s7),(4,Cc (.pl 23 0))] [(21,.row 26 [eY g]),(23,.row 40 [[iC jI.A,iC jI.B]])] z3 z2 (aB.draw mixed (dh (iC jI.A) nS ak bK (dV LT.lss aU (ay (Bv (decide (jI.A < 0))) y4 (aQ.split (fun qo => ?_) (fun qo => ?_))))))
      ·refine bJ qo y3 (bJ qo y3 (bJ qo y3 (bJ qo y3 (bJ qo y3 (mP (Bv true) qo aU (ay (Bv true) y4 (bM y3 (bM y3 (bM y3 (bM y3 (bM y3 ?_)))))))))))
       refine mP (Bv true) Q aU (ay (Bv true) y4 (bM y3 (bM y3 (bM y3 (bM y3 (bM y3 (bM y3 (bM y3 (bM y3 (bM y3 (bM y3 ?_)))))))))))
       refine bM y3 (bM y3 (bM y3 (mP (Bv true) Q aU (dm (aV Q z3 z1)))))
      ·refine ql (iC jI.A) nS ak qo iJ (ql (iC jI.B) oZ ak qo iJ (oV LT.geq qo y6 (lm (Bv (decide (jI.B ≤ jI.A))) qo y5 (ay (Bv (decide (jI.B ≤ jI.A))) y4 (aQ.split (fun qp => ?_) (fun qp => ?_))))))
       ·refine bJ qp y3 (bJ qp y3 (bJ qp y3 (bJ qp y3 (bJ qp y3 (mP (Bv true) qp aU (ay (Bv true) y4 (bM y3 (bM y3 (bM y3 (bM y3 (bM y3 ?_)))))))))))
        refine bM y3 (bM y3 (bM y3 (bM y3 (bM y3 (bM y3 (bM y3 (bM y3 (mP (Bv true) Q aU (dm (aV Q z3 z1))))))))))
       ·refine ql (iC jI.B) oZ ak qp iJ (ql (iC g.aI) lT ak qp iJ (oV LT.geq qp y6 (lm (Bv (decide (g.aI ≤ jI.B))) qp y5 (ay (Bv (decide (g.aI ≤ jI.B))) y4 (aQ.split (fun pF => ?_) (fun pF => ?_))))))
        ·refine bJ pF y3 (bJ pF y3 (bJ pF y3 (bM y3 (bM y3 (bM y3 (bM y3 (bM y3 (bM y3 (bM y3 (bM y3 (bM y3 ?_)))))))))))
         refine bJ pF y3 (mP (Bv true) pF aU (dm (aV Q z3 z1)))
        ·refine kN (Iv s7) pF y5 (oV LT.gtr pF iT (kN (Bv (decide (0 < s7))) pF y5 (aQ.split (fun kS => ?_) (fun kS => ?_))))
         ·refine ql (xF aP g.aF) iO jC kS iJ (kN (Iv s7) kS y5 (oV LT.sub kS iT (aQ.bind fun x54 Ae => (bZ (LT.bU (enc:=aP) Q qP Ae fU) Q Q (gH kS Q Q) Q (ax (kJ Q lX je fU) Q (gH kS Q Q) Q (fM (bQ [iC jI.A,iC jI.B] Q lX je fU) Q Q (gH kS Q Q) Q (aQ.bind fun Aw ZV => (aQ.pure (dK [.agg [iC x54.A,iC x54.B],.agg [iC jI.A,iC jI.B]] (aGP x54 jI Aw ZV) aCV (Tj y4) J y3) z3 J (gH kS Q Q) Q (ax (LT.not Q) Q (gH kS Q Q) Q (bZ (LT.nY (v:=(Bv (!Aw))) Q kS) Q Q (gH pF Q Q) Q ?_))))))))))
          refine lm (Bv (!Aw)) pF y5 (dm (aV Q z3 z1))
         ·refine bJ kS y3 (bJ kS y3 (bJ kS y3 (bJ kS y3 (bJ kS y3 (bJ kS y3 (bJ kS y3 (bJ kS y3 (bJ kS y3 (bZ (LT.oG (v:=(Bv false)) Q kS) Q y2 (gH pF Q Q) Q (lm (Bv false) pF y5 (dm ?_)))))))))))
          refine aV Q z3 z1
     ·refine aB.cond Q (fun Y1 => ?_) (fun Y1 => ?_)
      ·refine Ws (Wr ?_)
       refine aJ (Bv false) aZ (On (aB.ret ⟨Q,kz z1 J ⟨au.sc,J⟩ J⟩))
      ·refine aB.skip (aB.blk (Wr ?_))
       refine aH (Iv s7) y4 (af LT.add aU (aJ (Iv (aA (s7 + 1))) y4 (On (aV Q z2 z1))))
    ·refine eu y2 J J
   ·refine Ws (Wr ?_)
    refine aJ (Bv true) aZ (On (bT z1 J ⟨au.sc,J⟩ J))
theorem O0 (x:Int) (LM:Int) (hi:Int):FT Tryz.prog (Ah x LM hi) 115 [.c (iC x),.c (iC LM),.c (iC hi)] [] (fun (t:Bool) => [.c (bC t)]) (fun (t:Bool) => []) []:=by
 refine FT.of [] Tryz.func115 Tryz.ntmps115 Q y2 ?_
 intro w0 U0 R0 g0
 unfold Ah
 refine Ws (Wr ?_)
 refine aJ (Bv false) aZ (On (Ws ?_))
 refine aB.eX (fun j2 => ([(6,Bv j2)],[])) ?_ (fun j2 _ => ?_)
 ·refine Wr (aH (Iv x) y4 (aH (Iv LM) y4 (af LT.geq y5 (aH (Bv (decide (LM ≤ x))) y4 (aT.split (fun hb3 => ?_) (fun hb3 => ?_))))))
  ·refine dB (Iv x) hb3 y5 (dB (Iv hi) hb3 y5 (fB LT.leq hb3 y6 (dD (Bv (decide (x ≤ hi))) hb3 y5 (aJ (Bv (decide (x ≤ hi))) y4 (On (aV Q z1 J))))))
  ·refine aK hb3 y5 (aK hb3 y5 (aK hb3 y5 (dA (Bv false) hb3 aU (aJ (Bv false) y4 (On (aV Q z1 J))))))
 ·refine bT z1 J ⟨au.sc,J⟩ J
theorem aF9 (a:Int) (b:Int):FT Tryz.prog (MH a b) 169 [.c (iC a),.c (iC b)] [] (fun (t:Int) => [.c (iC t)]) (fun (t:Int) => []) []:=by
 refine FT.of [] Tryz.func169 Tryz.ntmps169 Q y2 ?_
 intro w0 U0 R0 g0
 unfold MH
 refine Ws (Wr ?_)
 refine aJ (Iv 0) aZ (On (Ws (aB.block (Ws (Wr ?_)))))
 refine aH (Iv a) y4 (aH (Iv b) y4 (af LT.lss y5 (aJ (Bv (decide (a < b))) y4 (On (aB.cond Q (fun hc1 => ?_) (fun hc1 => ?_))))))
 ·refine Ws (Wr ?_)
  refine aJ (Iv (-1)) aZ (On (bT z1 J ⟨au.sc,J⟩ J))
 ·refine Ws (Wr ?_)
  refine aH (Iv a) y4 (aH (Iv b) y4 (af LT.gtr y5 (aJ (Bv (decide (b < a))) y4 (On (aB.cond Q (fun hc2 => ?_) (fun hc2 => ?_))))))
  ·refine Ws (Wr ?_)
   refine aJ (Iv 1) aZ (On (bT z1 J ⟨au.sc,J⟩ J))
  ·refine aB.skip (aB.blk (Ws (Wr ?_)))
   refine aJ (Iv 0) aZ (On (bT z1 J ⟨au.sc,J⟩ J))
theorem aPM (x:bD) (y:bD):FT Tryz.prog (MG x y) 136 [.agg [iC x.A,iC x.B],.agg [iC y.A,iC y.B]] [] (fun (t:Int) => [.c (iC t)]) (fun (t:Int) => []) []:=by
 refine FT.of [] Tryz.func136 Tryz.ntmps136 Q y2 ?_
 intro w0 U0 R0 g0
 unfold MG
 refine Ws (Wr ?_)
 refine gy 21 (.agg [iC x.A,iC x.B]) fU y5 (gy 22 (.agg [iC y.A,iC y.B]) fU y5 (aJ (Iv 0) aZ (On (Ws (Ws (Wr ?_))))))
 refine fC (iC x.A) nS ak bK (fC (iC y.A) nS ak bK (aS fun r1 hr1 => (iD [.c (iC x.A),.c (iC y.A)] (aF9 x.A y.A r1 hr1) aCM (jv y2) y5 z3 (aJ (Iv r1) y4 (On (Ws ?_))))))
 refine en [(2,Cc (.pl 21 0)),(3,Cc (.pl 22 0)),(5,Iv r1)] [(21,.row 40 [[iC x.A,iC x.B]]),(22,.row 40 [[iC y.A,iC y.B]])] z3 z2 (Wr (aH (Iv r1) y4 (af LT.neq aU (On (aB.cond Q (fun hc2 => ?_) (fun hc2 => ?_))))))
 ·refine Ws (Wr ?_)
  refine aH (Iv r1) y4 (aJ (Iv r1) y4 (On (bT z1 J ⟨au.sc,J⟩ J)))
 ·refine aB.skip (Ws (Wr ?_))
  refine fC (iC x.B) oZ ak bK (fC (iC y.B) oZ ak bK (aS fun r3 hr3 => (iD [.c (iC x.B),.c (iC y.B)] (aF9 x.B y.B r3 hr3) aCM (jv y2) y5 z3 (aJ (Iv r3) y4 (On (bT z1 J ⟨au.sc,J⟩ J))))))
theorem aPG (g:bW):FT Tryz.prog (Iq g) 75 [.agg (eY g)] [] (fun (t:Bool) => [.c (bC t)]) (fun (t:Bool) => []) []:=by
 refine FT.of [] Tryz.func75 Tryz.ntmps75 Q y2 ?_
 intro w0 U0 R0 g0
 unfold Iq
 refine Ws (Wr ?_)
 refine gy 21 (.agg (eY g)) fD y5 (aJ (Bv false) aZ (On (Ws (Ws ?_))))
 refine aB.eX (fun j3 => ([(1,Cc (.pl 21 0)),(14,Bv j3)],[(21,.row 26 [eY g])])) ?_ (fun j3 _ => ?_)
 ·refine Wr (fC (iC g.aI) lT ak bK (aS fun r4 hr4 => (iD [.c (iC g.aI),.c (iC 1),.c (iC 8)] (O0 g.aI 1 8 r4 hr4) KD (vK y3) y5 ⟨Q,Q,y2,y2,J⟩ (aW (LT.not Q) Q Q Q (aH (Bv (!r4)) y4 (aT.split (fun hb5 => ?_) (fun hb5 => ?_)))))))
  ·refine aK hb5 y5 (aK hb5 y5 (aK hb5 y5 (aK hb5 y5 (dD (Bv true) hb5 aU (On (aV Q z2 z1))))))
  ·refine jd (xF aP g.aF) iO jC hb5 iJ (aW (LT.fG Q jE) Q (gH hb5 Q Q) Q (fB LT.gtr hb5 iT (dA (Bv (decide (24 < (g.aF.length:Int)))) hb5 y5 (On (aV Q z2 z1)))))
 ·refine aB.cond Q (fun hc6 => ?_) (fun hc6 => ?_)
  ·refine Ws (Wr ?_)
   refine aJ (Bv false) aZ (On (bT z1 J ⟨au.sc,J⟩ J))
  ·refine aB.skip (Ws (Ws (Wr ?_)))
   refine fC (xF aP g.aF) iO jC bK (aW (LT.fG Q jE) Q Q Q (aH (Iv 0) aZ (On (aB.block ?_))))
   refine aB.lD (id:=0) (Fb g) (fun s7 => ([(1,Cc (.pl 21 0)),(16,Cc (xF aP g.aF)),(17,Iv (g.aF.length:Int)),(18,Iv s7)],[(21,.row 26 [eY g])])) (fun Eu => ([],[])) (ja Tryz.prog Tryz.f75.results.toList [] [] (fun (t:Bool) => [.c (bC t)]) (fun (t:Bool) => [])) ?_ (aY.of z4 z1) Q (fun Eu _ => ?_) lK
   ·intro s7
    unfold Fb
    refine Ws (Wr ?_)
    refine af LT.lss y5 (On (Ws ?_))
    refine aB.cond Q (fun IV => ?_) (fun IV => ?_)
    ·refine aB.skip (Ws (aB.block (Ws (Wr ?_))))
     refine aH (Iv s7) y4 (aS fun jI QX => (bg (LT.bU (enc:=aP) Q qP QX fU) Q Q Q Q (aW (kJ Q lX je fU) Q Q Q (iF 23 [iC 0,iC 0] jh y6 (aJ (Iv s7) y4 (dZ (stA [iC jI.A,iC jI.B] Q Q je fU) Q Q Q Q Q (On (Ws ?_))))))))
     refine aB.eX (fun j49 => ([(1,Cc (.pl 21 0)),(16,Cc (xF aP g.aF)),(17,Iv (g.aF.length:Int)),(18,Iv s7),(54,Bv j49)],[(21,.row 26 [eY g])])) ?_ (fun j49 _ => ?_)
     ·refine en [(1,Cc (.pl 21 0)),(3,Iv s7),(4,Cc (.pl 23 0)),(16,Cc (xF aP g.aF)),(17,Iv (g.aF.length:Int)),(18,Iv s7)] [(21,.row 26 [eY g]),(23,.row 40 [[iC jI.A,iC jI.B]])] z6 z2 (aB.draw mixed (dh (iC jI.A) nS ak bK (dV LT.lss aU (ay (Bv (decide (jI.A < 0))) y4 (aQ.split (fun qo => ?_) (fun qo => ?_))))))
      ·refine bJ qo y3 (bJ qo y3 (bJ qo y3 (bJ qo y3 (bJ qo y3 (mP (Bv true) qo aU (ay (Bv true) y4 (bM y3 (bM y3 (bM y3 (bM y3 (bM y3 ?_)))))))))))
       refine mP (Bv true) Q aU (ay (Bv true) y4 (bM y3 (bM y3 (bM y3 (bM y3 (bM y3 (bM y3 (bM y3 (bM y3 (bM y3 (bM y3 ?_)))))))))))
       refine bM y3 (bM y3 (bM y3 (mP (Bv true) Q aU (dm (aV Q z5 z1)))))
      ·refine ql (iC jI.A) nS ak qo iJ (ql (iC jI.B) oZ ak qo iJ (oV LT.geq qo y6 (lm (Bv (decide (jI.B ≤ jI.A))) qo y5 (ay (Bv (decide (jI.B ≤ jI.A))) y4 (aQ.split (fun qp => ?_) (fun qp => ?_))))))
       ·refine bJ qp y3 (bJ qp y3 (bJ qp y3 (bJ qp y3 (bJ qp y3 (mP (Bv true) qp aU (ay (Bv true) y4 (bM y3 (bM y3 (bM y3 (bM y3 (bM y3 ?_)))))))))))
        refine bM y3 (bM y3 (bM y3 (bM y3 (bM y3 (bM y3 (bM y3 (bM y3 (mP (Bv true) Q aU (dm (aV Q z5 z1))))))))))
       ·refine ql (iC jI.B) oZ ak qp iJ (ql (iC g.aI) lT ak qp iJ (oV LT.geq qp y6 (lm (Bv (decide (g.aI ≤ jI.B))) qp y5 (ay (Bv (decide (g.aI ≤ jI.B))) y4 (aQ.split (fun pF => ?_) (fun pF => ?_))))))
        ·refine bJ pF y3 (bJ pF y3 (bJ pF y3 (bM y3 (bM y3 (bM y3 (bM y3 (bM y3 (bM y3 (bM y3 (bM y3 (bM y3 ?_)))))))))))
         refine bJ pF y3 (mP (Bv true) pF aU (dm (aV Q z5 z1)))
        ·refine kN (Iv s7) pF y5 (oV LT.gtr pF iT (kN (Bv (decide (0 < s7))) pF y5 (aQ.split (fun kS => ?_) (fun kS => ?_))))
         ·refine ql (xF aP g.aF) iO jC kS iJ (kN (Iv s7) kS y5 (oV LT.sub kS iT (aQ.bind fun x54 Ae => (bZ (LT.bU (enc:=aP) Q qP Ae fU) Q Q (gH kS Q Q) Q (ax (kJ Q lX je fU) Q (gH kS Q Q) Q (fM (bQ [iC jI.A,iC jI.B] Q lX je fU) Q Q (gH kS Q Q) Q (aQ.bind fun Aw ZV => (aQ.pure (dK [.agg [iC x54.A,iC x54.B],.agg [iC jI.A,iC jI.B]] (aPM x54 jI Aw ZV) aHR (Tj y4) J y3) z3 J (gH kS Q Q) Q (oV LT.gtr kS iT (bZ (LT.nY (v:=(Bv (decide (0 < Aw)))) Q kS) Q Q (gH pF Q Q) Q ?_))))))))))
          refine lm (Bv (decide (0 < Aw))) pF y5 (dm (aV Q z5 z1))
         ·refine bJ kS y3 (bJ kS y3 (bJ kS y3 (bJ kS y3 (bJ kS y3 (bJ kS y3 (bJ kS y3 (bJ kS y3 (bJ kS y3 (bZ (LT.oG (v:=(Bv false)) Q kS) Q y2 (gH pF Q Q) Q (lm (Bv false) pF y5 (dm ?_)))))))))))
          refine aV Q z5 z1
     ·refine aB.cond Q (fun Y1 => ?_) (fun Y1 => ?_)
      ·refine Ws (Wr ?_)
       refine aJ (Bv false) aZ (On (aB.ret ⟨Q,kz z1 J ⟨au.sc,J⟩ J⟩))
      ·refine aB.skip (aB.blk (Wr ?_))
       refine af LT.add aU (aH (Iv (aA (s7 + 1))) y4 (On (aV Q z4 z1)))
    ·refine eu y2 J J
   ·refine Ws (Wr ?_)
    refine aJ (Bv true) aZ (On (bT z1 J ⟨au.sc,J⟩ J))
theorem Xg (l:(List Int)):FT Tryz.prog (Bq l) 101 [.c (xF aC l)] [] (fun (t:(List Int)) => [.c (lo 0 t.length)]) (fun (t:(List Int)) => [(0,pR 3 aC t)]) [0]:=by
 refine FT.of [] Tryz.func101 Tryz.ntmps101 Q y2 ?_
 intro w0 U0 R0 g0
 unfold Bq
 refine Ws (Wr ?_)
 refine aJ (Cc (sC aX)) aZ (On (Ws (Wr ?_)))
 refine jo (gu 21 aC [] [] dO iL y7) Q Q (aH (Cc (xF aC l)) y4 (aS fun u1 hu1 => (dZ (LT.Cj (enc:=aC) Q  Q dO iL Q (by decide) (by decide) (fun _ => Q) (kU hu1)) Q Q Q Q Q (aJ (Cc (lo 21 ((([]:List Int) ++ l).length))) y4 (On (en [(2,Cc (lo 21 ((([]:List Int) ++ l).length)))] [(21,pR 3 aC (([]:List Int) ++ l))] z1 z1 (aB.ent (aY.mv 21 0 Q Q) (en [(2,Cc (lo 0 ((([]:List Int) ++ l).length)))] [(0,pR 3 aC (([]:List Int) ++ l))] z1 z1 (bT z1 z1 ⟨J,J⟩ ⟨cZ.fA gQ,J⟩)))))))))
theorem aO6 (x:bD) (v:Int):FT Tryz.prog (Qk x v) 168 [.agg [iC x.A,iC x.B],.c (iC v)] [] (fun (t:Int) => [.c (iC t)]) (fun (t:Int) => []) []:=by
 refine FT.of [] Tryz.func168 Tryz.ntmps168 Q y2 ?_
 intro w0 U0 R0 g0
 unfold Qk
 refine Ws (Wr ?_)
 refine gy 21 (.agg [iC x.A,iC x.B]) fU y5 (aJ (Iv 0) aZ (On (Ws (Ws (Wr ?_)))))
 refine fC (iC x.A) nS ak bK (aH (Iv v) y4 (af LT.eql y5 (On (aB.cond Q (fun hc1 => ?_) (fun hc1 => ?_)))))
 ·refine Ws (Wr ?_)
  refine fC (iC x.B) oZ ak bK (aJ (Iv x.B) y4 (On (bT z1 J ⟨au.sc,J⟩ J)))
 ·refine aB.skip (Ws (Wr ?_))
  refine fC (iC x.A) nS ak bK (aJ (Iv x.A) y4 (On (bT z1 J ⟨au.sc,J⟩ J)))
theorem aPO (g:bW):FT Tryz.prog (MI g) 85 [.agg (eY g)] [] (fun (t:bW) => [.agg [iC t.aI,lo 0 t.aF.length]]) (fun (t:bW) => [(0,pR 40 aP t.aF)]) [0]:=by
 refine FT.of [] Tryz.func85 Tryz.ntmps85 Q y2 ?_
 intro w0 U0 R0 g0
 unfold MI
 refine Ws (Wr ?_)
 refine gy 21 (.agg (eY g)) fD y5 (iF 22 [iC 0,sC aX] nK y6 (On (Ws (aB.draw mixed ?_))))
 refine dh (iC g.aI) lT ak bK (zB (gu 23 aP [] [] jE jh y7) Q Q (dh (xF aP g.aF) iO jC bK (aQ.bind fun u1 hu1 => (lQ (LT.Cj (enc:=aP) Q  Q jE jh Q (by decide) (by decide) (fun _ => Q) (kU hu1)) Q Q Q Q Q (bZ (LT.build [(0,.tmp 4,.c (iC g.aI)),(1,.tmp 8,.c (lo 23 ((([]:List bD) ++ g.aF).length)))] Q Q Ap nK Q Q Q) Q Q Q Q (lQ (stA [iC g.aI,lo 23 ((([]:List bD) ++ g.aF).length)] Q Q gW fD) Q Q Q Q Q (dm (en [(2,Cc (.pl 22 0))] [(22,.row 26 [[iC g.aI,lo 23 ((([]:List bD) ++ g.aF).length)]]),(23,pR 40 aP (([]:List bD) ++ g.aF))] z1 z2 (aB.ent (aY.mv 23 0 Q Q) ?_)))))))))
 refine en [(2,Cc (.pl 22 0))] [(0,pR 40 aP (([]:List bD) ++ g.aF)),(22,.row 26 [[iC g.aI,lo 0 ((([]:List bD) ++ g.aF).length)]])] z1 z2 (bT ⟨⟨_,_,_,Q,Q,Q,jq,fD,_,ji gW⟩,J⟩ z1 ⟨⟨au.sc,J,J⟩,J⟩ ⟨cZ.fA lF,J⟩)
theorem aPW (s:(List Int)) (v:Int):FT Tryz.prog (RG s v) 126 [.c (xF aC s),.c (iC v)] [] (fun (t:Int) => [.c (iC t)]) (fun (t:Int) => []) []:=by
 refine FT.of [] Tryz.func126 Tryz.ntmps126 Q y2 ?_
 intro w0 U0 R0 g0
 unfold RG
 refine Ws (Wr ?_)
 refine aJ (Iv 0) aZ (On (Ws (Ws (Wr ?_))))
 refine aH (Cc (xF aC s)) y4 (aW (LT.fG Q dO) Q Q Q (aH (Iv 0) aZ (On (aB.block ?_))))
 refine aB.lD (id:=0) (MZ s v) (fun s1 => ([(0,Cc (xF aC s)),(1,Iv v),(7,Iv (s.length:Int)),(8,Iv s1)],[])) (fun b8 => ([],[])) (ja Tryz.prog Tryz.f126.results.toList [] [] (fun (t:Int) => [.c (iC t)]) (fun (t:Int) => [])) ?_ (aY.of z4 J) Q (fun b8 _ => ?_) lK
 ·intro s1
  unfold MZ
  refine Ws (Wr ?_)
  refine af LT.lss y5 (On (Ws ?_))
  refine aB.cond Q (fun yT => ?_) (fun yT => ?_)
  ·refine aB.skip (Ws (aB.block (Ws (Wr ?_))))
   refine aH (Iv s1) y4 (aJ (Iv s1) y4 (On (Ws (Wr ?_))))
   refine aH (Iv v) y4 (aH (Cc (xF aC s)) y4 (aH (Iv s1) y4 (aS fun x10 KW => (bg (LT.bU (enc:=aC) Q dG KW dQ) Q Q Q Q (aW (LT.dJ Q ak) Q Q Q (af LT.eql y5 (On (aB.cond Q (fun sG => ?_) (fun sG => ?_)))))))))
   ·refine Ws (Wr ?_)
    refine aH (Iv s1) y4 (aJ (Iv s1) y4 (On (aB.ret ⟨Q,kz z1 J ⟨au.sc,J⟩ J⟩)))
   ·refine aB.skip (aB.blk (Wr ?_))
    refine af LT.add aU (aH (Iv (aA (s1 + 1))) y4 (On (aV Q z4 J)))
  ·refine eu y2 J J
 ·refine Ws (Wr ?_)
  refine aJ (Iv (-1)) aZ (On (bT z1 J ⟨au.sc,J⟩ J))
theorem aPV (s:(List Int)) (v:Int):FT Tryz.prog (RF s v) 76 [.c (xF aC s),.c (iC v)] [] (fun (t:Bool) => [.c (bC t)]) (fun (t:Bool) => []) []:=by
 refine FT.of [] Tryz.func76 Tryz.ntmps76 Q y2 ?_
 intro w0 U0 R0 g0
 unfold RF
 refine Ws (Wr ?_)
 refine aJ (Bv false) aZ (On (Ws (Wr ?_)))
 refine aH (Cc (xF aC s)) y4 (aH (Iv v) y4 (aS fun r1 hr1 => (iD [.c (xF aC s),.c (iC v)] (aPW s v r1 hr1) aHN (jv y2) y5 z3 (af LT.geq aU (aJ (Bv (decide (0 ≤ r1))) y4 (On (bT z1 J ⟨au.sc,J⟩ J)))))))
theorem aPx (b:bD) (v:Int):FT Tryz.prog (WE b v) 185 [.agg [iC b.A,iC b.B],.c (iC v)] [] (fun (t:Int) => [.c (iC t)]) (fun (t:Int) => []) []:=by
 refine FT.of [] Tryz.func185 Tryz.ntmps185 Q y2 ?_
 intro w0 U0 R0 g0
 unfold WE
 refine Ws (Wr ?_)
 refine gy 21 (.agg [iC b.A,iC b.B]) fU y5 (aJ (Iv 0) aZ (On (Ws (Wr ?_))))
 refine fC (iC b.A) nS ak bK (fC (iC b.B) oZ ak bK (af LT.add y5 (aH (Iv v) y4 (af LT.sub y5 (aJ (Iv (aA ((aA (b.A + b.B)) - v))) y4 (On (bT z1 J ⟨au.sc,J⟩ J)))))))
theorem aGR (l:(List Int)) (x:Int):FT Tryz.prog (Ny l x) 79 [.c (xF aC l),.c (iC x)] [] (fun (t:Bool) => [.c (bC t)]) (fun (t:Bool) => []) []:=by
 refine FT.of [] Tryz.func79 Tryz.ntmps79 Q y2 ?_
 intro w0 U0 R0 g0
 unfold Ny
 refine Ws (Wr ?_)
 refine aJ (Bv false) aZ (On (Ws (Ws (Wr ?_))))
 refine aJ (Iv 0) aZ (On (aB.block ?_))
 refine aB.lD (id:=0) (Nz l x) (fun s1 => ([(0,Cc (xF aC l)),(1,Iv x),(5,Iv s1)],[])) (fun b8 => ([],[])) (ja Tryz.prog Tryz.f79.results.toList [] [] (fun (t:Bool) => [.c (bC t)]) (fun (t:Bool) => [])) ?_ (aY.of z3 J) Q (fun b8 _ => ?_) lK
 ·intro s1
  unfold Nz
  refine Ws (Ws (Wr ?_))
  refine aH (Iv s1) y4 (aH (Cc (xF aC l)) y4 (aW (LT.fG Q dO) Q Q Q (af LT.lss y5 (On (aB.cond Q (fun yT => ?_) (fun yT => ?_))))))
  ·refine aB.skip (Ws (aB.block (Ws (Wr ?_))))
   refine aH (Cc (xF aC l)) y4 (aH (Iv s1) y4 (aS fun x10 KW => (bg (LT.bU (enc:=aC) Q dG KW dQ) Q Q Q Q (aW (LT.dJ Q ak) Q Q Q (aH (Iv x) y4 (af LT.eql y5 (On (aB.cond Q (fun sG => ?_) (fun sG => ?_)))))))))
   ·refine Ws (Wr ?_)
    refine aJ (Bv true) aZ (On (aB.ret ⟨Q,kz z1 J ⟨au.sc,J⟩ J⟩))
   ·refine aB.skip (aB.blk (Wr ?_))
    refine aH (Iv s1) y4 (af LT.add aU (aJ (Iv (aA (s1 + 1))) y4 (On (aV Q z3 J))))
  ·refine eu y2 J J
 ·refine Ws (Wr ?_)
  refine aJ (Bv false) aZ (On (bT z1 J ⟨au.sc,J⟩ J))
theorem Xh (a:(List Int)) (b:(List Int)):FT Tryz.prog (Bz a b) 10 [.c (xF aC a),.c (xF aC b)] [] (fun (t:Bool) => [.c (bC t)]) (fun (t:Bool) => []) []:=by
 refine FT.of [] Tryz.func10 Tryz.ntmps10 Q y2 ?_
 intro w0 U0 R0 g0
 unfold Bz
 refine Ws (Wr ?_)
 refine aJ (Bv false) aZ (On (Ws (Ws (Wr ?_))))
 refine aH (Cc (xF aC a)) y4 (aW (LT.fG Q dO) Q Q Q (aH (Cc (xF aC b)) y4 (aW (LT.fG Q dO) Q Q Q (af LT.neq y5 (On (aB.cond Q (fun hc1 => ?_) (fun hc1 => ?_)))))))
 ·refine Ws (Wr ?_)
  refine aJ (Bv false) aZ (On (bT z1 J ⟨au.sc,J⟩ J))
 ·refine aB.skip (Ws (Ws (Wr ?_)))
  refine aJ (Iv 0) aZ (On (aB.block ?_))
  refine aB.lD (id:=0) (EN a b) (fun s2 => ([(0,Cc (xF aC a)),(1,Cc (xF aC b)),(5,Iv s2)],[])) (fun b11 => ([],[])) (ja Tryz.prog Tryz.f10.results.toList [] [] (fun (t:Bool) => [.c (bC t)]) (fun (t:Bool) => [])) ?_ (aY.of z3 J) Q (fun b11 _ => ?_) lK
  ·intro s2
   unfold EN
   refine Ws (Ws (Wr ?_))
   refine aH (Iv s2) y4 (aH (Cc (xF aC a)) y4 (aW (LT.fG Q dO) Q Q Q (af LT.lss y5 (On (aB.cond Q (fun hc12 => ?_) (fun hc12 => ?_))))))
   ·refine aB.skip (Ws (aB.block (Ws (aB.draw mixed ?_))))
    refine ay (Cc (xF aC a)) y4 (ay (Iv s2) y4 (aQ.bind fun kZ wP => (bZ (LT.bU (enc:=aC) Q dG wP dQ) Q Q Q Q (ax (LT.dJ Q ak) Q Q Q (ay (Cc (xF aC b)) y4 (ay (Iv s2) y4 (aQ.bind fun x14 QN => (bZ (LT.bU (enc:=aC) Q dG QN dQ) Q Q Q Q (ax (LT.dJ Q ak) Q Q Q (dV LT.neq y5 (dm ?_)))))))))))
    refine aB.cond Q (fun D5 => ?_) (fun D5 => ?_)
    ·refine Ws (en [] [] J J (Wr (aJ (Bv false) aZ (On (aB.ret ⟨Q,kz z1 J ⟨au.sc,J⟩ J⟩)))))
    ·refine aB.skip (aB.blk ?_)
     refine en [(0,Cc (xF aC a)),(1,Cc (xF aC b)),(5,Iv s2)] [] z3 J (Wr (aH (Iv s2) y4 (af LT.add aU (aJ (Iv (aA (s2 + 1))) y4 (On (aV Q z3 J))))))
   ·refine eu y2 J J
  ·refine Ws (Wr ?_)
   refine aJ (Bv true) aZ (On (bT z1 J ⟨au.sc,J⟩ J))
theorem aPJ (g:bW) (keep:(List Int)):FT Tryz.prog (Lr g keep) 83 [.agg (eY g),.c (xF aC keep)] [] (fun (t:bW) => [.agg [iC t.aI,lo 0 t.aF.length]]) (fun (t:bW) => [(0,pR 40 aP t.aF)]) [0]:=by
 refine FT.of [] Tryz.func83 Tryz.ntmps83 Q y2 ?_
 intro w0 U0 R0 g0
 unfold Lr
 refine Ws (Wr ?_)
 refine gy 21 (.agg (eY g)) fD y5 (iF 22 [iC 0,sC aX] nK y6 (On (Ws (Wr ?_))))
 refine fC (iC g.aI) lT ak bK (aW (LT.build [(0,.tmp 9,.c (iC g.aI))] Q Q Ap nK Q Q Q) Q Q Q (iF 23 [iC 0,sC aX] nK y6 (dZ (stA [iC g.aI,sC aX] Q Q gW fD) Q Q Q Q Q (On (Ws (Ws ?_))))))
 refine en [(1,Cc (xF aC keep)),(2,Cc (.pl 21 0)),(4,Cc (.pl 22 0)),(5,Cc (.pl 23 0))] [(21,.row 26 [eY g]),(22,.row 26 [[iC 0,sC aX]]),(23,.row 26 [[iC g.aI,sC aX]])] z4 z3 (Wr (fC (xF aP g.aF) iO jC bK (aW (LT.fG Q jE) Q Q Q (aH (Iv 0) aZ (On (aB.block ?_))))))
 refine aB.ent (aY.Sl 23 1 28 40 Q Q Q Q) (aB.jM (id:=0) (Ls g keep) (fun s1 => ([(1,Cc (xF aC keep)),(4,Cc (.pl 22 0)),(5,Cc (.pl 23 0)),(12,Cc (xF aP g.aF)),(13,Iv (g.aF.length:Int)),(14,Iv s1.1)],[(22,.row 26 [[iC 0,sC aX]]),(23,.row 26 [[iC g.aI,lo 28 s1.2.length]]),(28,pR 40 aP s1.2)])) (fun b18 => ([(4,Cc (.pl 22 0)),(5,Cc (.pl 23 0))],[(22,.row 26 [[iC 0,sC aX]]),(23,.row 26 [[iC g.aI,lo 28 b18.length]]),(28,pR 40 aP b18)])) ?_ (aY.of z6 z3) Q (fun b18 _ => ?_))
 ·intro s1
  unfold Ls
  refine Ws (Wr ?_)
  refine af LT.lss y5 (On (Ws ?_))
  refine aB.cond Q (fun hc19 => ?_) (fun hc19 => ?_)
  ·refine aB.skip (Ws (aB.block (Ws (Wr ?_))))
   refine aH (Iv s1.1) y4 (aS fun x20 Ad => (bg (LT.bU (enc:=aP) Q qP Ad fU) Q Q Q Q (aW (kJ Q lX je fU) Q Q Q (iF 24 [iC 0,iC 0] jh y6 (aJ (Iv s1.1) y4 (dZ (stA [iC x20.A,iC x20.B] Q Q je fU) Q Q Q Q Q (On (Ws ?_))))))))
   refine en [(1,Cc (xF aC keep)),(4,Cc (.pl 22 0)),(5,Cc (.pl 23 0)),(6,Iv s1.1),(7,Cc (.pl 24 0)),(12,Cc (xF aP g.aF)),(13,Iv (g.aF.length:Int)),(14,Iv s1.1)] [(22,.row 26 [[iC 0,sC aX]]),(23,.row 26 [[iC g.aI,lo 28 s1.2.length]]),(24,.row 40 [[iC x20.A,iC x20.B]]),(28,pR 40 aP s1.2)] z8 z4 (Wr (aH (Cc (xF aC keep)) y4 (aH (Iv s1.1) y4 (aS fun Jc ZM => (iD [.c (xF aC keep),.c (iC s1.1)] (aPV keep s1.1 Jc ZM) aH2 (jv y2) y5 z3 (On (aB.eX (fun j24 => ([(1,Cc (xF aC keep)),(4,Cc (.pl 22 0)),(5,Cc (.pl 23 0)),(12,Cc (xF aP g.aF)),(13,Iv (g.aF.length:Int)),(14,Iv s1.1)],[(22,.row 26 [[iC 0,sC aX]]),(23,.row 26 [[iC g.aI,lo 28 j24.length]]),(28,pR 40 aP j24)])) ?_ (fun j24 _ => ?_))))))))
   ·refine aB.cond Q (fun hc25 => ?_) (fun hc25 => ?_)
    ·refine Wr (fC (lo 28 s1.2.length) iO jC bK (bV (bQ [iC x20.A,iC x20.B] Q lX je fU) Q Q Q Q (pV (gu 26 aP [(0,.tmp 24,.agg [iC x20.A,iC x20.B])] [x20] jE jh y7) Q Q Q (aS fun u26 Zc => (qM (LT.pK (enc:=aP) Q Q Q jE jh Q (by decide) (by decide) (fun _ => Q) (kU Zc)) Q Q Q Q Q Q (aW (LT.dR Q iO) Q Q Q (dZ (ve (.c (lo 28 ((s1.2 ++ [x20]).length))) [iC g.aI,lo 28 ((s1.2 ++ [x20]).length)] Q Q FM Gm) Q Q Q Q Q (On (aV Q z6 z3)))))))))
    ·refine aB.skip (aV Q z6 z3)
   ·refine aB.blk (Wr ?_)
    refine af LT.add aU (aH (Iv (aA (s1.1 + 1))) y4 (On (aV Q z6 z3)))
  ·refine eu y2 z2 z3
 ·refine Ws (Wr ?_)
  refine bV (bQ [iC g.aI,lo 28 b18.length] Q jq gW fD) Q Q Q Q (dZ (stA [iC g.aI,lo 28 b18.length] Q Q gW fD) Q Q Q Q Q (On (en [(4,Cc (.pl 22 0))] [(22,.row 26 [[iC g.aI,lo 28 b18.length]]),(28,pR 40 aP b18)] z1 z2 (aB.ent (aY.mv 28 0 Q Q) (en [(4,Cc (.pl 22 0))] [(0,pR 40 aP b18),(22,.row 26 [[iC g.aI,lo 0 b18.length]])] z1 z2 (bT ⟨⟨_,_,_,Q,Q,Q,jq,fD,_,ji gW⟩,J⟩ z1 ⟨⟨au.sc,J,J⟩,J⟩ ⟨cZ.fA lF,J⟩))))))
theorem aF5 (g:bW) (v:Int):FT Tryz.prog (La g v) 139 [.agg (eY g),.c (iC v)] [] (fun (t:Bool) => [.c (bC t)]) (fun (t:Bool) => []) []:=by
 refine FT.of [] Tryz.func139 Tryz.ntmps139 Q y2 ?_
 intro w0 U0 R0 g0
 unfold La
 refine Ws (Wr ?_)
 refine gy 21 (.agg (eY g)) fD y5 (aJ (Bv false) aZ (On (Ws (Wr ?_))))
 refine aH (Iv v) y4 (fC (iC g.aI) lT ak bK (af LT.sub aU (aS fun r1 hr1 => (iD [.c (iC v),.c (iC 0),.c (iC (aA (g.aI - 1)))] (O0 v 0 (aA (g.aI - 1)) r1 hr1) KD (vK y3) y5 ⟨Q,Q,y2,Q,J⟩ (aJ (Bv r1) y4 (On (bT z1 J ⟨au.sc,J⟩ J)))))))
theorem aPn (g:bW) (keep:(List Int)):FT Tryz.prog (Rx g keep) 95 [.agg (eY g),.c (xF aC keep)] [] (fun (t:bW) => [.agg [iC t.aI,lo 0 t.aF.length]]) (fun (t:bW) => [(0,pR 40 aP t.aF)]) [0]:=by
 refine FT.of [] Tryz.func95 Tryz.ntmps95 Q y2 ?_
 intro w0 U0 R0 g0
 unfold Rx
 refine Ws (Wr ?_)
 refine gy 21 (.agg (eY g)) fD y5 (iF 22 [iC 0,sC aX] nK y6 (On (Ws (Wr ?_))))
 refine fC (iC g.aI) lT ak bK (jo (gu 23 aP [] [] jE jh y7) Q Q (bg (LT.build [(0,.tmp 8,.c (iC g.aI)),(1,.tmp 9,.c (lo 23 (([]:List bD).length)))] Q Q Ap nK Q Q Q) Q Q Q Q (iF 24 [iC 0,sC aX] nK y6 (dZ (stA [iC g.aI,lo 23 (([]:List bD).length)] Q Q gW fD) Q Q Q Q Q (On (Ws (Ws ?_)))))))
 refine en [(1,Cc (xF aC keep)),(2,Cc (.pl 21 0)),(4,Cc (.pl 22 0)),(5,Cc (.pl 24 0))] [(21,.row 26 [eY g]),(22,.row 26 [[iC 0,sC aX]]),(23,pR 40 aP ([]:List bD)),(24,.row 26 [[iC g.aI,lo 23 (([]:List bD).length)]])] z4 z4 (Wr (aJ (Iv 0) aZ (On (aB.block ?_))))
 refine aB.jM (id:=0) (NS g keep) (fun s1 => ([(1,Cc (xF aC keep)),(2,Cc (.pl 21 0)),(4,Cc (.pl 22 0)),(5,Cc (.pl 24 0)),(6,Iv s1.1)],[(21,.row 26 [eY g]),(22,.row 26 [[iC 0,sC aX]]),(23,pR 40 aP s1.2),(24,.row 26 [[iC g.aI,lo 23 s1.2.length]])])) (fun b20 => ([(4,Cc (.pl 22 0)),(5,Cc (.pl 24 0))],[(22,.row 26 [[iC 0,sC aX]]),(23,pR 40 aP b20),(24,.row 26 [[iC g.aI,lo 23 b20.length]])])) ?_ (aY.of z5 z4) Q (fun b20 _ => ?_)
 ·intro s1
  unfold NS
  refine Ws (Ws (Wr ?_))
  refine aH (Iv s1.1) y4 (fC (xF aP g.aF) iO jC bK (aW (LT.fG Q jE) Q Q Q (af LT.lss y5 (On (aB.cond Q (fun hc21 => ?_) (fun hc21 => ?_))))))
  ·refine aB.skip (Ws (aB.block (Ws (Wr ?_))))
   refine aH (Cc (xF aC keep)) y4 (aH (Iv s1.1) y4 (aS fun r22 QE => (iD [.c (xF aC keep),.c (iC s1.1)] (aGR keep s1.1 r22 QE) aCU (jv y2) y5 z3 (On (aB.eX (fun j26 => ([(1,Cc (xF aC keep)),(2,Cc (.pl 21 0)),(4,Cc (.pl 22 0)),(5,Cc (.pl 24 0)),(6,Iv s1.1)],[(21,.row 26 [eY g]),(22,.row 26 [[iC 0,sC aX]]),(23,pR 40 aP j26),(24,.row 26 [[iC g.aI,lo 23 j26.length]])])) ?_ (fun j26 _ => ?_))))))
   ·refine aB.cond Q (fun hc27 => ?_) (fun hc27 => ?_)
    ·refine aB.draw mixed (dh (lo 23 s1.2.length) iO jC bK (dh (xF aP g.aF) iO jC bK (ay (Iv s1.1) y4 (aQ.bind fun x28 hx28 => (bZ (LT.bU (enc:=aP) Q qP hx28 fU) Q Q Q Q (ax (kJ Q lX je fU) Q Q Q (G5 (gu 26 aP [(0,.tmp 27,.agg [iC x28.A,iC x28.B])] [x28] jE jh y7) Q Q Q (aQ.bind fun u29 aLZ => (Jz (LT.pK (enc:=aP) Q Q Q jE jh Q (by decide) (by decide) (fun _ => Q) (kU aLZ)) Q Q Q Q Q Q ?_)))))))))
     refine ax (LT.dR Q iO) Q Q Q (lQ (ve (.c (lo 23 ((s1.2 ++ [x28]).length))) [iC g.aI,lo 23 ((s1.2 ++ [x28]).length)] Q Q FM Gm) Q Q Q Q Q (dm (aV Q z5 z4)))
    ·refine aB.skip (aV Q z5 z4)
   ·refine aB.blk (Wr ?_)
    refine aH (Iv s1.1) y4 (af LT.add aU (aJ (Iv (aA (s1.1 + 1))) y4 (On (aV Q z5 z4))))
  ·refine eu y2 z2 z3
 ·refine Ws (Wr ?_)
  refine bV (bQ [iC g.aI,lo 23 b20.length] Q jq gW fD) Q Q Q Q (dZ (stA [iC g.aI,lo 23 b20.length] Q Q gW fD) Q Q Q Q Q (On (en [(4,Cc (.pl 22 0))] [(22,.row 26 [[iC g.aI,lo 23 b20.length]]),(23,pR 40 aP b20)] z1 z2 (aB.ent (aY.mv 23 0 Q Q) (en [(4,Cc (.pl 22 0))] [(0,pR 40 aP b20),(22,.row 26 [[iC g.aI,lo 0 b20.length]])] z1 z2 (bT ⟨⟨_,_,_,Q,Q,Q,jq,fD,_,ji gW⟩,J⟩ z1 ⟨⟨au.sc,J,J⟩,J⟩ ⟨cZ.fA lF,J⟩))))))
theorem aGQ (g:bW):FT Tryz.prog (Nw g) 88 [.agg (eY g)] [] (fun (t:bW) => [.agg [iC t.aI,lo 0 t.aF.length]]) (fun (t:bW) => [(0,pR 40 aP t.aF)]) [0]:=by
 refine FT.of [] Tryz.func88 Tryz.ntmps88 Q y2 ?_
 intro w0 U0 R0 g0
 unfold Nw
 refine Ws (Wr ?_)
 refine gy 21 (.agg (eY g)) fD y5 (iF 22 [iC 0,sC aX] nK y6 (On (Ws (aB.draw mixed ?_))))
 refine dh (iC g.aI) lT ak bK (zB (gu 23 aP [] [] jE jh y7) Q Q (dh (xF aP g.aF) iO jC bK (aQ.bind fun u1 hu1 => (lQ (LT.Cj (enc:=aP) Q  Q jE jh Q (by decide) (by decide) (fun _ => Q) (kU hu1)) Q Q Q Q Q (bZ (LT.build [(0,.tmp 4,.c (iC g.aI)),(1,.tmp 8,.c (lo 23 ((([]:List bD) ++ g.aF).length)))] Q Q Ap nK Q Q Q) Q Q Q Q (lQ (stA [iC g.aI,lo 23 ((([]:List bD) ++ g.aF).length)] Q Q gW fD) Q Q Q Q Q (dm (en [(2,Cc (.pl 22 0))] [(22,.row 26 [[iC g.aI,lo 23 ((([]:List bD) ++ g.aF).length)]]),(23,pR 40 aP (([]:List bD) ++ g.aF))] z1 z2 (aB.ent (aY.mv 23 0 Q Q) ?_)))))))))
 refine en [(2,Cc (.pl 22 0))] [(0,pR 40 aP (([]:List bD) ++ g.aF)),(22,.row 26 [[iC g.aI,lo 0 ((([]:List bD) ++ g.aF).length)]])] z1 z2 (bT ⟨⟨_,_,_,Q,Q,Q,jq,fD,_,ji gW⟩,J⟩ z1 ⟨⟨au.sc,J,J⟩,J⟩ ⟨cZ.fA lF,J⟩)
theorem Jo (g:bW) (x:bD):FT Tryz.prog (Aj g x) 90 [.agg (eY g),.agg [iC x.A,iC x.B]] [] (fun (t:bW) => [.agg [iC t.aI,lo 0 t.aF.length]]) (fun (t:bW) => [(0,pR 40 aP t.aF)]) [0]:=by
 refine FT.of [] Tryz.func90 Tryz.ntmps90 Q y2 ?_
 intro w0 U0 R0 g0
 unfold Aj
 refine Ws (Wr ?_)
 refine gy 21 (.agg (eY g)) fD y5 (gy 22 (.agg [iC x.A,iC x.B]) fU y5 (iF 23 [iC 0,sC aX] nK y6 (On (Ws (Wr ?_)))))
 refine fC (iC g.aI) lT ak bK (jo (gu 24 aP [] [] jE jh y7) Q Q (bg (LT.build [(0,.tmp 9,.c (iC g.aI)),(1,.tmp 10,.c (lo 24 (([]:List bD).length)))] Q Q Ap nK Q Q Q) Q Q Q Q (iF 25 [iC 0,sC aX] nK y6 (dZ (stA [iC g.aI,lo 24 (([]:List bD).length)] Q Q gW fD) Q Q Q Q Q (On (Ws ?_))))))
 refine en [(2,Cc (.pl 21 0)),(3,Cc (.pl 22 0)),(4,Cc (.pl 23 0)),(5,Cc (.pl 25 0))] [(21,.row 26 [eY g]),(22,.row 40 [[iC x.A,iC x.B]]),(23,.row 26 [[iC 0,sC aX]]),(24,pR 40 aP ([]:List bD)),(25,.row 26 [[iC g.aI,lo 24 (([]:List bD).length)]])] z4 z5 (Wr (aJ (Bv false) aZ (On (Ws (Ws (Wr ?_))))))
 refine aJ (Iv 0) aZ (On (aB.block ?_))
 refine aB.jM (id:=0) (EQ g x) (fun s1 => ([(2,Cc (.pl 21 0)),(3,Cc (.pl 22 0)),(4,Cc (.pl 23 0)),(5,Cc (.pl 25 0)),(6,Bv s1.1),(7,Iv s1.2.1)],[(21,.row 26 [eY g]),(22,.row 40 [[iC x.A,iC x.B]]),(23,.row 26 [[iC 0,sC aX]]),(24,pR 40 aP s1.2.2),(25,.row 26 [[iC g.aI,lo 24 s1.2.2.length]])])) (fun yC => ([(3,Cc (.pl 22 0)),(4,Cc (.pl 23 0)),(5,Cc (.pl 25 0)),(6,Bv yC.1)],[(22,.row 40 [[iC x.A,iC x.B]]),(23,.row 26 [[iC 0,sC aX]]),(24,pR 40 aP yC.2),(25,.row 26 [[iC g.aI,lo 24 yC.2.length]])])) ?_ (aY.of z6 z5) Q (fun yC _ => ?_)
 ·intro s1
  unfold EQ
  refine Ws (Ws (Wr ?_))
  refine aH (Iv s1.2.1) y4 (fC (xF aP g.aF) iO jC bK (aW (LT.fG Q jE) Q Q Q (af LT.lss y5 (On (aB.cond Q (fun Pz => ?_) (fun Pz => ?_))))))
  ·refine aB.skip (Ws (aB.block (Ws (Ws ?_))))
   refine aB.eX (fun j34 => ([(2,Cc (.pl 21 0)),(3,Cc (.pl 22 0)),(4,Cc (.pl 23 0)),(5,Cc (.pl 25 0)),(6,Bv s1.1),(7,Iv s1.2.1),(30,Bv j34)],[(21,.row 26 [eY g]),(22,.row 40 [[iC x.A,iC x.B]]),(23,.row 26 [[iC 0,sC aX]]),(24,pR 40 aP s1.2.2),(25,.row 26 [[iC g.aI,lo 24 s1.2.2.length]])])) ?_ (fun j34 _ => ?_)
   ·refine aB.draw mixed (ay (Bv s1.1) y4 (ax (LT.not Q) Q Q Q (ay (Bv (!s1.1)) y4 (aQ.split (fun pW => ?_) (fun pW => ?_)))))
    ·refine ql (xF aP g.aF) iO jC pW iJ (kN (Iv s1.2.1) pW y5 (aQ.bind fun UI aMF => (bZ (LT.bU (enc:=aP) Q qP aMF fU) Q Q (gH pW Q Q) Q (ax (kJ Q lX je fU) Q (gH pW Q Q) Q (fM (bQ [iC x.A,iC x.B] Q lX je fU) Q Q (gH pW Q Q) Q (aQ.bind fun Wu aKq => (aQ.pure (dK [.agg [iC UI.A,iC UI.B],.agg [iC x.A,iC x.B]] (aGP UI x Wu aKq) aCV (Tj y4) J y3) z3 J (gH pW Q Q) Q (ax (LT.not Q) Q (gH pW Q Q) Q (mP (Bv (!Wu)) pW y5 (dm ?_))))))))))
     refine aV Q z7 z5
    ·refine bJ pW y3 (bJ pW y3 (bJ pW y3 (bJ pW y3 (bJ pW y3 (bJ pW y3 (bJ pW y3 (bJ pW y3 (lm (Bv false) pW aU (dm (aV Q z7 z5))))))))))
   ·refine aB.eX (fun j40 => ([(2,Cc (.pl 21 0)),(3,Cc (.pl 22 0)),(4,Cc (.pl 23 0)),(5,Cc (.pl 25 0)),(6,Bv j40.1),(7,Iv s1.2.1)],[(21,.row 26 [eY g]),(22,.row 40 [[iC x.A,iC x.B]]),(23,.row 26 [[iC 0,sC aX]]),(24,pR 40 aP j40.2),(25,.row 26 [[iC g.aI,lo 24 j40.2.length]])])) ?_ (fun j40 _ => ?_)
    ·refine aB.cond Q (fun IV => ?_) (fun IV => ?_)
     ·refine Ws (Wr ?_)
      refine fC (lo 24 s1.2.2.length) iO jC bK (bV (bQ [iC x.A,iC x.B] Q lX je fU) Q Q Q Q (pV (gu 27 aP [(0,.tmp 33,.agg [iC x.A,iC x.B])] [x] jE jh y7) Q Q Q (aS fun u42 aLb => (qM (LT.pK (enc:=aP) Q Q Q jE jh Q (by decide) (by decide) (fun _ => Q) (kU aLb)) Q Q Q Q Q Q (aW (LT.dR Q iO) Q Q Q (dZ (ve (.c (lo 24 ((s1.2.2 ++ [x]).length))) [iC g.aI,lo 24 ((s1.2.2 ++ [x]).length)] Q Q FM Gm) Q Q Q Q Q (On (en [(2,Cc (.pl 21 0)),(3,Cc (.pl 22 0)),(4,Cc (.pl 23 0)),(5,Cc (.pl 25 0)),(7,Iv s1.2.1)] [(21,.row 26 [eY g]),(22,.row 40 [[iC x.A,iC x.B]]),(23,.row 26 [[iC 0,sC aX]]),(24,pR 40 aP (s1.2.2 ++ [x])),(25,.row 26 [[iC g.aI,lo 24 ((s1.2.2 ++ [x]).length)]])] z5 z5 (Wr (aJ (Bv true) aZ ?_))))))))))
      refine On (aV Q z6 z5)
     ·refine aB.skip (aV Q z6 z5)
    ·refine aB.draw mixed (dh (lo 24 j40.2.length) iO jC bK (dh (xF aP g.aF) iO jC bK (ay (Iv s1.2.1) y4 (aQ.bind fun x43 Ko => (bZ (LT.bU (enc:=aP) Q qP Ko fU) Q Q Q Q (ax (kJ Q lX je fU) Q Q Q (G5 (gu 28 aP [(0,.tmp 43,.agg [iC x43.A,iC x43.B])] [x43] jE jh y7) Q Q Q (aQ.bind fun u44 QJ => (Jz (LT.pK (enc:=aP) Q Q Q jE jh Q (by decide) (by decide) (fun _ => Q) (kU QJ)) Q Q Q Q Q Q ?_)))))))))
     refine ax (LT.dR Q iO) Q Q Q (lQ (ve (.c (lo 24 ((j40.2 ++ [x43]).length))) [iC g.aI,lo 24 ((j40.2 ++ [x43]).length)] Q Q FM Gm) Q Q Q Q Q (dm (aB.blk (en [(2,Cc (.pl 21 0)),(3,Cc (.pl 22 0)),(4,Cc (.pl 23 0)),(5,Cc (.pl 25 0)),(6,Bv j40.1),(7,Iv s1.2.1)] [(21,.row 26 [eY g]),(22,.row 40 [[iC x.A,iC x.B]]),(23,.row 26 [[iC 0,sC aX]]),(24,pR 40 aP (j40.2 ++ [x43])),(25,.row 26 [[iC g.aI,lo 24 ((j40.2 ++ [x43]).length)]])] z6 z5 (Wr (aH (Iv s1.2.1) y4 (af LT.add aU (aJ (Iv (aA (s1.2.1 + 1))) y4 (On (aV Q z6 z5))))))))))
  ·refine eu y2 z4 z4
 ·refine Ws (Ws (Wr ?_))
  refine aH (Bv yC.1) y4 (aW (LT.not Q) Q Q Q (On (aB.eX (fun j47 => ([(4,Cc (.pl 23 0)),(5,Cc (.pl 25 0))],[(23,.row 26 [[iC 0,sC aX]]),(24,pR 40 aP j47),(25,.row 26 [[iC g.aI,lo 24 j47.length]])])) ?_ (fun j47 _ => ?_))))
  ·refine aB.cond Q (fun IW => ?_) (fun IW => ?_)
   ·refine Wr (fC (lo 24 yC.2.length) iO jC bK (bV (bQ [iC x.A,iC x.B] Q lX je fU) Q Q Q Q (pV (gu 29 aP [(0,.tmp 51,.agg [iC x.A,iC x.B])] [x] jE jh y7) Q Q Q (aS fun u49 aLc => (qM (LT.pK (enc:=aP) Q Q Q jE jh Q (by decide) (by decide) (fun _ => Q) (kU aLc)) Q Q Q Q Q Q (aW (LT.dR Q iO) Q Q Q (dZ (ve (.c (lo 24 ((yC.2 ++ [x]).length))) [iC g.aI,lo 24 ((yC.2 ++ [x]).length)] Q Q FM Gm) Q Q Q Q Q (On (aV Q z2 z3)))))))))
   ·refine aB.skip (aV Q z2 z3)
  ·refine Ws (Wr ?_)
   refine bV (bQ [iC g.aI,lo 24 j47.length] Q jq gW fD) Q Q Q Q (dZ (stA [iC g.aI,lo 24 j47.length] Q Q gW fD) Q Q Q Q Q (On (en [(4,Cc (.pl 23 0))] [(23,.row 26 [[iC g.aI,lo 24 j47.length]]),(24,pR 40 aP j47)] z1 z2 (aB.ent (aY.mv 24 0 Q Q) (en [(4,Cc (.pl 23 0))] [(0,pR 40 aP j47),(23,.row 26 [[iC g.aI,lo 0 j47.length]])] z1 z2 (bT ⟨⟨_,_,_,Q,Q,Q,jq,fD,_,ji gW⟩,J⟩ z1 ⟨⟨au.sc,J,J⟩,J⟩ ⟨cZ.fA lF,J⟩))))))
theorem aPX (g:bW) (a:Int) (b:Int):FT Tryz.prog (RH g a b) 22 [.agg (eY g),.c (iC a),.c (iC b)] [] (fun (t:(bW × Bool)) => [.agg [iC t.1.aI,lo 0 t.1.aF.length],.c (bC t.2)]) (fun (t:(bW × Bool)) => [(0,pR 40 aP t.1.aF)]) [0]:=by
 refine FT.of [] Tryz.func22 Tryz.ntmps22 Q y2 ?_
 intro w0 U0 R0 g0
 unfold RH
 refine Ws (Wr ?_)
 refine gy 21 (.agg (eY g)) fD y5 (iF 22 [iC 0,sC aX] nK y6 (aJ (Bv false) aZ (On (Ws (Ws ?_)))))
 refine aB.eX (fun j8 => ([(1,Iv a),(2,Iv b),(3,Cc (.pl 21 0)),(6,Cc (.pl 22 0)),(41,Bv j8)],[(21,.row 26 [eY g]),(22,.row 26 [[iC 0,sC aX]])])) ?_ (fun j8 _ => ?_)
 ·refine Wr (bV (bQ (eY g) Q jq gW fD) Q Q Q Q (aS fun r9 ED => (iD [.agg (eY g)] (aBF g r9 ED) X9 (Gf y2) y5 z2 (aW (LT.not Q) Q Q Q (aH (Bv (!r9)) y4 (aT.split (fun mX => ?_) (fun mX => ?_)))))))
  ·refine aK mX y5 (aK mX y5 (dD (Bv true) mX aU (aH (Bv true) y4 (bF y5 (bF y5 (dD (Bv true) Q aU (aH (Bv true) y4 (bF y5 (bF y5 (bF y5 (bF y5 ?_)))))))))))
   refine dD (Bv true) Q aU (aH (Bv true) y4 (bF y5 (bF y5 (bF y5 (bF y5 (dD (Bv true) Q aU (aH (Bv true) y4 (bF y5 (bF y5 (bF y5 (dD (Bv true) Q aU ?_)))))))))))
   refine aH (Bv true) y4 (bF y5 (bF y5 (bF y5 (bF y5 (dD (Bv true) Q aU (On (aV Q z5 z2)))))))
  ·refine dB (Iv a) mX y5 (fB LT.lss mX iT (dA (Bv (decide (a < 0))) mX y5 (aH (Bv (decide (a < 0))) y4 (aT.split (fun sU => ?_) (fun sU => ?_)))))
   ·refine aK sU y5 (aK sU y5 (dD (Bv true) sU aU (aH (Bv true) y4 (bF y5 (bF y5 (bF y5 (bF y5 (dD (Bv true) Q aU (aH (Bv true) y4 (bF y5 (bF y5 ?_)))))))))))
    refine bF y5 (bF y5 (dD (Bv true) Q aU (aH (Bv true) y4 (bF y5 (bF y5 (bF y5 (dD (Bv true) Q aU (aH (Bv true) y4 (bF y5 (bF y5 (bF y5 ?_)))))))))))
    refine bF y5 (dD (Bv true) Q aU (On (aV Q z5 z2)))
   ·refine dB (Iv b) sU y5 (fB LT.lss sU iT (dA (Bv (decide (b < 0))) sU y5 (aH (Bv (decide (b < 0))) y4 (aT.split (fun BU => ?_) (fun BU => ?_)))))
    ·refine aK BU y5 (aK BU y5 (aK BU y5 (aK BU y5 (dD (Bv true) BU aU (aH (Bv true) y4 (bF y5 (bF y5 (bF y5 (bF y5 (dD (Bv true) Q aU (aH (Bv true) y4 ?_)))))))))))
     refine bF y5 (bF y5 (bF y5 (dD (Bv true) Q aU (aH (Bv true) y4 (bF y5 (bF y5 (bF y5 (bF y5 (dD (Bv true) Q aU (On (aV Q z5 z2)))))))))))
    ·refine dB (Iv a) BU y5 (jd (iC g.aI) lT ak BU iJ (fB LT.geq BU y6 (dA (Bv (decide (g.aI ≤ a))) BU y5 (aH (Bv (decide (g.aI ≤ a))) y4 (aT.split (fun BV => ?_) (fun BV => ?_))))))
     ·refine aK BV y5 (aK BV y5 (aK BV y5 (aK BV y5 (dD (Bv true) BV aU (aH (Bv true) y4 (bF y5 (bF y5 (bF y5 (dD (Bv true) Q aU (aH (Bv true) y4 (bF y5 ?_)))))))))))
      refine bF y5 (bF y5 (bF y5 (dD (Bv true) Q aU (On (aV Q z5 z2)))))
     ·refine dB (Iv b) BV y5 (jd (iC g.aI) lT ak BV iJ (fB LT.geq BV y6 (dA (Bv (decide (g.aI ≤ b))) BV y5 (aH (Bv (decide (g.aI ≤ b))) y4 (aT.split (fun Dw => ?_) (fun Dw => ?_))))))
      ·refine aK Dw y5 (aK Dw y5 (aK Dw y5 (dD (Bv true) Dw aU (aH (Bv true) y4 (bF y5 (bF y5 (bF y5 (bF y5 (dD (Bv true) Q aU (On (aV Q z5 z2)))))))))))
      ·refine dB (Iv a) Dw y5 (dB (Iv b) Dw y5 (fB LT.eql Dw y6 (dA (Bv (a == b)) Dw y5 (aH (Bv (a == b)) y4 (aT.split (fun uO => ?_) (fun uO => ?_))))))
       ·refine aK uO y5 (aK uO y5 (aK uO y5 (aK uO y5 (dD (Bv true) uO aU (On (aV Q z5 z2))))))
       ·refine jd (xF aP g.aF) iO jC uO iJ (aW (LT.fG Q jE) Q (gH uO Q Q) Q (fB LT.geq uO iT (dA (Bv (decide (24 ≤ (g.aF.length:Int)))) uO y5 (On (aV Q z5 z2)))))
 ·refine aB.cond Q (fun hc16 => ?_) (fun hc16 => ?_)
  ·refine Ws (Wr ?_)
   refine bV (bQ (eY g) Q jq gW fD) Q Q Q Q (aS fun Au aKg => (aT.step (dK [.agg (eY g)] (Fw.Fn.ren [(0,25)] (aGQ g Au aKg) Q) aCW (Gf y2) J y3) z2 J Q Q (dZ (stA [iC Au.aI,lo 25 Au.aF.length] Q Q gW fD) Q Q Q Q Q (aJ (Bv false) aZ (On (en [(6,Cc (.pl 22 0)),(7,Bv false)] [(22,.row 26 [[iC Au.aI,lo 25 Au.aF.length]]),(25,pR 40 aP Au.aF)] z2 z2 (aB.ent (aY.mv 25 0 Q Q) (en [(6,Cc (.pl 22 0)),(7,Bv false)] [(0,pR 40 aP Au.aF),(22,.row 26 [[iC Au.aI,lo 0 Au.aF.length]])] z2 z2 (bT ⟨⟨_,_,_,Q,Q,Q,jq,fD,_,ji gW⟩,Q,J⟩ z1 ⟨⟨au.sc,J,J⟩,au.sc,J⟩ ⟨cZ.fA lF,J⟩)))))))))
  ·refine aB.skip (Ws (Wr ?_))
   refine bV (bQ (eY g) Q jq gW fD) Q Q Q Q (aH (Iv a) y4 (aH (Iv b) y4 (af LT.min y5 (aH (Iv a) y4 (aH (Iv b) y4 (af LT.max y5 (bg (LT.build [(0,.tmp 47,.c (iC (if b < a then b else a))),(1,.tmp 50,.c (iC (if a < b then b else a)))] Q Q ES jh Q Q Q) Q Q Q Q (aS fun jk Aa => (aT.step (dK [.agg (eY g),.agg [iC (if b < a then b else a),iC (if a < b then b else a)]] (Fw.Fn.ren [(0,27)] (Jo g (bD.mk (if b < a then b else a) (if a < b then b else a)) jk Aa) Q) Hq (Tj y4) J y3) z3 J Q Q (dZ (stA [iC jk.aI,lo 27 jk.aF.length] Q Q gW fD) Q Q Q Q Q (aJ (Bv true) aZ ?_)))))))))))
   refine On (en [(6,Cc (.pl 22 0)),(7,Bv true)] [(22,.row 26 [[iC jk.aI,lo 27 jk.aF.length]]),(27,pR 40 aP jk.aF)] z2 z2 (aB.ent (aY.mv 27 0 Q Q) (en [(6,Cc (.pl 22 0)),(7,Bv true)] [(0,pR 40 aP jk.aF),(22,.row 26 [[iC jk.aI,lo 0 jk.aF.length]])] z2 z2 (bT ⟨⟨_,_,_,Q,Q,Q,jq,fD,_,ji gW⟩,Q,J⟩ z1 ⟨⟨au.sc,J,J⟩,au.sc,J⟩ ⟨cZ.fA lF,J⟩))))
theorem aGO (c:dW) (list:(List Int)):FT Tryz.prog (Nv c list) 135 [.c (.pl 0 0),.c (xF aC list)] [(0,.row 105 [iw c])] (fun (t:(Int × dW)) => [.c (iC t.1)]) (fun (t:(Int × dW)) => [(0,.row 105 [iw t.2])]) []:=by
 refine FT.of [0] Tryz.func135 Tryz.ntmps135 Q y2 ?_
 intro w0 U0 R0 g0
 unfold Nv
 refine Ws (Wr ?_)
 refine aJ (Iv 0) aZ (On (Ws (Wr ?_)))
 refine aH (Cc (xF aC list)) y4 (aH (Cc (.pl 0 0)) y4 (aH (Cc (xF aC list)) y4 (aW (LT.fG Q dO) Q Q Q (aS fun r1 hr1 => (aT.step (dK [.c (.pl 0 0),.c (iC (list.length:Int))] (Fw.Fn.ren [(0,0)] (rV c (list.length:Int) r1 hr1) Q) rM (jv y2) z1 y3) z3 z1 Q Q (aS fun x2 hx2 => (bg (LT.bU (enc:=aC) Q dG hx2 dQ) Q Q Q Q (aW (LT.dJ Q ak) Q Q Q (aJ (Iv x2) y4 (On (bT z1 z1 ⟨au.sc,J⟩ ⟨cZ.nP ⟨iY tH,au.sc,au.sc,J⟩,J⟩)))))))))))
theorem Jm (c:dW) (n:Int):FT Tryz.prog (Ai c n) 147 [.c (.pl 0 0),.c (iC n)] [(0,.row 105 [iw c])] (fun (t:(Bool × dW)) => [.c (bC t.1)]) (fun (t:(Bool × dW)) => [(0,.row 105 [iw t.2])]) []:=by
 refine FT.of [0] Tryz.func147 Tryz.ntmps147 Q y2 ?_
 intro w0 U0 R0 g0
 unfold Ai
 refine Ws (Wr ?_)
 refine aJ (Bv false) aZ (On (Ws (Wr ?_)))
 refine aH (Cc (.pl 0 0)) y4 (aH (Iv n) y4 (aS fun r1 hr1 => (aT.step (dK [.c (.pl 0 0),.c (iC n)] (Fw.Fn.ren [(0,0)] (rV c n r1 hr1) Q) rM (jv y2) z1 y3) z3 z1 Q Q (af LT.eql aU (aJ (Bv (r1.1 == 0)) y4 (On (bT z1 z1 ⟨au.sc,J⟩ ⟨cZ.nP ⟨iY tH,au.sc,au.sc,J⟩,J⟩)))))))
theorem aPy (c:dW) (n:Int) (x:bD) (other:Int):FT Tryz.prog (SQ c n x other) 170 [.c (.pl 0 0),.c (iC n),.agg [iC x.A,iC x.B],.c (iC other)] [(0,.row 105 [iw c])] (fun (t:(Int × dW)) => [.c (iC t.1)]) (fun (t:(Int × dW)) => [(0,.row 105 [iw t.2])]) []:=by
 refine FT.of [0] Tryz.func170 Tryz.ntmps170 Q y2 ?_
 intro w0 U0 R0 g0
 unfold SQ
 refine Ws (Wr ?_)
 refine gy 21 (.agg [iC x.A,iC x.B]) fU y5 (aJ (Iv 0) aZ (On (Ws (Wr ?_))))
 refine aH (Cc (.pl 0 0)) y4 (aH (Iv n) y4 (aS fun r1 hr1 => (aT.step (dK [.c (.pl 0 0),.c (iC n)] (Fw.Fn.ren [(0,0)] (rV c n r1 hr1) Q) rM (jv y2) z1 y3) z3 z1 Q Q (aJ (Iv r1.1) y4 (On (Ws (Ws ?_)))))))
 refine aB.eX (fun j3 => ([(3,Iv other),(9,Iv r1.1),(22,Bv j3)],[(0,.row 105 [iw r1.2])])) ?_ (fun j3 _ => ?_)
 ·refine Wr (aH (Iv r1.1) y4 (fC (iC x.A) nS ak bK (af LT.eql y5 (aH (Bv (r1.1 == x.A)) y4 (aT.split (fun hb4 => ?_) (fun hb4 => ?_))))))
  ·refine aK hb4 y5 (aK hb4 y5 (aK hb4 y5 (aK hb4 y5 (dD (Bv true) hb4 aU (On (aV Q z3 z1))))))
  ·refine dB (Iv r1.1) hb4 y5 (jd (iC x.B) oZ ak hb4 iJ (fB LT.eql hb4 y6 (dA (Bv (r1.1 == x.B)) hb4 y5 (On (aV Q z3 z1)))))
 ·refine aB.cond Q (fun hc5 => ?_) (fun hc5 => ?_)
  ·refine Ws (Wr ?_)
   refine aH (Iv other) y4 (aJ (Iv other) y4 (On (bT z1 z1 ⟨au.sc,J⟩ ⟨cZ.nP ⟨iY tH,au.sc,au.sc,J⟩,J⟩)))
  ·refine aB.skip (Ws (Wr ?_))
   refine aH (Iv r1.1) y4 (aJ (Iv r1.1) y4 (On (bT z1 z1 ⟨au.sc,J⟩ ⟨cZ.nP ⟨iY tH,au.sc,au.sc,J⟩,J⟩)))
theorem aGJ (g:bW) (k:Int):FT Tryz.prog (Fz g k) 108 [.agg (eY g),.c (iC k)] [] (fun (t:(bW × Bool)) => [.agg [iC t.1.aI,lo 0 t.1.aF.length],.c (bC t.2)]) (fun (t:(bW × Bool)) => [(0,pR 40 aP t.1.aF)]) [0]:=by
 refine FT.of [] Tryz.func108 Tryz.ntmps108 Q y2 ?_
 intro w0 U0 R0 g0
 unfold Fz
 refine Ws (Wr ?_)
 refine gy 21 (.agg (eY g)) fD y5 (iF 22 [iC 0,sC aX] nK y6 (aJ (Bv false) aZ (On (Ws (Ws ?_)))))
 refine aB.eX (fun j4 => ([(1,Iv k),(2,Cc (.pl 21 0)),(4,Cc (.pl 22 0)),(19,Bv j4)],[(21,.row 26 [eY g]),(22,.row 26 [[iC 0,sC aX]])])) ?_ (fun j4 _ => ?_)
 ·refine Wr (bV (bQ (eY g) Q jq gW fD) Q Q Q Q (aS fun r5 nI => (iD [.agg (eY g)] (aBF g r5 nI) X9 (Gf y2) y5 z2 (aW (LT.not Q) Q Q Q (aH (Bv (!r5)) y4 (aT.split (fun hb6 => ?_) (fun hb6 => ?_)))))))
  ·refine aK hb6 y5 (aK hb6 y5 (dD (Bv true) hb6 aU (aH (Bv true) y4 (bF y5 (bF y5 (bF y5 (bF y5 (bF y5 (dD (Bv true) Q aU (On (aV Q z4 z2)))))))))))
  ·refine dB (Iv k) hb6 y5 (fB LT.lss hb6 iT (dA (Bv (decide (k < 0))) hb6 y5 (aH (Bv (decide (k < 0))) y4 (aT.split (fun hb7 => ?_) (fun hb7 => ?_)))))
   ·refine aK hb7 y5 (aK hb7 y5 (aK hb7 y5 (aK hb7 y5 (aK hb7 y5 (dD (Bv true) hb7 aU (On (aV Q z4 z2)))))))
   ·refine dB (Iv k) hb7 y5 (jd (xF aP g.aF) iO jC hb7 iJ (aW (LT.fG Q jE) Q (gH hb7 Q Q) Q (fB LT.geq hb7 y6 (dA (Bv (decide ((g.aF.length:Int) ≤ k))) hb7 y5 (On (aV Q z4 z2))))))
 ·refine aB.cond Q (fun hc8 => ?_) (fun hc8 => ?_)
  ·refine Ws (Wr ?_)
   refine bV (bQ (eY g) Q jq gW fD) Q Q Q Q (aS fun r9 ED => (aT.step (dK [.agg (eY g)] (Fw.Fn.ren [(0,25)] (aGQ g r9 ED) Q) aCW (Gf y2) J y3) z2 J Q Q (dZ (stA [iC r9.aI,lo 25 r9.aF.length] Q Q gW fD) Q Q Q Q Q (aJ (Bv false) aZ (On (en [(4,Cc (.pl 22 0)),(5,Bv false)] [(22,.row 26 [[iC r9.aI,lo 25 r9.aF.length]]),(25,pR 40 aP r9.aF)] z2 z2 (aB.ent (aY.mv 25 0 Q Q) (en [(4,Cc (.pl 22 0)),(5,Bv false)] [(0,pR 40 aP r9.aF),(22,.row 26 [[iC r9.aI,lo 0 r9.aF.length]])] z2 z2 (bT ⟨⟨_,_,_,Q,Q,Q,jq,fD,_,ji gW⟩,Q,J⟩ z1 ⟨⟨au.sc,J,J⟩,au.sc,J⟩ ⟨cZ.fA lF,J⟩)))))))))
  ·refine aB.skip (Ws (aB.draw mixed ?_))
   refine dh (iC g.aI) lT ak bK (zB (gu 26 aP [] [] jE jh y7) Q Q (dh (xF aP g.aF) iO jC bK (ay (Iv k) y4 (aQ.bind fun v10 VW => (bZ (LT.Xa (enc:=aP) (xB:=none) (xA:=(some (.tmp 27,k))) (l:=0) (h:=k.toNat) Q Q Q jE je (fun _ => by rw [fU]; rfl) (.inr y2) (.inl ⟨_,_,Q,Int.le_trans (Gi VW).1 (Gi VW).2.1,Q⟩) (XT VW) (XR VW)) Q Q Q Q (aQ.bind fun u11 Za => (lQ (LT.Cj (enc:=aP) Q  Q jE jh Q (by decide) (by decide) (fun _ => Q) (kU Za)) Q Q Q Q Q (dh (xF aP g.aF) iO jC bK ?_))))))))
   refine ay (Iv k) y4 (dV LT.add aU (aQ.bind fun v12 Zj => (bZ (LT.Xa (enc:=aP) (xB:=(some (.tmp 33,aA (k + 1)))) (xA:=none) (l:=(aA (k + 1)).toNat) (h:=g.aF.length) Q Q Q jE je (fun _ => by rw [fU]; rfl) (.inl ⟨_,_,Q,(Gi Zj).1,Q⟩) (.inr y2) (XT Zj) (XR Zj)) Q Q Q Q (aQ.bind fun u13 aLK => (lQ (LT.Cj (enc:=aP) Q  Q jE jh Q (by decide) (by decide) (fun _ => Q) (kU aLK)) Q Q Q Q Q (bZ (LT.build [(0,.tmp 23,.c (iC g.aI)),(1,.tmp 35,.c (lo 26 (((([]:List bD) ++ ((g.aF.take k.toNat).drop 0)) ++ ((g.aF.take g.aF.length).drop ((aA (k + 1)).toNat))).length)))] Q Q Ap nK Q Q Q) Q Q Q Q (lQ (stA [iC g.aI,lo 26 (((([]:List bD) ++ ((g.aF.take k.toNat).drop 0)) ++ ((g.aF.take g.aF.length).drop ((aA (k + 1)).toNat))).length)] Q Q gW fD) Q Q Q Q Q (ax (LT.assign (v:=(Bv true)) Q) y2 Q Q (dm (en [(4,Cc (.pl 22 0)),(5,Bv true)] [(22,.row 26 [[iC g.aI,lo 26 (((([]:List bD) ++ ((g.aF.take k.toNat).drop 0)) ++ ((g.aF.take g.aF.length).drop ((aA (k + 1)).toNat))).length)]]),(26,pR 40 aP ((([]:List bD) ++ ((g.aF.take k.toNat).drop 0)) ++ ((g.aF.take g.aF.length).drop ((aA (k + 1)).toNat))))] z2 z2 (aB.ent (aY.mv 26 0 Q Q) ?_)))))))))))
   refine en [(4,Cc (.pl 22 0)),(5,Bv true)] [(0,pR 40 aP ((([]:List bD) ++ ((g.aF.take k.toNat).drop 0)) ++ ((g.aF.take g.aF.length).drop ((aA (k + 1)).toNat)))),(22,.row 26 [[iC g.aI,lo 0 (((([]:List bD) ++ ((g.aF.take k.toNat).drop 0)) ++ ((g.aF.take g.aF.length).drop ((aA (k + 1)).toNat))).length)]])] z2 z2 (bT ⟨⟨_,_,_,Q,Q,Q,jq,fD,_,ji gW⟩,Q,J⟩ z1 ⟨⟨au.sc,J,J⟩,au.sc,J⟩ ⟨cZ.fA lF,J⟩)
theorem aGS (c:dW) (n:Int):FT Tryz.prog (N8 c n) 138 [.c (.pl 0 0),.c (iC n)] [(0,.row 105 [iw c])] (fun (t:(bW × dW)) => [.agg [iC t.1.aI,lo 1 t.1.aF.length]]) (fun (t:(bW × dW)) => [(0,.row 105 [iw t.2]),(1,pR 40 aP t.1.aF)]) [1]:=by
 refine FT.of [0] Tryz.func138 Tryz.ntmps138 Q y2 ?_
 intro w0 U0 R0 g0
 unfold N8
 refine Ws (Wr ?_)
 refine iF 21 [iC 0,sC aX] nK y6 (On (Ws (Wr ?_)))
 refine aH (Iv n) y4 (jo (gu 22 aP [] [] jE jh y7) Q Q (bg (LT.build [(0,.tmp 12,.c (iC n)),(1,.tmp 13,.c (lo 22 (([]:List bD).length)))] Q Q Ap nK Q Q Q) Q Q Q Q (iF 23 [iC 0,sC aX] nK y6 (dZ (stA [iC n,lo 22 (([]:List bD).length)] Q Q gW fD) Q Q Q Q Q (On (Ws (Ws ?_)))))))
 refine en [(0,Cc (.pl 0 0)),(1,Iv n),(4,Cc (.pl 21 0)),(5,Cc (.pl 23 0))] [(0,.row 105 [iw c]),(21,.row 26 [[iC 0,sC aX]]),(22,pR 40 aP ([]:List bD)),(23,.row 26 [[iC n,lo 22 (([]:List bD).length)]])] z4 z4 (Wr (aH (Iv n) y4 (af LT.lss aU (On (aB.cond Q (fun hc1 => ?_) (fun hc1 => ?_))))))
 ·refine Ws (Wr ?_)
  refine bV (bQ [iC n,lo 22 (([]:List bD).length)] Q jq gW fD) Q Q Q Q (dZ (stA [iC n,lo 22 (([]:List bD).length)] Q Q gW fD) Q Q Q Q Q (On (en [(4,Cc (.pl 21 0))] [(0,.row 105 [iw c]),(21,.row 26 [[iC n,lo 22 (([]:List bD).length)]]),(22,pR 40 aP ([]:List bD))] z1 z3 (aB.ent (aY.mv 22 1 Q Q) (en [(4,Cc (.pl 21 0))] [(0,.row 105 [iw c]),(1,pR 40 aP ([]:List bD)),(21,.row 26 [[iC n,lo 1 (([]:List bD).length)]])] z1 z3 (bT ⟨⟨_,_,_,Q,Q,Q,jq,fD,_,ji gW⟩,J⟩ z2 ⟨⟨au.sc,J,J⟩,J⟩ ⟨cZ.nP ⟨iY tH,au.sc,au.sc,J⟩,cZ.fA lF,J⟩))))))
 ·refine aB.skip (Ws (Wr ?_))
  refine bV (bQ [iC n,lo 22 (([]:List bD).length)] Q jq gW fD) Q Q Q Q (bg (LT.build [(0,.const (.int .i64 0),.c (iC 0)),(1,.const (.int .i64 1),.c (iC 1))] Q Q ES jh Q Q Q) y2 y2 Q Q (aS fun r2 hr2 => (aT.step (cF [.agg [iC n,lo 22 (([]:List bD).length)],.agg [iC 0,iC 1]] [(22,pR 40 aP ([]:List bD))] (Fw.Fn.ren [(0,25)] (Jo (bW.mk n ([]:List bD)) (bD.mk 0 1) r2 hr2) Q) Hq (.cons (.agg (.cons (.same Q) (.cons (.eU Q Q) .nil))) (.cons (.agg (.cons (.same Q) (.cons (.same Q) .nil))) .nil)) J y3) z3 z1 Q Q (dZ (stA [iC r2.aI,lo 25 r2.aF.length] Q Q gW fD) Q Q Q Q Q (On (Ws (Ws (Wr ?_))))))))
  refine aJ (Iv 2) aZ (On (aB.block ?_))
  refine aB.jM (id:=0) (N9 n) (fun s3 => ([(0,Cc (.pl 0 0)),(1,Iv n),(4,Cc (.pl 21 0)),(5,Cc (.pl 23 0)),(6,Iv s3.1)],[(0,.row 105 [[xT dI s3.2.1,iC s3.2.2.1,iC s3.2.2.2.1]]),(21,.row 26 [[iC 0,sC aX]]),(23,.row 26 [[iC s3.2.2.2.2.1,lo 25 s3.2.2.2.2.2.length]]),(25,pR 40 aP s3.2.2.2.2.2)])) (fun oK => ([(4,Cc (.pl 21 0)),(5,Cc (.pl 23 0))],[(0,.row 105 [[xT dI oK.1,iC oK.2.1,iC oK.2.2.1]]),(21,.row 26 [[iC 0,sC aX]]),(23,.row 26 [[iC oK.2.2.2.1,lo 25 oK.2.2.2.2.length]]),(25,pR 40 aP oK.2.2.2.2)])) ?_ (aY.of z5 z4) Q (fun oK _ => ?_)
  ·intro s3
   unfold N9
   refine Ws (Ws (Wr ?_))
   refine aH (Iv s3.1) y4 (aH (Iv n) y4 (af LT.lss y5 (On (aB.cond Q (fun hc104 => ?_) (fun hc104 => ?_)))))
   ·refine aB.skip (Ws (aB.block (Ws (Wr ?_))))
    refine aH (Cc (.pl 0 0)) y4 (aH (Iv s3.1) y4 (aS fun sJ aKF => (aT.step (dK [.c (.pl 0 0),.c (iC s3.1)] (Fw.Fn.ren [(0,0)] (rV (dW.mk s3.2.1 s3.2.2.1 s3.2.2.2.1) s3.1 sJ aKF) Q) rM (jv y2) z1 y3) z3 z1 Q Q (aJ (Iv sJ.1) y4 (On (Ws (Wr ?_)))))))
    refine aH (Iv sJ.1) y4 (af LT.add aU (aH (Cc (.pl 0 0)) y4 (aH (Iv s3.1) y4 (af LT.sub aU (aS fun uJ ZH => (aT.step (dK [.c (.pl 0 0),.c (iC (aA (s3.1 - 1)))] (Fw.Fn.ren [(0,0)] (rV sJ.2 (aA (s3.1 - 1)) uJ ZH) Q) rM (jv y2) z1 y3) z3 z1 Q Q (af LT.add y5 (aH (Iv s3.1) y4 (aS fun aOo aLI => (bg (LT.rem Q (yZ aLI)) Q Q Q Q (aJ (Iv (Int.tmod (aA ((aA (sJ.1 + 1)) + uJ.1)) s3.1)) y4 ?_)))))))))))
    refine On (Ws ?_)
    refine aB.eX (fun j110 => ([(0,Cc (.pl 0 0)),(1,Iv n),(4,Cc (.pl 21 0)),(5,Cc (.pl 23 0)),(6,Iv s3.1),(7,Iv sJ.1),(8,Iv (Int.tmod (aA ((aA (sJ.1 + 1)) + uJ.1)) s3.1)),(43,Bv j110.1)],[(0,.row 105 [[xT dI j110.2.1,iC j110.2.2.1,iC j110.2.2.2]]),(21,.row 26 [[iC 0,sC aX]]),(23,.row 26 [[iC s3.2.2.2.2.1,lo 25 s3.2.2.2.2.2.length]]),(25,pR 40 aP s3.2.2.2.2.2)])) ?_ (fun j110 _ => ?_)
    ·refine en [(0,Cc (.pl 0 0)),(1,Iv n),(4,Cc (.pl 21 0)),(5,Cc (.pl 23 0)),(6,Iv s3.1),(7,Iv sJ.1),(8,Iv (Int.tmod (aA ((aA (sJ.1 + 1)) + uJ.1)) s3.1))] [(0,.row 105 [iw uJ.2]),(21,.row 26 [[iC 0,sC aX]]),(23,.row 26 [[iC s3.2.2.2.2.1,lo 25 s3.2.2.2.2.2.length]]),(25,pR 40 aP s3.2.2.2.2.2)] z7 z4 (Wr (aH (Cc (.pl 0 0)) y4 (aS fun CU aKI => (aT.step (dK [.c (.pl 0 0),.c (iC 2)] (Fw.Fn.ren [(0,0)] (Jm uJ.2 2 CU aKI) Q) Ho (jv y2) z1 y3) ⟨Q,Q,y2,J⟩ z1 Q Q (aH (Bv CU.1) y4 (aT.split (fun og => ?_) (fun og => ?_)))))))
     ·refine dB (Iv s3.1) og y5 (fB LT.gtr og iT (dD (Bv (decide (2 < s3.1))) og y5 (On (aV Q z8 z4))))
     ·refine aK og y5 (aK og y5 (dA (Bv false) og aU (On (aV Q z8 z4))))
    ·refine aB.eX (fun j133 => ([(0,Cc (.pl 0 0)),(1,Iv n),(4,Cc (.pl 21 0)),(5,Cc (.pl 23 0)),(6,Iv j133.1)],[(0,.row 105 [[xT dI j133.2.1,iC j133.2.2.1,iC j133.2.2.2.1]]),(21,.row 26 [[iC 0,sC aX]]),(23,.row 26 [[iC j133.2.2.2.2.1,lo 39 j133.2.2.2.2.2.length]]),(39,pR 40 aP j133.2.2.2.2.2)])) ?_ (fun j133 _ => ?_)
     ·refine aB.cond Q (fun aJN => ?_) (fun aJN => ?_)
      ·refine Ws (Wr ?_)
       refine aH (Cc (.pl 0 0)) y4 (fC (lo 25 s3.2.2.2.2.2.length) iO jC bK (aW (LT.lC Q jE) Q Q Q (aS fun uQ aKR => (aT.step (dK [.c (.pl 0 0),.c (iC (s3.2.2.2.2.2.length:Int))] (Fw.Fn.ren [(0,0)] (rV (dW.mk j110.2.1 j110.2.2.1 j110.2.2.2) (s3.2.2.2.2.2.length:Int) uQ aKR) Q) rM (jv y2) z1 y3) z3 z1 Q Q (aJ (Iv uQ.1) y4 (On (Ws (Wr ?_))))))))
       refine fC (lo 25 s3.2.2.2.2.2.length) iO jC bK (aH (Iv uQ.1) y4 (aS fun rE QM => (jf (LT.jH Q Q qP QM) Q Q Q Q Q (bV (LT.aA3 Q lX (ji je) fU QM (by exact Q) (by exact Q)) Q Q Q Q (iF 30 [iC 0,iC 0] jh y6 (dZ (stA [iC rE.A,iC rE.B] Q Q je fU) Q Q Q Q Q (On (Ws ?_))))))))
       refine en [(0,Cc (.pl 0 0)),(1,Iv n),(4,Cc (.pl 21 0)),(5,Cc (.pl 23 0)),(6,Iv s3.1),(9,Iv uQ.1),(10,Cc (.pl 30 0))] [(0,.row 105 [iw uQ.2]),(21,.row 26 [[iC 0,sC aX]]),(23,.row 26 [[iC s3.2.2.2.2.1,lo 25 s3.2.2.2.2.2.length]]),(25,pR 40 aP s3.2.2.2.2.2),(30,.row 40 [[iC rE.A,iC rE.B]])] z7 z5 (Wr (aJ (Iv 0) aZ (On (Ws (aB.block ?_)))))
       refine aB.jM (id:=2) (SN s3 uQ rE) (fun xP => ([(0,Cc (.pl 0 0)),(1,Iv n),(4,Cc (.pl 21 0)),(5,Cc (.pl 23 0)),(6,Iv s3.1),(9,Iv uQ.1),(10,Cc (.pl 30 0)),(11,Iv xP)],[(0,.row 105 [iw uQ.2]),(21,.row 26 [[iC 0,sC aX]]),(23,.row 26 [[iC s3.2.2.2.2.1,lo 25 s3.2.2.2.2.2.length]]),(25,pR 40 aP s3.2.2.2.2.2),(30,.row 40 [[iC rE.A,iC rE.B]])])) (fun gm => ([(0,Cc (.pl 0 0)),(1,Iv n),(4,Cc (.pl 21 0)),(5,Cc (.pl 23 0)),(6,Iv gm.1),(9,Iv gm.2.1),(10,Cc (.pl 30 0)),(11,Iv gm.2.2.1)],[(0,.row 105 [[xT dI gm.2.2.2.1,iC gm.2.2.2.2.1,iC gm.2.2.2.2.2.1]]),(21,.row 26 [[iC 0,sC aX]]),(23,.row 26 [[iC gm.2.2.2.2.2.2.1,lo 25 gm.2.2.2.2.2.2.2.1.length]]),(25,pR 40 aP gm.2.2.2.2.2.2.2.1),(30,.row 40 [[iC gm.2.2.2.2.2.2.2.2.1,iC gm.2.2.2.2.2.2.2.2.2]])])) ?_ (aY.of z8 z5) Q (fun gm _ => ?_)
       ·intro xP
        unfold SN
        refine Ws (Ws ?_)
        refine aB.eX (fun Vs => ([(0,Cc (.pl 0 0)),(1,Iv n),(4,Cc (.pl 21 0)),(5,Cc (.pl 23 0)),(6,Iv s3.1),(9,Iv uQ.1),(10,Cc (.pl 30 0)),(11,Iv xP),(63,Bv Vs)],[(0,.row 105 [iw uQ.2]),(21,.row 26 [[iC 0,sC aX]]),(23,.row 26 [[iC s3.2.2.2.2.1,lo 25 s3.2.2.2.2.2.length]]),(25,pR 40 aP s3.2.2.2.2.2),(30,.row 40 [[iC rE.A,iC rE.B]])])) ?_ (fun Vs _ => ?_)
        ·refine Wr (aH (Iv xP) y4 (fC (iC rE.A) nS ak bK (af LT.eql y5 (aH (Bv (xP == rE.A)) y4 (aT.split (fun BX => ?_) (fun BX => ?_))))))
         ·refine aK BX y5 (aK BX y5 (aK BX y5 (aK BX y5 (dD (Bv true) BX aU (On (aV Q z9 z5))))))
         ·refine dB (Iv xP) BX y5 (jd (iC rE.B) oZ ak BX iJ (fB LT.eql BX y6 (dA (Bv (xP == rE.B)) BX y5 (On (aV Q z9 z5)))))
        ·refine aB.cond Q (fun hc150 => ?_) (fun hc150 => ?_)
         ·refine aB.skip (aB.block (Wr ?_))
          refine aH (Iv xP) y4 (af LT.add aU (aJ (Iv (aA (xP + 1))) y4 (On (aB.blk ?_))))
          refine aV Q z8 z5
         ·refine eu y2 z8 z5
       ·refine Ws (Wr ?_)
        refine aH (Cc (.pl 0 0)) y4 (aH (Iv gm.1) y4 (bV (bQ [iC gm.2.2.2.2.2.2.2.2.1,iC gm.2.2.2.2.2.2.2.2.2] Q lX je fU) Q Q Q Q (aH (Iv gm.2.2.1) y4 (aS fun yg aKa => (aT.step (dK [.c (.pl 0 0),.c (iC gm.1),.agg [iC gm.2.2.2.2.2.2.2.2.1,iC gm.2.2.2.2.2.2.2.2.2],.c (iC gm.2.2.1)] (Fw.Fn.ren [(0,0)] (aPy (dW.mk gm.2.2.2.1 gm.2.2.2.2.1 gm.2.2.2.2.2.1) gm.1 (bD.mk gm.2.2.2.2.2.2.2.2.1 gm.2.2.2.2.2.2.2.2.2) gm.2.2.1 yg aKa) Q) aHe (aNu y5) z1 y3) z5 z1 Q Q (aJ (Iv yg.1) y4 (On (Ws (Wr ?_)))))))))
        refine bV (bQ [iC gm.2.2.2.2.2.2.1,lo 25 gm.2.2.2.2.2.2.2.1.length] Q jq gW fD) Q Q Q Q (aH (Iv gm.2.1) y4 (aS fun tJ aKb => (aT.step (cF [.agg [iC gm.2.2.2.2.2.2.1,lo 25 gm.2.2.2.2.2.2.2.1.length],.c (iC gm.2.1)] [(25,pR 40 aP gm.2.2.2.2.2.2.2.1)] (Fw.Fn.ren [(0,33)] (aGJ (bW.mk gm.2.2.2.2.2.2.1 gm.2.2.2.2.2.2.2.1) gm.2.1 tJ aKb) Q) aB7 (.cons (.agg (.cons (.same Q) (.cons (.eU Q Q) .nil))) (.cons (.c (.same Q)) .nil)) J y3) z3 z1 Q Q (aH (.eH [.agg [iC tJ.1.aI,lo 33 tJ.1.aF.length],.c (bC tJ.2)]) y4 (jQ (.agg [iC tJ.1.aI,lo 33 tJ.1.aF.length]) y5 (jQ (.c (bC tJ.2)) y5 (dZ (stA [iC tJ.1.aI,lo 33 tJ.1.aF.length] Q Q gW fD) Q Q Q Q Q (On (en [(0,Cc (.pl 0 0)),(1,Iv n),(4,Cc (.pl 21 0)),(5,Cc (.pl 23 0)),(6,Iv gm.1),(10,Cc (.pl 30 0)),(11,Iv yg.1)] [(0,.row 105 [iw yg.2]),(21,.row 26 [[iC 0,sC aX]]),(23,.row 26 [[iC tJ.1.aI,lo 33 tJ.1.aF.length]]),(30,.row 40 [[iC gm.2.2.2.2.2.2.2.2.1,iC gm.2.2.2.2.2.2.2.2.2]]),(33,pR 40 aP tJ.1.aF)] z7 z5 (aB.draw mixed (fM (bQ [iC tJ.1.aI,lo 33 tJ.1.aF.length] Q jq gW fD) Q Q Q Q ?_)))))))))))
        refine dh (iC gm.2.2.2.2.2.2.2.2.1) nS ak bK (ay (Iv gm.1) y4 (bZ (LT.build [(0,.tmp 79,.c (iC gm.2.2.2.2.2.2.2.2.1)),(1,.tmp 80,.c (iC gm.1))] Q Q ES jh Q Q Q) Q Q Q Q (aQ.bind fun Jb aKc => (aQ.step (cF [.agg [iC tJ.1.aI,lo 33 tJ.1.aF.length],.agg [iC gm.2.2.2.2.2.2.2.2.1,iC gm.1]] [(33,pR 40 aP tJ.1.aF)] (Fw.Fn.ren [(0,35)] (Jo tJ.1 (bD.mk gm.2.2.2.2.2.2.2.2.1 gm.1) Jb aKc) Q) Hq (.cons (.agg (.cons (.same Q) (.cons (.eU Q Q) .nil))) (.cons (.agg (.cons (.same Q) (.cons (.same Q) .nil))) .nil)) J y3) z3 z1 Q Q (dh (iC gm.2.2.2.2.2.2.2.2.2) oZ ak bK (ay (Iv gm.1) y4 (bZ (LT.build [(0,.tmp 84,.c (iC gm.2.2.2.2.2.2.2.2.2)),(1,.tmp 85,.c (iC gm.1))] Q Q ES jh Q Q Q) Q Q Q Q (aQ.bind fun tK ZK => (aQ.step (cF [.agg [iC Jb.aI,lo 35 Jb.aF.length],.agg [iC gm.2.2.2.2.2.2.2.2.2,iC gm.1]] [(35,pR 40 aP Jb.aF)] (Fw.Fn.ren [(0,37)] (Jo Jb (bD.mk gm.2.2.2.2.2.2.2.2.2 gm.1) tK ZK) Q) Hq (.cons (.agg (.cons (.same Q) (.cons (.eU Q Q) .nil))) (.cons (.agg (.cons (.same Q) (.cons (.same Q) .nil))) .nil)) J y3) z3 z1 Q Q ?_)))))))))
        refine ay (Iv yg.1) y4 (ay (Iv gm.1) y4 (bZ (LT.build [(0,.tmp 88,.c (iC yg.1)),(1,.tmp 89,.c (iC gm.1))] Q Q ES jh Q Q Q) Q Q Q Q (aQ.bind fun Og aKd => (aQ.step (cF [.agg [iC tK.aI,lo 37 tK.aF.length],.agg [iC yg.1,iC gm.1]] [(37,pR 40 aP tK.aF)] (Fw.Fn.ren [(0,39)] (Jo tK (bD.mk yg.1 gm.1) Og aKd) Q) Hq (.cons (.agg (.cons (.same Q) (.cons (.eU Q Q) .nil))) (.cons (.agg (.cons (.same Q) (.cons (.same Q) .nil))) .nil)) J y3) z3 z1 Q Q (lQ (stA [iC Og.aI,lo 39 Og.aF.length] Q Q gW fD) Q Q Q Q Q (dm (aV Q z5 z4)))))))
      ·refine Wr (bV (bQ [iC s3.2.2.2.2.1,lo 25 s3.2.2.2.2.2.length] Q jq gW fD) Q Q Q Q (aH (Iv sJ.1) y4 (aH (Iv s3.1) y4 (bg (LT.build [(0,.tmp 93,.c (iC sJ.1)),(1,.tmp 94,.c (iC s3.1))] Q Q ES jh Q Q Q) Q Q Q Q (aS fun yh ZL => (aT.step (cF [.agg [iC s3.2.2.2.2.1,lo 25 s3.2.2.2.2.2.length],.agg [iC sJ.1,iC s3.1]] [(25,pR 40 aP s3.2.2.2.2.2)] (Fw.Fn.ren [(0,41)] (Jo (bW.mk s3.2.2.2.2.1 s3.2.2.2.2.2) (bD.mk sJ.1 s3.1) yh ZL) Q) Hq (.cons (.agg (.cons (.same Q) (.cons (.eU Q Q) .nil))) (.cons (.agg (.cons (.same Q) (.cons (.same Q) .nil))) .nil)) J y3) z3 z1 Q Q (aH (Iv (Int.tmod (aA ((aA (sJ.1 + 1)) + uJ.1)) s3.1)) y4 (aH (Iv s3.1) y4 (bg (LT.build [(0,.tmp 97,.c (iC (Int.tmod (aA ((aA (sJ.1 + 1)) + uJ.1)) s3.1))),(1,.tmp 98,.c (iC s3.1))] Q Q ES jh Q Q Q) Q Q Q Q (aS fun ET aKe => (aT.step (cF [.agg [iC yh.aI,lo 41 yh.aF.length],.agg [iC (Int.tmod (aA ((aA (sJ.1 + 1)) + uJ.1)) s3.1),iC s3.1]] [(41,pR 40 aP yh.aF)] (Fw.Fn.ren [(0,43)] (Jo yh (bD.mk (Int.tmod (aA ((aA (sJ.1 + 1)) + uJ.1)) s3.1) s3.1) ET aKe) Q) Hq (.cons (.agg (.cons (.same Q) (.cons (.eU Q Q) .nil))) (.cons (.agg (.cons (.same Q) (.cons (.same Q) .nil))) .nil)) J y3) z3 z1 Q Q ?_)))))))))))
       refine dZ (stA [iC ET.aI,lo 43 ET.aF.length] Q Q gW fD) Q Q Q Q Q (On (en [(0,Cc (.pl 0 0)),(1,Iv n),(4,Cc (.pl 21 0)),(5,Cc (.pl 23 0)),(6,Iv s3.1)] [(0,.row 105 [[xT dI j110.2.1,iC j110.2.2.1,iC j110.2.2.2]]),(21,.row 26 [[iC 0,sC aX]]),(23,.row 26 [[iC ET.aI,lo 43 ET.aF.length]]),(43,pR 40 aP ET.aF)] z5 z4 (aB.ent (aY.mv 43 39 Q Q) (aV Q z5 z4))))
     ·refine aB.blk (Wr ?_)
      refine aH (Iv j133.1) y4 (af LT.add aU (aJ (Iv (aA (j133.1 + 1))) y4 (On (en [(0,Cc (.pl 0 0)),(1,Iv n),(4,Cc (.pl 21 0)),(5,Cc (.pl 23 0)),(6,Iv (aA (j133.1 + 1)))] [(0,.row 105 [[xT dI j133.2.1,iC j133.2.2.1,iC j133.2.2.2.1]]),(21,.row 26 [[iC 0,sC aX]]),(23,.row 26 [[iC j133.2.2.2.2.1,lo 39 j133.2.2.2.2.2.length]]),(39,pR 40 aP j133.2.2.2.2.2)] z5 z4 (aB.ent (aY.mv 39 25 Q Q) (aV Q z5 z4))))))
   ·refine eu y2 z2 z4
  ·refine Ws (Wr ?_)
   refine bV (bQ [iC oK.2.2.2.1,lo 25 oK.2.2.2.2.length] Q jq gW fD) Q Q Q Q (dZ (stA [iC oK.2.2.2.1,lo 25 oK.2.2.2.2.length] Q Q gW fD) Q Q Q Q Q (On (en [(4,Cc (.pl 21 0))] [(0,.row 105 [[xT dI oK.1,iC oK.2.1,iC oK.2.2.1]]),(21,.row 26 [[iC oK.2.2.2.1,lo 25 oK.2.2.2.2.length]]),(25,pR 40 aP oK.2.2.2.2)] z1 z3 (aB.ent (aY.mv 25 1 Q Q) (en [(4,Cc (.pl 21 0))] [(0,.row 105 [[xT dI oK.1,iC oK.2.1,iC oK.2.2.1]]),(1,pR 40 aP oK.2.2.2.2),(21,.row 26 [[iC oK.2.2.2.1,lo 1 oK.2.2.2.2.length]])] z1 z3 (bT ⟨⟨_,_,_,Q,Q,Q,jq,fD,_,ji gW⟩,J⟩ z2 ⟨⟨au.sc,J,J⟩,J⟩ ⟨cZ.nP ⟨iY tH,au.sc,au.sc,J⟩,cZ.fA lF,J⟩))))))
end Go.Proofs.YtdmlaldifbmkpaaGreat
end
