/- Parts of a proof that a law of the program holds: what the program computes, and why that is right. -/
import Derived.Test.YtdmlaldifbmkpaaProg
import Derived.Test.YtdmlaldifbmkpaaZEOtherPlaces1
set_option linter.unusedVariables false
set_option linter.unusedSimpArgs false
set_option linter.unnecessarySimpa false
set_option maxRecDepth 100000
set_option maxHeartbeats 8000000
section
open Go Go.Fw
namespace Go.Proofs.Ytdmlaldifbmkpaa
section
theorem JH {α:Type} {f:Nat → List α} (a:Nat):∀ b,pieces f (a + b) = pieces f a ++ pieces (fun k => f (a + k)) b
 | 0 => by simp [pieces]
 | b + 1 => by
  show pieces f (a + b) ++ f (a + b) = pieces f a ++ (pieces (fun k => f (a + k)) b ++ f (a + b))
  rw [JH a b,List.append_assoc]
theorem EN {α:Type} {f:Nat → List α} (a:Nat):∀ n,pieces f (a * n) = pieces (fun i => pieces (fun j => f (a * i + j)) a) n
 | 0 => rfl
 | n + 1 => by
  rw [Nat.mul_succ,JH,EN a n]
  rfl
def cellAt (d:Nat):aO:=⟨((d % 5:Nat):Int),((d / 5:Nat):Int)⟩
def ways:Nat → Nat → List aO → List (List aO)
 | 0,_,pl => [pl]
 | m + 1,v,pl => pieces (fun d => ways m (v + 1) (pl.set v (cellAt d))) 25
theorem Ez:∀ m v pl,(ways m v pl).length ≤ 25 ^ m
 | 0,_,_ => Nat.le_refl _
 | m + 1,v,pl => by
  have:=pieces_len (f:=fun d => ways m (v + 1) (pl.set v (cellAt d))) (c:=25 ^ m) 25 (fun d _ => Ez m (v + 1) _)
  rw [Nat.pow_succ]
  exact this
theorem KG:∀ m v (pl lK:List aO),pl.length = v + m → lK.length = v + m → (∀ i,i < v → pl[i]? = lK[i]?) → ways m v pl = ways m v lK
 | 0,v,pl,lK,h1,h2,h => by
  have:pl = lK:=List.ext_getElem? fun i => by
   by_cases hi:i < v
   ·exact h i hi
   ·rw [List.getElem?_eq_none (by omega),List.getElem?_eq_none (by omega)]
  rw [this]
 | m + 1,v,pl,lK,h1,h2,h => by
  refine Am 25 fun d _ => KG m (v + 1) _ _ (by simp; omega) (by simp; omega) fun i hi => ?_
  rw [List.getElem?_set,List.getElem?_set]
  by_cases hiv:v = i
  ·rw [if_pos hiv,if_pos hiv,if_pos (by omega),if_pos (by omega)]
  ·rw [if_neg hiv,if_neg hiv]
   exact h i (by omega)
theorem KH:∀ m v (pl w:List aO),w ∈ ways m v pl → w.length = pl.length
 | 0,v,pl,w,h => by
  unfold ways at h
  rw [List.mem_singleton] at h
  rw [h]
 | m + 1,v,pl,w,h => by
  unfold ways at h
  have hp:∀ n,w ∈ pieces (fun d => ways m (v + 1) (pl.set v (cellAt d))) n → w.length = pl.length:=fun n => by
   induction n with
   | zero => intro h; cases h
   | succ n ih =>
    intro h
    rcases List.mem_append.1 h with h1 | h1
    ·exact ih h1
    ·have:=KH m (v + 1) _ w h1
     simpa using this
  exact hp _ h
def jU (f:aH) (g:au) (L:List (List aO)):List aH:=(L.map fun pl => (⟨g,pl⟩:aH)).filter (kY f)
theorem NV (f:aH) (g:au) (L M:List (List aO)):jU f g (L ++ M) = jU f g L ++ jU f g M:=by simp [jU]
theorem CJ (f:aH) (g:au) (F:Nat → List (List aO)):∀ n,jU f g (pieces F n) = pieces (fun i => jU f g (F i)) n
 | 0 => rfl
 | n + 1 => by
  show jU f g (pieces F n ++ F n) = pieces _ n ++ jU f g (F n)
  rw [NV,CJ f g F n]
theorem CB (f:aH) (g:au) (L:List (List aO)):(jU f g L).length ≤ L.length:=by
 have:=List.length_filter_le (kY f) (L.map fun pl => (⟨g,pl⟩:aH))
 simpa [jU] using this
theorem CG (f:aH) (g:au) (pl:List aO):jU f g [pl] = bif kY f ⟨g,pl⟩ then [⟨g,pl⟩] else []:=by
 unfold jU
 simp only [List.map_cons,List.map_nil,List.filter_cons,List.filter_nil]
 cases kY f ⟨g,pl⟩ <;> rfl
section
variable {f:aH}
theorem SX (h0:SM f.Graph.aB.length) (h1:SM f.Places.length):∀ (m n v:Nat) (x:aH) (out:List aH),m < n → v + m ≤ 8 → SM x.Graph.aB.length → x.Graph.aC = ((v + m:Nat):Int) → x.Places.length = v + m → out.length + 25 ^ m ≤ 1000000 →
  ∃ pl,mM n x (v:Int) f out = some (x.Graph.aB,pl,f,out ++ jU f x.Graph (ways m v x.Places)) ∧ pl.length = x.Places.length ∧ ∀ i,i < v → pl[i]? = x.Places[i]?:=by
 intro m
 induction m with
 | zero =>
  intro n v x out hn hv hb hp hl ho
  obtain ⟨n,rfl⟩:∃ k,n = k + 1:=⟨n - 1,by omega⟩
  refine ⟨x.Places,?_,rfl,fun _ _ => rfl⟩
  show pU (mM n) x (v:Int) f out = _
  unfold pU
  rw [decide_eq_true (by omega),cond_true,Jg f x h0 h1 hb (by omega),Bd x hb (by omega)]
  simp only [Option.bind_some]
  rw [pI (show out.length + [x].length ≤ 2147483648 by simp; omega)]
  have e:jU f x.Graph (ways 0 v x.Places) = bif kY f x then [x] else []:=CG f x.Graph x.Places
  rw [e]
  cases kY f x <;> simp
 | succ m ih =>
  intro n v x out hn hv hb hp hl ho
  obtain ⟨n,rfl⟩:∃ k,n = k + 1:=⟨n - 1,by omega⟩
  have UM:25 ^ (m + 1) = 25 ^ m * 25:=Nat.pow_succ ..
  have hpos:0 < 25 ^ m:=Nat.pow_pos (by omega)
  -- what the digit d gives
  let G:Nat → List aH:=fun d => jU f x.Graph (ways m (v + 1) (x.Places.set v (cellAt d)))
  have hG:∀ d,(G d).length ≤ 25 ^ m:=fun d => Nat.le_trans (CB ..) (Ez ..)
  have Gx:∀ F:Nat → Nat,∀ k,(pieces (fun j => G (F j)) k).length ≤ 25 ^ m * k:=fun F k => pieces_len k fun j _ => hG _
  have QB:∀ (y:Nat) (pl:List aO) (o:List aH),y < 5 → pl.length = x.Places.length → (∀ i,i < v → pl[i]? = x.Places[i]?) → o.length + 25 ^ m * 5 ≤ 1000000 →
    ∃ lK,bY (rW x (v:Int) ((y:Int),x.Graph.aB,pl,f.Graph.aC,f.Graph.aB,f.Places,o) (mM n)) BIG (0,x.Graph.aB,pl,f.Graph.aC,f.Graph.aB,f.Places,o) = some ((y:Int),x.Graph.aB,lK,f.Graph.aC,f.Graph.aB,f.Places,o ++ pieces (fun j => G (5 * y + j)) 5) ∧ lK.length = x.Places.length ∧ ∀ i,i < v → lK[i]? = x.Places[i]?:=by
   intro y pl o hy hpl hag hol
   obtain ⟨r,hr,lK,rfl,h2,h3⟩:=IX (b:=rW x (v:Int) ((y:Int),x.Graph.aB,pl,f.Graph.aC,f.Graph.aB,f.Places,o) (mM n)) (s:=(0,x.Graph.aB,pl,f.Graph.aC,f.Graph.aB,f.Places,o))
    (fun k s => ∃ q:List aO,s = ((k:Int),x.Graph.aB,q,f.Graph.aC,f.Graph.aB,f.Places,o ++ pieces (fun j => G (5 * y + j)) k) ∧ q.length = x.Places.length ∧ ∀ i,i < v → q[i]? = x.Places[i]?)
    (fun r => ∃ q:List aO,r = ((y:Int),x.Graph.aB,q,f.Graph.aC,f.Graph.aB,f.Places,o ++ pieces (fun j => G (5 * y + j)) 5) ∧ q.length = x.Places.length ∧ ∀ i,i < v → q[i]? = x.Places[i]?) 5 (by omega) ⟨pl,by simp [pieces],hpl,hag⟩ (fun k s hk hs => by
     obtain ⟨q,rfl,hq,hqa⟩:=hs
     have hlen:=Gx (fun j => 5 * y + j) k
     have hk5:25 ^ m * k ≤ 25 ^ m * 4:=Nat.mul_le_mul_left _ (by omega)
     obtain ⟨w,hw,hwl,Dj⟩:=ih n (v + 1) ⟨x.Graph,q.set v (aO.mk (k:Int) (y:Int))⟩ (o ++ pieces (fun j => G (5 * y + j)) k) (by omega) (by omega) hb (by simp only [hp]; omega) (by simp; omega) (by simp only [List.length_append]; omega)
     simp only [List.length_set] at hwl
     have hcell:aO.mk (k:Int) (y:Int) = cellAt (5 * y + k):=by
      unfold cellAt
      rw [show (5 * y + k) % 5 = k by omega,show (5 * y + k) / 5 = y by omega]
     have PY:ways m (v + 1) (q.set v (aO.mk (k:Int) (y:Int))) = ways m (v + 1) (x.Places.set v (cellAt (5 * y + k))):=by
      rw [hcell]
      refine KG m (v + 1) _ _ (by simp; omega) (by simp; omega) fun i hi => ?_
      rw [List.getElem?_set,List.getElem?_set]
      by_cases hiv:v = i
      ·rw [if_pos hiv,if_pos hiv,if_pos (by omega),if_pos (by omega)]
      ·rw [if_neg hiv,if_neg hiv]
       exact hqa i (by omega)
     have hiv:idx q (v:Int) = some (q[v]'(by omega)):=lZ (by omega)
     refine .inl ⟨_,?_,w,rfl,by omega,fun i hi => ?_⟩
     ·unfold rW
      rw [show aH.mk (au.mk x.Graph.aC x.Graph.aB) (q.set v (aO.mk (k:Int) (y:Int))) = ⟨x.Graph,q.set v (aO.mk (k:Int) (y:Int))⟩ from rfl] at *
      simp only [hiv,Option.bind_some,Int.toNat_natCast,lC (show v ≤ 1099511627776 by omega),lC (show k ≤ 1099511627776 by omega)]
      rw [decide_eq_true (by omega),cond_true]
      rw [show aH.mk (au.mk f.Graph.aC f.Graph.aB) f.Places = f from rfl]
      rw [show aH.mk (au.mk x.Graph.aC x.Graph.aB) (q.set v (aO.mk (k:Int) (y:Int))) = ⟨x.Graph,q.set v (aO.mk (k:Int) (y:Int))⟩ from rfl,hw]
      simp only [Option.bind_some,EW,List.length_set,hwl]
      rw [PY,List.append_assoc]
      rfl
     ·rw [Dj i (by omega)]
      show (q.set v _)[i]? = _
      rw [List.getElem?_set,if_neg (by omega)]
      exact hqa i hi) (fun s hs => by
     obtain ⟨q,rfl,hq,hqa⟩:=hs
     refine ⟨_,?_,q,rfl,hq,hqa⟩
     unfold rW
     rw [decide_eq_false (by simp only; omega)]
     rfl)
   exact ⟨lK,hr,h2,h3⟩
  obtain ⟨r,hr,lK,rfl,h2,h3⟩:=IX (b:=uV x (v:Int) (mM n)) (s:=(0,x.Graph.aB,x.Places,f.Graph.aC,f.Graph.aB,f.Places,out))
   (fun y s => ∃ q:List aO,s = ((y:Int),x.Graph.aB,q,f.Graph.aC,f.Graph.aB,f.Places,out ++ pieces (fun i => pieces (fun j => G (5 * i + j)) 5) y) ∧ q.length = x.Places.length ∧ ∀ i,i < v → q[i]? = x.Places[i]?)
   (fun r => ∃ q:List aO,r = (x.Graph.aB,q,f.Graph.aC,f.Graph.aB,f.Places,out ++ pieces (fun i => pieces (fun j => G (5 * i + j)) 5) 5) ∧ q.length = x.Places.length ∧ ∀ i,i < v → q[i]? = x.Places[i]?) 5 (by omega) ⟨x.Places,by simp [pieces],rfl,fun _ _ => rfl⟩ (fun y s hy hs => by
    obtain ⟨q,rfl,hq,hqa⟩:=hs
    have hlen:=pieces_len (f:=fun i => pieces (fun j => G (5 * i + j)) 5) (c:=25 ^ m * 5) y (fun i _ => Gx (fun j => 5 * i + j) 5)
    have UR:25 ^ m * 5 * y ≤ 25 ^ m * 5 * 4:=Nat.mul_le_mul_left _ (by omega)
    obtain ⟨w,hw,hwl,Dj⟩:=QB y q (out ++ pieces (fun i => pieces (fun j => G (5 * i + j)) 5) y) hy hq hqa (by simp only [List.length_append]; omega)
    refine .inl ⟨_,?_,w,rfl,hwl,Dj⟩
    unfold uV
    rw [decide_eq_true (by simp only; omega),cond_true]
    simp only [hw,Option.bind_some,lC (show y ≤ 1099511627776 by omega)]
    rw [List.append_assoc]
    rfl) (fun s hs => by
    obtain ⟨q,rfl,hq,hqa⟩:=hs
    refine ⟨_,?_,q,rfl,hq,hqa⟩
    unfold uV
    rw [decide_eq_false (by simp only; omega)]
    rfl)
  refine ⟨lK,?_,h2,h3⟩
  show pU (mM n) x (v:Int) f out = _
  unfold pU
  rw [decide_eq_false (by omega),cond_false,hr]
  simp only [Option.bind_some]
  have e:jU f x.Graph (ways (m + 1) v x.Places) = pieces (fun i => pieces (fun j => G (5 * i + j)) 5) 5:=by
   show jU f x.Graph (pieces (fun d => ways m (v + 1) (x.Places.set v (cellAt d))) 25) = _
   rw [CJ,← EN (f:=G) 5 5]
  rw [e]
def iM (f:aH):Nat:=f.Graph.aC.toNat - 2
def found (f:aH):List aH:=jU f f.Graph (ways (iM f) 2 f.Places)
def fits (f:aH):Bool:=vF f && !decide (4 < f.Graph.aC)
def others (f:aH):List aH × Bool:=bif fits f then (found f,true) else ([],false)
theorem tY {f:aH} (h:fits f = true):VF f ∧ f.Graph.aC ≤ 4:=by
 unfold fits at h
 simp only [Bool.and_eq_true,Bool.not_eq_true',decide_eq_false_iff_not] at h
 exact ⟨Es h.1,by omega⟩
theorem Nj (h:fits f = true):(found f).length ≤ 625:=by
 obtain ⟨hV,h4⟩:=tY h
 have h1:=CB f f.Graph (ways (iM f) 2 f.Places)
 have h2:=Ez (iM f) 2 f.Places
 have h3:25 ^ iM f ≤ 25 ^ 2:=Nat.pow_le_pow_right (by omega) (by unfold iM; omega)
 unfold found
 omega
theorem SY (h0:SM f.Graph.aB.length) (h1:SM f.Places.length) (h:fits f = true):∃ pl,mM 64 f 2 f [] = some (f.Graph.aB,pl,f,found f):=by
 obtain ⟨hV,h4⟩:=tY h
 have hp:=hV.kD
 have hp1:=hV.g.p1
 by_cases h2:2 ≤ f.Graph.aC
 ·have hm:iM f ≤ 2:=by unfold iM; omega
  have Ov:25 ^ iM f ≤ 25 ^ 2:=Nat.pow_le_pow_right (by omega) hm
  obtain ⟨pl,e,_⟩:=SX h0 h1 (iM f) 64 2 f [] (by omega) (by omega) h0 (by unfold iM; omega) (by unfold iM; omega) (by simp only [List.length_nil]; omega)
  exact ⟨pl,by rw [show ((2:Int)) = ((2:Nat):Int) from rfl,e]; rfl⟩
 ·have hm:iM f = 0:=by unfold iM; omega
  refine ⟨f.Places,?_⟩
  show pU (mM 63) f 2 f [] = _
  unfold pU
  rw [decide_eq_true (by omega),cond_true,Jg f f h0 h1 h0 h1,Bd f h0 h1]
  simp only [Option.bind_some]
  rw [pI (show ([]:List aH).length + [f].length ≤ 2147483648 by simp)]
  have e:found f = bif kY f f then [f] else []:=by
   unfold found
   rw [hm]
   exact CG f f.Graph f.Places
  rw [e]
  cases kY f f <;> simp
theorem Q9 (h0:SM f.Graph.aB.length) (h1:SM f.Places.length):uU f = some ((others f).1,(others f).2,f.Graph.aB,f.Places):=by
 unfold uU others
 rw [AL f h0 h1,Bd f h0 h1]
 cases hf:fits f with
 | true =>
  obtain ⟨pl,e⟩:=SY h0 h1 hf
  unfold fits at hf
  rw [Bool.and_eq_true,Bool.not_eq_true'] at hf
  rw [hf.1,hf.2]
  simp only [Option.bind_some,Bool.not_true,cond_false,cond_true,e]
 | false =>
  unfold fits at hf
  cases hv:vF f with
  | false => rfl
  | true =>
   rw [hv,Bool.true_and,Bool.not_eq_false'] at hf
   rw [hf]
   rfl
def placed (m code:Nat) (pl:List aO):List aO:=match m with
 | 0 => pl
 | 1 => pl.set 2 (cellAt code)
 | _ => (pl.set 3 (cellAt (code % 25))).set 2 (cellAt (code / 25))
theorem set_comm {α:Type} {l:List α} {i j:Nat} {a b:α} (h:i ≠ j):(l.set i a).set j b = (l.set j b).set i a:=List.set_comm a b h
theorem UH {m:Nat} (hm:m ≤ 2) (pl:List aO):ways m 2 pl = pieces (fun code => [placed m code pl]) (25 ^ m):=by
 match m,hm with
 | 0,_ => rfl
 | 1,_ => rfl
 | 2,_ =>
  show pieces (fun d => pieces (fun e => [((pl.set 2 (cellAt d)).set 3 (cellAt e))]) 25) 25 = pieces (fun code => [placed 2 code pl]) (25 * 25)
  rw [EN]
  refine Am 25 fun d _ => Am 25 fun e he => ?_
  show [(pl.set 2 (cellAt d)).set 3 (cellAt e)] = [(pl.set 3 (cellAt ((25 * d + e) % 25))).set 2 (cellAt ((25 * d + e) / 25))]
  rw [show (25 * d + e) % 25 = e by omega,show (25 * d + e) / 25 = d by omega,List.set_comm _ _ (by omega)]
theorem RH:rZ 25 0 = some 1:=by kernel_rfl
theorem RI:rZ 25 1 = some 25:=by kernel_rfl
theorem pow2:rZ 25 2 = some 625:=by kernel_rfl
theorem JL {m:Nat} (hm:m ≤ 2):rZ 25 (m:Int) = some ((25 ^ m:Nat):Int):=by
 have:m = 0 ∨ m = 1 ∨ m = 2:=by omega
 rcases this with rfl | rfl | rfl
 ·exact RH
 ·exact RI
 ·exact pow2
theorem MQ (c:Nat) (hc:c ≤ 1000):aO.mk (Int.tmod (c:Int) 5) (Int.tmod (aJ (Int.tdiv (c:Int) 5)) 5) = cellAt (c % 25):=by
 unfold cellAt
 have h1:Int.tmod (c:Int) 5 = ((c % 25 % 5:Nat):Int):=by
  rw [show (5:Int) = ((5:Nat):Int) from rfl,← Int.ofNat_tmod]
  congr 1
  omega
 have h2:Int.tdiv (c:Int) 5 = ((c / 5:Nat):Int):=by
  rw [show (5:Int) = ((5:Nat):Int) from rfl,← Int.ofNat_tdiv]
 rw [h1,h2,jA (by omega) (by omega)]
 congr 1
 rw [show (5:Int) = ((5:Nat):Int) from rfl,← Int.ofNat_tmod]
 congr 1
 omega
theorem MR (c:Nat):Int.tdiv (c:Int) 25 = ((c / 25:Nat):Int):=by
 rw [show (25:Int) = ((25:Nat):Int) from rfl,← Int.ofNat_tdiv]
theorem Bj (s:Int × List aH) (r:aH) (c v:Nat) (pl:List aO) (hc:c ≤ 1000) (hv:2 ≤ v) (hv2:v ≤ 8) (hl:v < pl.length):qU s r ((c:Int),(v:Int),pl) = some (.inl (((c / 25:Nat):Int),((v - 1:Nat):Int),pl.set v (cellAt (c % 25)))):=by
 unfold qU
 rw [decide_eq_true (by simp only; omega),cond_true]
 simp only [lZ hl,Option.bind_some,MR,MQ c hc,Int.toNat_natCast]
 rw [jA (by omega) (by omega),jA (by omega) (by omega),show (v:Int) - 1 = ((v - 1:Nat):Int) by omega]
theorem Bh (s:Int × List aH) (r:aH) (c v:Int) (pl:List aO) (hv:v < 2):qU s r (c,v,pl) = some (.inr (s.1,s.2,r.Graph.aB,pl,r.Graph.aC)):=by
 unfold qU
 rw [decide_eq_false (by simp only; omega)]
 rfl
theorem digits (s:Int × List aH) {r:aH} {m n code:Nat} (hm:m ≤ 2) (hn:r.Places.length = n) (hn1:1 ≤ n) (hmn:m = n - 2) (hc:code < 25 ^ m):bY (qU s r) BIG ((code:Int),((n - 1:Nat):Int),r.Places) = some (s.1,s.2,r.Graph.aB,placed m code r.Places,r.Graph.aC):=by
 match m,hm with
 | 0,_ => exact lg (fun _ => ((code:Int),((n - 1:Nat):Int),r.Places)) 0 (by omega) rfl (fun k hk => by omega) (Bh s r _ _ _ (by omega))
 | 1,_ =>
  have hn3:n = 3:=by omega
  subst hn3
  refine lg (fun k => match k with | 0 => ((code:Int),((2:Nat):Int),r.Places) | _ => (((code / 25:Nat):Int),((1:Nat):Int),r.Places.set 2 (cellAt (code % 25)))) 1 (by omega) rfl (fun k hk => ?_) ?_
  ·have:k = 0:=by omega
   subst this
   exact Bj s r code 2 r.Places (by omega) (by omega) (by omega) (by omega)
  ·refine (Bh s r ((code / 25:Nat):Int) ((1:Nat):Int) (r.Places.set 2 (cellAt (code % 25))) (by omega)).trans ?_
   show some (Sum.inr (s.1,s.2,r.Graph.aB,r.Places.set 2 (cellAt (code % 25)),r.Graph.aC)) = some (Sum.inr (s.1,s.2,r.Graph.aB,r.Places.set 2 (cellAt code),r.Graph.aC))
   rw [show code % 25 = code from Nat.mod_eq_of_lt (by simpa using hc)]
 | 2,_ =>
  have hn4:n = 4:=by omega
  subst hn4
  have hc2:code < 625:=hc
  refine lg (fun k => match k with | 0 => ((code:Int),((3:Nat):Int),r.Places) | 1 => (((code / 25:Nat):Int),((2:Nat):Int),r.Places.set 3 (cellAt (code % 25))) | _ => (((code / 25 / 25:Nat):Int),((1:Nat):Int),(r.Places.set 3 (cellAt (code % 25))).set 2 (cellAt (code / 25 % 25)))) 2 (by omega) rfl (fun k hk => ?_) ?_
  ·have:k = 0 ∨ k = 1:=by omega
   rcases this with rfl | rfl
   ·exact Bj s r code 3 r.Places (by omega) (by omega) (by omega) (by omega)
   ·exact Bj s r (code / 25) 2 _ (by omega) (by omega) (by omega) (by simp; omega)
  ·refine (Bh s r ((code / 25 / 25:Nat):Int) ((1:Nat):Int) ((r.Places.set 3 (cellAt (code % 25))).set 2 (cellAt (code / 25 % 25))) (by omega)).trans ?_
   show some (Sum.inr (s.1,s.2,r.Graph.aB,(r.Places.set 3 (cellAt (code % 25))).set 2 (cellAt (code / 25 % 25)),r.Graph.aC)) = some (Sum.inr (s.1,s.2,r.Graph.aB,(r.Places.set 3 (cellAt (code % 25))).set 2 (cellAt (code / 25)),r.Graph.aC))
   rw [show code / 25 % 25 = code / 25 from Nat.mod_eq_of_lt (by omega)]
theorem RD (h0:SM f.Graph.aB.length) (h1:SM f.Places.length):yZ f = some (others f):=by
 unfold yZ others
 rw [xO f h0 h1]
 cases hf:fits f with
 | true =>
  obtain ⟨hV,h4⟩:=tY hf
  have hp:=hV.kD
  have hp1:=hV.g.p1
  have hm:iM f ≤ 2:=by unfold iM; omega
  have Ov:25 ^ iM f ≤ 25 ^ 2:=Nat.pow_le_pow_right (by omega) hm
  have hn:f.Places.length = f.Graph.aC.toNat:=by omega
  have hmx:(if 0 < aJ (f.Graph.aC - 2) then aJ (f.Graph.aC - 2) else 0) = (iM f:Int):=by
   rw [jA (by omega) (by omega)]
   unfold iM
   split <;> omega
  have:=BX (b:=vK f) (s:=(0,[])) (fun k out => ((k:Int),out)) (fun code => jU f f.Graph [placed (iM f) code f.Places]) id 1 (25 ^ iM f) [] (by omega) rfl (fun k _ => CB ..) (fun k out hk ho => by
   simp only [List.length_nil,Nat.zero_add,Nat.one_mul] at ho
   have hd:=digits ((k:Int),out) (r:=f) hm hn (by omega) (by unfold iM; rfl) hk
   have hpl:(placed (iM f) k f.Places).length = f.Places.length:=by
    unfold placed
    split <;> simp
   unfold vK
   rw [hmx,JL hm,Option.bind_some,decide_eq_true (by simp only; omega),cond_true,MO f h0 h1]
   simp only [Option.bind_some]
   rw [show aJ (f.Graph.aC - 1) = ((f.Graph.aC.toNat - 1:Nat):Int) by rw [jA (by omega) (by omega)]; omega,hd]
   simp only [Option.bind_some]
   rw [show aH.mk (au.mk f.Graph.aC f.Graph.aB) (placed (iM f) k f.Places) = ⟨f.Graph,placed (iM f) k f.Places⟩ from rfl,Rq f ⟨f.Graph,placed (iM f) k f.Places⟩ h0 h1 h0 (by rw [hpl]; exact h1),CG,lC (by omega)]
   simp only [Option.bind_some]
   rw [pI (by simp; omega)]
   cases kY f ⟨f.Graph,placed (iM f) k f.Places⟩ <;> simp) (fun out => by
   unfold vK
   rw [hmx,JL hm,Option.bind_some,decide_eq_false (by simp only; omega)]
   rfl)
  unfold fits at hf
  rw [Bool.and_eq_true,Bool.not_eq_true'] at hf
  rw [hf.1,hf.2]
  simp only [Option.bind_some,Bool.not_true,cond_false,cond_true,this]
  unfold found
  rw [UH hm,CJ]
  rfl
 | false =>
  unfold fits at hf
  cases hv:vF f with
  | false => rfl
  | true =>
   rw [hv,Bool.true_and,Bool.not_eq_false'] at hf
   rw [hf]
   rfl
end
theorem NW {f:aH} {g:au} {L:List (List aO)} {x:aH} (h:x ∈ jU f g L):∃ pl ∈ L,x = ⟨g,pl⟩ ∧ kY f x = true:=by
 unfold jU at h
 obtain ⟨h1,h2⟩:=List.mem_filter.1 h
 obtain ⟨pl,h3,rfl⟩:=List.mem_map.1 h1
 exact ⟨pl,h3,rfl,h2⟩
theorem I8 {f x:aH} (h:x ∈ (others f).1):fits f = true ∧ x.Graph = f.Graph ∧ x.Places.length = f.Places.length ∧ kY f x = true:=by
 unfold others at h
 cases hf:fits f with
 | false => rw [hf] at h; cases h
 | true =>
  rw [hf] at h
  obtain ⟨pl,h1,rfl,h2⟩:=NW (L:=ways (iM f) 2 f.Places) h
  exact ⟨rfl,rfl,KH _ _ _ _ h1,h2⟩
theorem I9 (f:aH):(others f).1.length ≤ 625:=by
 unfold others
 cases hf:fits f with
 | false => exact Nat.zero_le _
 | true => exact Nj hf
end
end Go.Proofs.Ytdmlaldifbmkpaa
end
section
namespace Go.Fw
section
theorem Bz (p q:Nat) (fs:List (Int × Nat × Nat)):(dU p q fs).length = fs.length:=by simp [dU]
theorem Gg {p q:Nat} {fs:List (Int × Nat × Nat)} {j:Nat} {f:Int × Nat × Nat} (h:fs[j]? = some f):(dU p q fs)[j]? = some [.pv (.sc (.int .i64 f.1)),.tl p j 0 f.2.1,.tl q j 0 f.2.2]:=by
 unfold dU
 rw [List.getElem?_mapIdx,h]
 rfl
theorem Bo {p q:Nat} {fs:List (Int × Nat × Nat)} {j:Nat} {cs:List CV} (h:(dU p q fs)[j]? = some cs):∃ f,fs[j]? = some f ∧ cs = [.pv (.sc (.int .i64 f.1)),.tl p j 0 f.2.1,.tl q j 0 f.2.2]:=by
 unfold dU at h
 rw [List.getElem?_mapIdx] at h
 cases hl:fs[j]? with
 | none => rw [hl] at h; cases h
 | some f => rw [hl] at h; injection h with h; exact ⟨f,rfl,h.symm⟩
theorem NT (p q:Nat) (fs:List (Int × Nat × Nat)) (v:Int) (a b k1 k2:Nat) (h1:k1 = fs.length) (h2:k2 = fs.length):dU p q fs ++ [[.pv (.sc (.int .i64 v)),.tl p k1 0 a,.tl q k2 0 b]] = dU p q (fs ++ [(v,a,b)]):=by
 subst h1
 subst h2
 unfold dU
 rw [List.mapIdx_append]
 simp
theorem NS (p q:Nat) (fs:List (Int × Nat × Nat)) (j:Nat) (v:Int) (a b:Nat):(dU p q fs).set j [.pv (.sc (.int .i64 v)),.tl p j 0 a,.tl q j 0 b] = dU p q (fs.set j (v,a,b)):=by
 refine List.ext_getElem? fun i => ?_
 unfold dU
 rw [List.getElem?_set,List.getElem?_mapIdx,List.getElem?_mapIdx,List.getElem?_set]
 by_cases h:j = i
 ·subst h
  simp only [if_true,List.length_mapIdx]
  by_cases hl:j < fs.length
  ·simp [hl]
  ·simp [hl]
 ·simp [h]
theorem QS (l:List (List CV)):l.map (·.map (aZ [])) = l:=by
 simp [List.map_congr_left (fun x _ => xP x)]
theorem NQ {m p q k:Nat} {fs:List (Int × Nat × Nat)} (hk:k = fs.length) (hq:(![m,p].elem q) = true):∀ cs ∈ dU p q fs,∀ x ∈ cs,(∃ j o l,j ≠ k ∧ x = .tl p j o l) ∨ dS [m,p] x = true:=fun cs hcs x hx => by
 obtain ⟨j,hj⟩:=List.mem_iff_getElem?.1 hcs
 obtain ⟨f,hf,rfl⟩:=Bo hj
 have hjl:=(List.getElem?_eq_some_iff.1 hf).1
 simp only [List.mem_cons,List.not_mem_nil,or_false] at hx
 rcases hx with rfl | rfl | rfl
 ·exact .inr rfl
 ·exact .inl ⟨j,0,f.2.1,by omega,rfl⟩
 ·exact .inr hq
theorem NR {m p q k:Nat} {fs:List (Int × Nat × Nat)} (hk:k = fs.length) (hq:(![m,q].elem p) = true):∀ cs ∈ dU p q fs,∀ x ∈ cs,(∃ j o l,j ≠ k ∧ x = .tl q j o l) ∨ dS [m,q] x = true:=fun cs hcs x hx => by
 obtain ⟨j,hj⟩:=List.mem_iff_getElem?.1 hcs
 obtain ⟨f,hf,rfl⟩:=Bo hj
 have hjl:=(List.getElem?_eq_some_iff.1 hf).1
 simp only [List.mem_cons,List.not_mem_nil,or_false] at hx
 rcases hx with rfl | rfl | rfl
 ·exact .inr rfl
 ·exact .inr hq
 ·exact .inl ⟨j,0,f.2.2,by omega,rfl⟩
section
variable {P:Program} {C:Ctx} {σ:Slots} {mm:Mem} {α β γ:Type} {enc1:α → List PV} {enc2:β → List PV} {o:Oper}
theorem aU.ax {n p q:Nat} {e:TypeId} {fs:List (Int × Nat × Nat)} {cells:List (List CV)} (hc:cells = dU p q fs) (h:lk mm n = some (.row e cells)):aU P C σ mm σ ((n,.ax e p q fs) :: mm):=fun R B g a w hs => by
 subst hc
 have h0:RO P w R B g n (.row e (dU p q fs)):=hs.ob n _ h
 exact ⟨R,B,g,hs.obj h (show RO P w R B g n (.ax e p q fs) from h0)⟩
theorem aU.Gt {n p q:Nat} {e:TypeId} (h:lk mm n = some (.bZ e [])):aU P C σ mm σ ((n,.ax e p q []) :: mm):=fun R B g a w hs => by
 have h0:RO P w R B g n (.bZ e []):=hs.ob n _ h
 exact ⟨R,B,g,hs.obj h (show RO P w R B g n (.ax e p q []) from h0)⟩
theorem LT.Ep {ins:List (Operand × AV)} {v:AV} {df:Mem} {n p q:Nat} {e:TypeId} {fs:List (Int × Nat × Nat)} {W X:List Nat} (h:LT P o ins [(n,.row e (dU p q fs))] v df W X):LT P o ins [(n,.ax e p q fs)] v df W X :=
 h.conv (fun _ _ _ _ h => vS (ob:=.row e (dU p q fs)) (nX (ob:=.ax e p q fs) h)) fun _ _ _ _ h => h
theorem LT.MP {ins:List (Operand × AV)} {us:Mem} {v:AV} {n p q:Nat} {e:TypeId} {fs:List (Int × Nat × Nat)} {W X:List Nat} (h:LT P o ins us v [(n,.row e (dU p q fs))] W X):LT P o ins us v [(n,.ax e p q fs)] W X :=
 h.conv (fun _ _ _ _ h => h) fun _ _ _ _ h => vS (ob:=.ax e p q fs) (nX (ob:=.row e (dU p q fs)) h)
theorem LT.NP {t e:TypeId} {x y:Operand} {n n2 p q len mG:Nat} {fs:List (Int × Nat × Nat)} {dM:List (List CV)} {z:Value} {s jB:Nat} (hl:len = fs.length) (hl2:mG = dM.length) (ho:o.op = .call { callee:=.builtin .append,args:=#[x,y],argTypes:=#[t,t] }) (ht:P.underlying t = some (.slice e))
  (hz:TI P e z s jB) (hzs:z.cells.size = s) (hs:0 < s) (hb:jB ≤ 65536) (hc:(dM.all (fun cs => Nat.beq cs.length s && cs.all (dS [n])) && ![n].elem p && ![n].elem q) = true) (hlim:fs.length + dM.length ≤ lD) :
  LT P o [(x,Cc (.loc n 0 len)),(y,Cc (.loc n2 0 mG))] [(n,.ax e p q fs),(n2,.row e dM)] (Cc (.loc n 0 (len + mG))) [(n,.row e (dU p q fs ++ dM))] [n] [n]:=by
 simp only [Bool.and_eq_true,Bool.not_eq_true'] at hc
 have:=LT.RX (P:=P) (o:=o) (len:=len) (mG:=mG) (cells:=dU p q fs) (dM:=dM) (n:=n) (n2:=n2) (by rw [Bz]; exact hl) hl2 ho ht hz hzs hs hb hc.1.1 (fun cs hcs x hx => by
  obtain ⟨j,i,a,b,rfl⟩:=yj hcs
  simp only [List.mem_cons,List.not_mem_nil,or_false] at hx
  rcases hx with rfl | rfl | rfl
  ·rfl
  ·show (![n].elem p) = true
   rw [hc.1.2]; rfl
  ·show (![n].elem q) = true
   rw [hc.2]; rfl) (by rw [Bz]; exact hlim)
 exact this.conv (fun _ _ _ _ h => fun pr hp => by
  rcases List.mem_cons.1 hp with rfl | hp
  ·exact h (n,.ax e p q fs) List.mem_cons_self
  ·exact h pr (List.mem_cons_of_mem _ hp)) fun _ _ _ _ h => h
theorem LT.CO {x y:Operand} {t e:TypeId} {i:Int} {n p q len:Nat} {fs:List (Int × Nat × Nat)} {f:Int × Nat × Nat} (hl:len = fs.length) (ho:o.op = .indexAddr t x y) (h:lH P t = some e) (hi:idx fs i = some f) :
  LT P o [(x,Cc (.loc n 0 len)),(y,Iv i)] [(n,.ax e p q fs)] (Cc (.pl n (i.toNat * aW P e))) [] [] []:=by
 subst hl
 exact LT.Ep (LT.Hr ho h (uG hi) (Hq hi))
theorem LT.Gj {x:Operand} {t e:TypeId} {n p q off k:Nat} {i:Int} {fs:List (Int × Nat × Nat)} {f:Int × Nat × Nat} {c:CV} (ho:o.op = .load t x) (h:fP P t = some false) (hi:idx fs i = some f) (ha:off = i.toNat * aW P e + k) (hk:[CV.pv (.sc (.int .i64 f.1)),.tl p i.toNat 0 f.2.1,.tl q i.toNat 0 f.2.2][k]? = some c) :
  LT P o [(x,Cc (.pl n off))] [(n,.ax e p q fs)] (Cc c) [] [] [] :=
 LT.Ep (LT.IV ho h (Gg (pF hi)) hk ha)
theorem LT.Nl {t e:TypeId} {x y:Operand} {n p q off:Nat} {i v:Int} {fs:List (Int × Nat × Nat)} {f:Int × Nat × Nat} {it:TypeInfo} (ho:o.op = .store t x y) (hd:o.dst = none) (hit:P.info? t = some it) (hs:aW P t = 1) (hi:idx fs i = some f) (ha:off = i.toNat * aW P e) :
  LT P o [(x,Cc (.pl n off)),(y,Iv v)] [(n,.ax e p q fs)] (.bV []) [(n,.ax e p q (fs.set i.toNat (v,f.2.1,f.2.2)))] [n] []:=by
 have:=LT.store (P:=P) (o:=o) (n:=n) (off:=off) (e:=e) (x:=x) (y:=y) (k:=0) (v:=.c (.pv (.sc (.int .i64 v)))) ho hd hit hs rfl (Gg (p:=p) (q:=q) (pF hi)) (by rw [ha,Nat.add_zero]) (Nat.le_of_ble_eq_true rfl)
 rw [show ow [CV.pv (.sc (.int .i64 f.1)),.tl p i.toNat 0 f.2.1,.tl q i.toNat 0 f.2.2] 0 (fK (.c (.pv (.sc (.int .i64 v))))) = [.pv (.sc (.int .i64 v)),.tl p i.toNat 0 f.2.1,.tl q i.toNat 0 f.2.2] from rfl,NS] at this
 exact LT.MP (LT.Ep this)
theorem gW.wR {sh:Mem} {n p q len:Nat} {e e1 e2:TypeId} {xs:List γ} {pt:γ → Int} {ba:γ → List α} {pl:γ → List β} {fs:List (Int × Nat × Nat)} {r1:List (List α)} {r2:List (List β)} {oh:γ → List PV} (hl:len = xs.length) (hfs:fs = xs.map fun f => (pt f,(ba f).length,(pl f).length)) (hr1:r1 = xs.map ba) (hr2:r2 = xs.map pl)
  (h1:lk sh n = some (.ax e p q fs)) (h2:lk sh p = some (.pool e1 (rowsOf enc1 r1))) (h3:lk sh q = some (.pool e2 (rowsOf enc2 r2))) (hE:∀ f,oh f = [.sc (.int .i64 (pt f)),.xs false ((ba f).map enc1),.xs false ((pl f).map enc2)]):gW sh (.loc n 0 len) (.pv (.xs false (xs.map oh))):=by
 subst hl hfs hr1 hr2
 have hlen:(xs.map oh).length = xs.length:=List.length_map _
 rw [← hlen]
 have two:∀ (j:Nat) cs ps,(dU p q (xs.map fun f => (pt f,(ba f).length,(pl f).length)))[j]? = some cs → (xs.map oh)[j]? = some ps → ∃ f,xs[j]? = some f ∧ cs = [.pv (.sc (.int .i64 (pt f))),.tl p j 0 (ba f).length,.tl q j 0 (pl f).length] ∧ ps = [.sc (.int .i64 (pt f)),.xs false ((ba f).map enc1),.xs false ((pl f).map enc2)]:=fun j cs ps hj hp => by
  obtain ⟨f,hf,rfl⟩:=Bo hj
  rw [List.getElem?_map] at hf hp
  cases hx:xs[j]? with
  | none => rw [hx] at hf; cases hf
  | some x =>
   rw [hx] at hf hp
   injection hf with hf
   injection hp with hp
   subst hf
   exact ⟨x,rfl,rfl,by rw [← hp,hE]⟩
 refine gW.Gu h1 (by rw [Bz,List.length_map,List.length_map]) (fun j cs ps hj hp => ?_) fun j cs ps k c p' hj hp hc hp' => ?_
 ·obtain ⟨f,_,rfl,rfl⟩:=two j cs ps hj hp
  rfl
 ·obtain ⟨f,hf,rfl,rfl⟩:=two j cs ps hj hp
  match k with
  | 0 =>
   injection hc with hc
   injection hp' with hp'
   subst hc hp'
   exact .same rfl
  | 1 =>
   injection hc with hc
   injection hp' with hp'
   subst hc hp'
   exact gW.ttl rfl h2 (by rw [List.getElem?_map,hf]; rfl)
  | 2 =>
   injection hc with hc
   injection hp' with hp'
   subst hc hp'
   exact gW.ttl rfl h3 (by rw [List.getElem?_map,hf]; rfl)
  | k + 3 => simp at hc
end
end
section
def lW (ops:Array Oper) (σ:Slots) (o:Oper):Option (Bool × Bool):=match o.guard with
 | none => none
 | some (j,want) => ((ops[j]?).bind (·.dst)).bind fun d => match lk σ d with
  | some (.s (.c (.pv (.sc (.bool c))))) => some (c,want)
  | some (.bV []) => some (!want,want)
  | _ => none
theorem gH {ops:Array Oper} {σ:Slots} {o:Oper} {c c0 want b:Bool} (hc:c = c0) (h:lW ops σ o = some (c,want)) (hb:b = (c0 == want)):dH ops σ o b:=by
 subst hc hb
 unfold lW at h
 unfold dH
 cases hg:o.guard with
 | none => rw [hg] at h; cases h
 | some p =>
  obtain ⟨j,wt⟩:=p
  rw [hg] at h
  dsimp only at h
  cases hd:(ops[j]?).bind (·.dst) with
  | none => rw [hd] at h; cases h
  | some d =>
   rw [hd] at h
   refine ⟨d,hd,?_⟩
   simp only [Option.bind_some] at h
   split at h
   ·rename_i cc hl; injection h with h; injection h with h1 h2; subst h1 h2; exact .inl ⟨cc,hl,rfl⟩
   ·rename_i hl; injection h with h; injection h with h1 h2; subst h1 h2; exact .inr ⟨hl,by cases wt <;> rfl⟩
   ·cases h
theorem gS {ops:Array Oper} {σ:Slots} {o:Oper} {c want b:Bool} (h:lW ops σ o = some (c,want)) (hb:b = (c == want)):dH ops σ o b:=gH rfl h hb
abbrev FT (P:Program) {ρ:Type} (M:Option ρ) (f:FuncId) (args:List SV) (us:Mem) (rs:ρ → List SV) (dL:ρ → Mem) (X:List Nat):Prop:=∀ t,M = some t → Fn P f args us (jv (rs t)) (dL t) (keys us) X
section
variable {P:Program}
theorem FT.of (pn:List Nat) {f:FuncId} {fn:Func} {c:Code} {args:List SV} {us:Mem} {X:List Nat} {N:Nat} {ρ:Type} {M:Option ρ} {rs:ρ → List SV} {dL:ρ → Mem} (hf:P.funcs[f]? = some fn) (hN:fn.ntmps = N) (hb:fn.body = some c)
  (hs:args.length.ble N = true ∧ (bP (keys us) (pn ++ X) && gu X pn && bP pn (keys us)) = true)
  (h:∀ w0 U0 R0 g0,aA P ⟨w0,U0,R0,g0,N,pn⟩ [.code c] (oV 0 args) us M (dm P fn.results.toList us X rs dL)):FT P M f args us rs dL X :=
 Fn.of hf hb hN (Nat.le_of_ble_eq_true hs.1) hs.2 h
theorem FT.EJ (pn:List Nat) {f:FuncId} {fn:Func} {c:Code} {args:List SV} {us:Mem} {X:List Nat} {N:Nat} {ρ:Type} {M:Option ρ} {rs:ρ → List SV} {dL:ρ → Mem} (hf:P.funcs[f]? = some fn) (hN:fn.ntmps = N) (hb:fn.body = some c)
  (hs:args.length.ble N = true ∧ (bP (keys us) (pn ++ X) && gu X pn && bP pn (keys us)) = true)
  (h:∀ w0 U0 R0 g0,(∀ b,U0 b → ∃ n ∈ keys us,(g0 n).has b) → aA P ⟨w0,U0,R0,g0,N,pn⟩ [.code c] (oV 0 args) us M (dm P fn.results.toList us X rs dL)):FT P M f args us rs dL X :=
 Fn.EJ hf hb hN (Nat.le_of_ble_eq_true hs.1) hs.2 h
variable {C:Ctx} {σ:Slots} {m:Mem} {is:List It} {τ υ:Type} {M:Option τ} {K:τ → Post} {ops:Array Oper} {l:List Oper} {done:List Ct} {rest:List Oper} {o o':Oper}
theorem xW (c:CV) {x:Operand} {t e:TypeId} {n off:Nat} {cs:List CV} (ho:o.op = .load t x) (h:fP P t = some false) (hk:cs[off]? = some c:=by exact rfl):LT P o [(x,Cc (.pl n off))] [(n,.row e [cs])] (Cc c) [] [] []:=LT.l9 ho h hk
theorem fB (out:List CV) {x:Operand} {t e:TypeId} {n off s:Nat} {cs:List CV} (ho:o.op = .load t x) (h:fP P t = some true) (hi:(P.info? t).isSome = true) (hs:aW P t = s) (ho2:(cs.drop off).take s = out:=by exact rfl) (hl:out.length = s:=by exact rfl) :
  LT P o [(x,Cc (.pl n off))] [(n,.row e [cs])] (Ag out) [] [] []:=LT.kV ho h (gB hi) hs ho2 hl
theorem qi (v:SV) (out:List CV) {t e:TypeId} {n off s:Nat} {x y:Operand} {cs:List CV} (ho:o.op = .store t x y) (hd:o.dst = none) (hi:(P.info? t).isSome = true) (hs:aW P t = s) (hl:(fK v).length = s:=by exact rfl) (hk:(off + s).ble cs.length = true:=by exact rfl)
  (hout:ow cs off (fK v) = out:=by exact rfl):LT P o [(x,Cc (.pl n off)),(y,.s v)] [(n,.row e [cs])] (.bV []) [(n,.row e [out])] [n] []:=LT.tX ho hd (gB hi) hs hl (Nat.le_of_ble_eq_true hk) hout
theorem stA (v:List CV) {t e:TypeId} {n off s:Nat} {x y:Operand} {cs:List CV} (ho:o.op = .store t x y) (hd:o.dst = none) (hi:(P.info? t).isSome = true) (hs:aW P t = s) (hl:(fK (.agg v)).length = s:=by exact rfl) (hk:(off + s).ble cs.length = true:=by exact rfl)
  (hout:ow cs off (fK (.agg v)) = v:=by exact rfl):LT P o [(x,Cc (.pl n off)),(y,Ag v)] [(n,.row e [cs])] (.bV []) [(n,.row e [v])] [n] []:=LT.tX ho hd (gB hi) hs hl (Nat.le_of_ble_eq_true hk) hout
theorem bg (c:CV) {x x':Operand} {t t' e:TypeId} {i n off d:Nat} {cs:List CV} (hf:iy P t i = some d) (ha:fP P t' = some false)
  (h:o.op = .fieldAddr t x i ∧ bn σ x (Cc (.pl n off)) ∧ dH ops σ o true ∧ dG C.N o.dst = true ∧ o'.op = .load t' x' ∧ bn (bU σ o.dst (Cc (.pl n (off + d)))) x' (Cc (.pl n (off + d))) ∧ lk m n = some (.row e [cs]) ∧ dH ops (bU σ o.dst (Cc (.pl n (off + d)))) o' true ∧ dG C.N o'.dst = true ∧ cs[off + d]? = some c)
  (k:aS P C ops rest is (bU (bU σ o.dst (Cc (.pl n (off + d)))) o'.dst (Cc c)) m M K):aS P C ops (o :: o' :: rest) is σ m M K :=
 have ⟨a,b,c1,d1,a2,b2,l,c2,d2,z⟩:=h
 aT (LT.dO a hf) b c1 d1 (eY (LT.l9 a2 ha z) b2 l c2 d2 k)
theorem jV (c:CV) {x x':Operand} {t t' e:TypeId} {i n off d:Nat} {cs:List CV} {cb c0 w1 w2:Bool} (hf:iy P t i = some d) (ha:fP P t' = some false) (hc:cb = c0)
  (h:o.op = .fieldAddr t x i ∧ bn σ x (Cc (.pl n off)) ∧ lW ops σ o = some (cb,w1) ∧ true = (c0 == w1) ∧ dG C.N o.dst = true ∧ o'.op = .load t' x' ∧ bn (bU σ o.dst (Cc (.pl n (off + d)))) x' (Cc (.pl n (off + d))) ∧ lk m n = some (.row e [cs]) ∧ lW ops (bU σ o.dst (Cc (.pl n (off + d)))) o' = some (cb,w2) ∧ true = (c0 == w2) ∧ dG C.N o'.dst = true ∧ cs[off + d]? = some c)
  (k:aS P C ops rest is (bU (bU σ o.dst (Cc (.pl n (off + d)))) o'.dst (Cc c)) m M K):aS P C ops (o :: o' :: rest) is σ m M K :=
 have ⟨a,b,c1,c2,d1,a2,b2,l,c3,c4,d2,z⟩:=h
 aT (LT.dO a hf) b (gH hc c1 c2) d1 (eY (LT.l9 a2 ha z) b2 l (gH hc c3 c4) d2 k)
theorem jT (c:CV) {x x':Operand} {t t' e:TypeId} {i n off d:Nat} {cs:List CV} (hf:iy P t i = some d) (ha:fP P t' = some false)
  (h:o.op = .fieldAddr t x i ∧ bn σ x (Cc (.pl n off)) ∧ dH l.toArray σ o true ∧ dG C.N o.dst = true ∧ o'.op = .load t' x' ∧ bn (bU σ o.dst (Cc (.pl n (off + d)))) x' (Cc (.pl n (off + d))) ∧ lk m n = some (.row e [cs]) ∧ dH l.toArray (bU σ o.dst (Cc (.pl n (off + d)))) o' true ∧ dG C.N o'.dst = true ∧ cs[off + d]? = some c)
  (k:aP P C l (⟨[(x',Cc (.pl n (off + d)))],[(n,.row e [cs])],Cc c,[],[],[],true⟩ :: ⟨[(x,Cc (.pl n off))],[],Cc (.pl n (off + d)),[],[],[],true⟩ :: done) rest is (bU (bU σ o.dst (Cc (.pl n (off + d)))) o'.dst (Cc c)) m M K):aP P C l done (o :: o' :: rest) is σ m M K :=
 have ⟨a,b,c1,d1,a2,b2,l,c2,d2,z⟩:=h
 bT (LT.dO a hf) b c1 d1 (gV (LT.l9 a2 ha z) b2 l c2 d2 k)
theorem kP (c:CV) {x x':Operand} {t t' e:TypeId} {i n off d:Nat} {cs:List CV} {cb c0 w1 w2:Bool} (hf:iy P t i = some d) (ha:fP P t' = some false) (hc:cb = c0)
  (h:o.op = .fieldAddr t x i ∧ bn σ x (Cc (.pl n off)) ∧ lW l.toArray σ o = some (cb,w1) ∧ true = (c0 == w1) ∧ dG C.N o.dst = true ∧ o'.op = .load t' x' ∧ bn (bU σ o.dst (Cc (.pl n (off + d)))) x' (Cc (.pl n (off + d))) ∧ lk m n = some (.row e [cs]) ∧ lW l.toArray (bU σ o.dst (Cc (.pl n (off + d)))) o' = some (cb,w2) ∧ true = (c0 == w2) ∧ dG C.N o'.dst = true ∧ cs[off + d]? = some c)
  (k:aP P C l (⟨[(x',Cc (.pl n (off + d)))],[(n,.row e [cs])],Cc c,[],[],[],true⟩ :: ⟨[(x,Cc (.pl n off))],[],Cc (.pl n (off + d)),[],[],[],true⟩ :: done) rest is (bU (bU σ o.dst (Cc (.pl n (off + d)))) o'.dst (Cc c)) m M K):aP P C l done (o :: o' :: rest) is σ m M K :=
 have ⟨a,b,c1,c2,d1,a2,b2,l,c3,c4,d2,z⟩:=h
 bT (LT.dO a hf) b (gH hc c1 c2) d1 (gV (LT.l9 a2 ha z) b2 l (gH hc c3 c4) d2 k)
theorem fV {j:Nat} {want:Bool} {d:Tmp} {c:Bool} (h:o.guard = some (j,want) ∧ (ops[j]?).bind (·.dst) = some d ∧ lk σ d = some (Bv c) ∧ (c == want) = false ∧ dG C.N o.dst = true) (k:aS P C ops rest is (bU σ o.dst (.bV [])) m M K):aS P C ops (o :: rest) is σ m M K:=Ok h.1 h.2.1 h.2.2.1 h.2.2.2.1 h.2.2.2.2 k
theorem bF {j:Nat} {want:Bool} {d:Tmp} {c c0:Bool} (hc:c = c0) (h:o.guard = some (j,want) ∧ (ops[j]?).bind (·.dst) = some d ∧ lk σ d = some (Bv c) ∧ (c0 == want) = false ∧ dG C.N o.dst = true) (k:aS P C ops rest is (bU σ o.dst (.bV [])) m M K):aS P C ops (o :: rest) is σ m M K:=Ok h.1 h.2.1 h.2.2.1 (hc ▸ h.2.2.2.1) h.2.2.2.2 k
theorem aY {c want:Bool} (h:lW l.toArray σ o = some (c,want) ∧ false = (c == want) ∧ dG C.N o.dst = true) (k:aP P C l (⟨[],[],.bV [],[],[],[],false⟩ :: done) rest is (bU σ o.dst (.bV [])) m M K):aP P C l done (o :: rest) is σ m M K:=aP.skip (gS h.1 h.2.1) h.2.2 k
theorem ai {c c0 want:Bool} (hc:c = c0) (h:lW l.toArray σ o = some (c,want) ∧ false = (c0 == want) ∧ dG C.N o.dst = true) (k:aP P C l (⟨[],[],.bV [],[],[],[],false⟩ :: done) rest is (bU σ o.dst (.bV [])) m M K):aP P C l done (o :: rest) is σ m M K:=aP.skip (gH hc h.1 h.2.1) h.2.2 k
theorem aK (v:AV) {x:Operand} (h:o.op = .move x ∧ bn σ x v ∧ dH ops σ o true ∧ dG C.N o.dst = true) (k:aS P C ops rest is (bU σ o.dst v) m M K):aS P C ops (o :: rest) is σ m M K:=mv v h.1 h.2.1 h.2.2.1 h.2.2.2 k
theorem aN (v:AV) {x:Operand} (h:o.op = .assign x ∧ bn σ x v ∧ dH ops σ o true ∧ dG C.N o.dst = true) (k:aS P C ops rest is (bU σ o.dst v) m M K):aS P C ops (o :: rest) is σ m M K:=dw v h.1 h.2.1 h.2.2.1 h.2.2.2 k
theorem vO (v:AV) {x:Operand} {c c0 w:Bool} (hc:c = c0) (h:o.op = .move x ∧ bn σ x v ∧ lW ops σ o = some (c,w) ∧ true = (c0 == w) ∧ dG C.N o.dst = true) (k:aS P C ops rest is (bU σ o.dst v) m M K):aS P C ops (o :: rest) is σ m M K:=mv v h.1 h.2.1 (gH hc h.2.2.1 h.2.2.2.1) h.2.2.2.2 k
theorem dA (v:AV) {x:Operand} (h:o.op = .move x ∧ bn σ x v ∧ dH l.toArray σ o true ∧ dG C.N o.dst = true) (k:aP P C l (⟨[(x,v)],[],v,[],[],[],true⟩ :: done) rest is (bU σ o.dst v) m M K):aP P C l done (o :: rest) is σ m M K:=bT (LT.move h.1) h.2.1 h.2.2.1 h.2.2.2 k
theorem oI (v:AV) {x:Operand} {c c0 w:Bool} (hc:c = c0) (h:o.op = .move x ∧ bn σ x v ∧ lW l.toArray σ o = some (c,w) ∧ true = (c0 == w) ∧ dG C.N o.dst = true) (k:aP P C l (⟨[(x,v)],[],v,[],[],[],true⟩ :: done) rest is (bU σ o.dst v) m M K):aP P C l done (o :: rest) is σ m M K:=bT (LT.move h.1) h.2.1 (gH hc h.2.2.1 h.2.2.2.1) h.2.2.2.2 k
theorem ah {x0 x1:Operand} {v0 v1 v:AV} {A:Prop} (f:A → LT P o [(x0,v0),(x1,v1)] [] v [] [] []) (h:A ∧ bn σ x0 v0 ∧ bn σ x1 v1 ∧ dH ops σ o true ∧ dG C.N o.dst = true) (k:aS P C ops rest is (bU σ o.dst v) m M K):aS P C ops (o :: rest) is σ m M K:=dF (f h.1) h.2.1 h.2.2.1 h.2.2.2.1 h.2.2.2.2 k
theorem lF {x0 x1:Operand} {v0 v1 v:AV} {A:Prop} {c c0 w:Bool} (f:A → LT P o [(x0,v0),(x1,v1)] [] v [] [] []) (hc:c = c0) (h:A ∧ bn σ x0 v0 ∧ bn σ x1 v1 ∧ lW ops σ o = some (c,w) ∧ true = (c0 == w) ∧ dG C.N o.dst = true) (k:aS P C ops rest is (bU σ o.dst v) m M K):aS P C ops (o :: rest) is σ m M K:=dF (f h.1) h.2.1 h.2.2.1 (gH hc h.2.2.2.1 h.2.2.2.2.1) h.2.2.2.2.2 k
theorem qo {x0 x1:Operand} {v0 v1 v:AV} {A:Prop} (f:A → LT P o [(x0,v0),(x1,v1)] [] v [] [] []) (h:A ∧ bn σ x0 v0 ∧ bn σ x1 v1 ∧ dH l.toArray σ o true ∧ dG C.N o.dst = true) (k:aP P C l (⟨[(x0,v0),(x1,v1)],[],v,[],[],[],true⟩ :: done) rest is (bU σ o.dst v) m M K):aP P C l done (o :: rest) is σ m M K:=dP (f h.1) h.2.1 h.2.2.1 h.2.2.2.1 h.2.2.2.2 k
theorem l7 {x0 x1:Operand} {v0 v1 v:AV} {A:Prop} {c c0 w:Bool} (f:A → LT P o [(x0,v0),(x1,v1)] [] v [] [] []) (hc:c = c0) (h:A ∧ bn σ x0 v0 ∧ bn σ x1 v1 ∧ lW l.toArray σ o = some (c,w) ∧ true = (c0 == w) ∧ dG C.N o.dst = true) (k:aP P C l (⟨[(x0,v0),(x1,v1)],[],v,[],[],[],true⟩ :: done) rest is (bU σ o.dst v) m M K):aP P C l done (o :: rest) is σ m M K:=dP (f h.1) h.2.1 h.2.2.1 (gH hc h.2.2.2.1 h.2.2.2.2.1) h.2.2.2.2.2 k
theorem jI (v:AV) {c x y:Operand} {b:Bool} (hb:b = true) (h:o.op = .pick c x y ∧ bn σ c (Bv b) ∧ bn σ x v ∧ dH ops σ o true ∧ dG C.N o.dst = true) (k:aS P C ops rest is (bU σ o.dst v) m M K):aS P C ops (o :: rest) is σ m M K:=dF (LT.mQ h.1 hb) h.2.1 h.2.2.1 h.2.2.2.1 h.2.2.2.2 k
theorem jr (v:AV) {c x y:Operand} {b:Bool} (hb:b = false) (h:o.op = .pick c x y ∧ bn σ c (Bv b) ∧ bn σ y v ∧ dH ops σ o true ∧ dG C.N o.dst = true) (k:aS P C ops rest is (bU σ o.dst v) m M K):aS P C ops (o :: rest) is σ m M K:=dF (LT.nT h.1 hb) h.2.1 h.2.2.1 h.2.2.2.1 h.2.2.2.2 k
theorem jY (v:AV) {c x y:Operand} {b:Bool} (hb:b = true) (h:o.op = .pick c x y ∧ bn σ c (Bv b) ∧ bn σ x v ∧ dH l.toArray σ o true ∧ dG C.N o.dst = true) (k:aP P C l (⟨[(c,Bv b),(x,v)],[],v,[],[],[],true⟩ :: done) rest is (bU σ o.dst v) m M K):aP P C l done (o :: rest) is σ m M K:=dP (LT.mQ h.1 hb) h.2.1 h.2.2.1 h.2.2.2.1 h.2.2.2.2 k
theorem iW (v:AV) {c x y:Operand} {b:Bool} (hb:b = false) (h:o.op = .pick c x y ∧ bn σ c (Bv b) ∧ bn σ y v ∧ dH l.toArray σ o true ∧ dG C.N o.dst = true) (k:aP P C l (⟨[(c,Bv b),(y,v)],[],v,[],[],[],true⟩ :: done) rest is (bU σ o.dst v) m M K):aP P C l done (o :: rest) is σ m M K:=dP (LT.nT h.1 hb) h.2.1 h.2.2.1 h.2.2.2.1 h.2.2.2.2 k
theorem bK {t:τ} {σ':Slots} {m':Mem} (e:K t .normal σ m = (Exit.normal = Exit.normal ∧ aU P C σ m σ' m')) (h1:oU σ' σ) (h2:oQ m' m):aA P C [] σ m (some t) K:=aA.nil (by rw [e]; exact ⟨rfl,aU.of h1 h2⟩)
theorem cF (xs:List SV) (sh:Mem) {cf:Operand} {f:FuncId} {os:Array Operand} {ts:Array TypeId} {ys:List SV} {us df:Mem} {v:AV} {W X:List Nat} (hf:Fn P f ys us v df W X) (hb:cZ P f = true) (hsh:jZ sh xs ys) (hus:qE (keys sh) us)
  (h:o.op = .call { callee:=.value cf,args:=os,argTypes:=ts } ∧ os.size = xs.length ∧ (gu (keys sh) (W ++ X ++ keys us ++ keys df ++ []) && bP W (keys us)) = true):LT P o ((cf,Cc (.fn f [])) :: qB os.toList xs) (us ++ sh) v df W X:=LT.iR hf h.1 hb hsh h.2.1 h.2.2 hus
theorem iF (xs:List SV) {cf:Operand} {f:FuncId} {os:Array Operand} {ts:Array TypeId} {ys:List SV} {us df:Mem} {v:AV} {W X:List Nat} (hf:Fn P f ys us v df W X) (hb:cZ P f = true) (hsh:jZ [] xs ys) (hus:qE (keys ([]:Mem)) us)
  (h:o.op = .call { callee:=.value cf,args:=os,argTypes:=ts } ∧ os.size = xs.length ∧ (gu (keys ([]:Mem)) (W ++ X ++ keys us ++ keys df ++ []) && bP W (keys us)) = true):LT P o ((cf,Cc (.fn f [])) :: qB os.toList xs) (us ++ []) v df W X:=LT.iR hf h.1 hb hsh h.2.1 h.2.2 hus
theorem eU (n:Nat) (v:SV) {t:TypeId} {s:Nat} {x:Operand} (hs:aW P t = s) (h:o.op = .box t x ∧ (fK v).length = s ∧ bn σ x (.s v) ∧ dH ops σ o true ∧ (dG C.N o.dst && bP [] ([n] ++ keys [(n,Ob.row t [(fK v).map (aZ [n])])]) && bP [] (keys ([]:Mem)) && bP (keys [(n,Ob.row t [(fK v).map (aZ [n])])]) ([n] ++ []) && gu [n] C.pn) = true)
  (k:aS P C ops rest is (bU (iI [n] σ) o.dst (Cc (.pl n 0))) ([(n,Ob.row t [(fK v).map (aZ [n])])] ++ fE [n] m) M K):aS P C ops (o :: rest) is σ m M K :=
 qw (LT.box h.1 hs h.2.1) h.2.2.1 h.2.2.2.1 h.2.2.2.2 k
theorem ja (n:Nat) (cells:List CV) {t:TypeId} {s b:Nat} {z:Value} (ht:TI P t z s b) (h:o.op = .alloc t ∧ z.cells.toList.map sC = cells ∧ z.cells.toList.all (·.oneCell') = true ∧ cells.length = s ∧ dH ops σ o true ∧ (dG C.N o.dst && bP [] ([n] ++ keys [(n,Ob.row t [cells.map (aZ [n])])]) && bP [] (keys ([]:Mem)) && bP (keys [(n,Ob.row t [cells.map (aZ [n])])]) ([n] ++ []) && gu [n] C.pn) = true)
  (k:aS P C ops rest is (bU (iI [n] σ) o.dst (Cc (.pl n 0))) ([(n,Ob.row t [cells.map (aZ [n])])] ++ fE [n] m) M K):aS P C ops (o :: rest) is σ m M K :=
 oP (LT.alloc h.1 ht h.2.1 h.2.2.1 h.2.2.2.1) h.2.2.2.2.1 h.2.2.2.2.2 k
theorem ny {α:Type} (n:Nat) (enc:α → List PV) (ps:Parts) (xs:List α) {t e:TypeId} {len:Nat} {parts:Array (Nat × Operand)} {z:Value} {s b:Nat} {zc:List CV} (he:P.underlying t = some (.slice e)) (hz:TI P e z s b)
  (h:o.op = .buildSlice t len parts ∧ parts.toList = Parts.ops ps ∧ z.cells.toList.map sC = zc ∧ z.cells.toList.all (·.oneCell') = true ∧ zc.length = s ∧ xs.length = len ∧ rM (fun i => some (i * s,s)) ((List.range (len * s)).map fun i => zc.getD (i % s) .junk) (Parts.vals ps) = some (bf (xs.map enc)).flatten)
  (hel:∀ a,(enc a).length = s:=by exact fun _ => rfl) (hmax:len * s ≤ 16777216 ∧ 0 < s:=by decide):LT P o (Parts.ins ps) [] (Cc (.loc n 0 xs.length)) [(n,.bZ e (xs.map enc))] [] [n] :=
 LT.Eh ps xs h.1 h.2.1 he hz h.2.2.1 h.2.2.2.1 h.2.2.2.2.1 h.2.2.2.2.2.1 hmax hel h.2.2.2.2.2.2
theorem gq {x:Operand} {t:TypeId} {q:Bool} {cs:List PV} {s:Nat} (ho:o.op = .load t x) (h:fP P t = some true) (hi:(P.info? t).isSome = true) (hs:aW P t = s) (hl:cs.length = s:=by exact rfl):LT P o [(x,Cc (.px q cs))] [] (Ag (cs.map .pv)) [] [] []:=LT.Qa ho h (gB hi) (hl.trans hs.symm)
theorem sQ {α:Type} {enc:α → List PV} (k:Nat) (v:SV) (b':α) {t e:TypeId} {n off s:Nat} {x y:Operand} {i:Int} {xs:List α} {b:α} (ho:o.op = .store t x y) (hd:o.dst = none) (hit:(P.info? t).isSome = true) (hs:aW P t = s) (hi:idx xs i = some b)
  (hl:(fK v).length = s:=by exact rfl) (ha:off = i.toNat * aW P e + k:=by exact rfl) (hk:(k + s).ble (enc b).length = true:=by exact rfl) (hb:ow ((enc b).map .pv) k (fK v) = (enc b').map .pv:=by exact rfl) :
  LT P o [(x,Cc (.pl n off)),(y,.s v)] [(n,.bZ e (xs.map enc))] (.bV []) [(n,.bZ e ((xs.set i.toNat b').map enc))] [n] []:=LT.Jy ho hd (gB hit) hs hl hi ha (Nat.le_of_ble_eq_true hk) hb
theorem bI {ρ:Type} {res:List ResultVar} {us:Mem} {X:List Nat} {rs:ρ → List SV} {dL:ρ → Mem} {t:ρ} (h1:lT P σ m res (rs t)) (h2:iq m (dL t)) (h3:ng (rs t)) (h4:qy (dL t))
  (hs:(bP (keys us) (keys (dL t)) && bP X (keys (dL t)) && okA (keys us ++ X) (jv (rs t)) && (dL t).all (fun p => (keys us ++ X).elem p.1 && okO (keys us ++ X) p.2)) = true:=by exact rfl):aA P C (.code .ret :: is) σ m (some t) (dm P res us X rs dL):=aA.ret (dm.mk (.inr rfl) h1 h2 hs h3 h4)
theorem jc {ρ:Type} {res:List ResultVar} {us:Mem} {X:List Nat} {rs:ρ → List SV} {dL:ρ → Mem} {t:ρ} (h1:lT P σ m res (rs t)) (h2:iq m (dL t)) (h3:ng (rs t)) (h4:qy (dL t))
  (hs:(bP (keys us) (keys (dL t)) && bP X (keys (dL t)) && okA (keys us ++ X) (jv (rs t)) && (dL t).all (fun p => (keys us ++ X).elem p.1 && okO (keys us ++ X) p.2)) = true:=by exact rfl):dm P res us X rs dL t .ret σ m:=dm.mk (.inr rfl) h1 h2 hs h3 h4
theorem jC (xs:List SV) {cf:Operand} {f:FuncId} {os:Array Operand} {ts:Array TypeId} {ys:List SV} {v:AV} (hf:Fn P f ys [] v [] [] []) (hb:cZ P f = true) (hsh:jZ [] xs ys)
  (h:o.op = .call { callee:=.value cf,args:=os,argTypes:=ts } ∧ os.size = xs.length ∧ (gu (keys ([]:Mem)) ([] ++ [] ++ keys ([]:Mem) ++ keys ([]:Mem) ++ []) && bP [] (keys ([]:Mem))) = true ∧ dH ops σ o true ∧ dG C.N o.dst = true) (he:EvL σ ((cf,Cc (.fn f [])) :: qB os.toList xs))
  (k:aS P C ops rest is (bU σ o.dst v) m M K):aS P C ops (o :: rest) is σ m M K:=aS.pure (LT.iR (us:=[]) hf h.1 hb hsh h.2.1 h.2.2.1 trivial) he trivial h.2.2.2.1 h.2.2.2.2 k
theorem ig {id:Nat} {t:τ} {σ':Slots} {m':Mem} (e:nK id is = false ∧ K t (.exit id) σ m = (Exit.exit id = Exit.exit id ∧ aU P C σ m σ' m')) (h1:oU σ' σ) (h2:oQ m' m):aA P C (.code (.exit id) :: is) σ m (some t) K:=aA.qL e.1 (by rw [e.2]; exact ⟨rfl,aU.of h1 h2⟩)
theorem kT {ρ:Type} {K:ρ → Post}:∀ (r t:ρ) (σ:Slots) (m:Mem),(some r:Option ρ) = some t → K r .ret σ m → K t .ret σ m:=fun r t σ m ht hk => by
 injection ht with ht
 subst ht
 exact hk
theorem fD (h:aA P C is σ m M K) (hd:zW l done.reverse = true:=by kernel_rfl):aP P C l done [] is σ m M K:=aP.nil hd h
end
end
end Go.Fw
end
section
open Go Go.Fw
namespace Go.Proofs.Ytdmlaldifbmkpaa
section
theorem Q {α:Type} {a:α}:a = a:=rfl
theorem J:True:=trivial
theorem K {n m:Nat} (h:n.ble m = true):n ≤ m:=Nat.le_of_ble_eq_true h
section
variable {α0 α1 α2 α3 α4 α5 α6 α7 α8 α9 α10 α11 α12 α13 α14 α15:Type} {a0:α0} {a1:α1} {a2:α2} {a3:α3} {a4:α4} {a5:α5} {a6:α6} {a7:α7} {a8:α8} {a9:α9} {a10:α10} {a11:α11} {a12:α12} {UJ:α13} {UK:α14} {UL:α15}
theorem z1:a0 = a0 ∧ True:=⟨rfl, trivial⟩
theorem z2:a0 = a0 ∧ a1 = a1 ∧ True:=⟨rfl, rfl, trivial⟩
theorem y2:a0 = a0 ∧ a1 = a1:=⟨rfl, rfl⟩
theorem z3:a0 = a0 ∧ a1 = a1 ∧ a2 = a2 ∧ True:=⟨rfl, rfl, rfl, trivial⟩
theorem y3:a0 = a0 ∧ a1 = a1 ∧ a2 = a2:=⟨rfl, rfl, rfl⟩
theorem z4:a0 = a0 ∧ a1 = a1 ∧ a2 = a2 ∧ a3 = a3 ∧ True:=⟨rfl, rfl, rfl, rfl, trivial⟩
theorem y4:a0 = a0 ∧ a1 = a1 ∧ a2 = a2 ∧ a3 = a3:=⟨rfl, rfl, rfl, rfl⟩
theorem z5:a0 = a0 ∧ a1 = a1 ∧ a2 = a2 ∧ a3 = a3 ∧ a4 = a4 ∧ True:=⟨rfl, rfl, rfl, rfl, rfl, trivial⟩
theorem z6:a0 = a0 ∧ a1 = a1 ∧ a2 = a2 ∧ a3 = a3 ∧ a4 = a4 ∧ a5 = a5 ∧ True:=⟨rfl, rfl, rfl, rfl, rfl, rfl, trivial⟩
theorem z7:a0 = a0 ∧ a1 = a1 ∧ a2 = a2 ∧ a3 = a3 ∧ a4 = a4 ∧ a5 = a5 ∧ a6 = a6 ∧ True:=⟨rfl, rfl, rfl, rfl, rfl, rfl, rfl, trivial⟩
theorem ak:a0 = a0 ∧ a1 = a1 ∧ (a2 = a2 ∧ a3 = a3) ∧ a4 = a4 ∧ a5 = a5:=⟨rfl, rfl, ⟨rfl, rfl⟩, rfl, rfl⟩
theorem kz:a0 = a0 ∧ a1 = a1 ∧ (a2 = a2 ∧ a3 = a3) ∧ a4 = a4 ∧ a5 = a5 ∧ a6 = a6:=⟨rfl, rfl, ⟨rfl, rfl⟩, rfl, rfl, rfl⟩
theorem aV:a0 = a0 ∧ (a1 = a1 ∧ a2 = a2) ∧ a3 = a3 ∧ a4 = a4:=⟨rfl, ⟨rfl, rfl⟩, rfl, rfl⟩
theorem Sm:a0 = a0 ∧ (a1 = a1 ∧ a2 = a2) ∧ a3 = a3 ∧ a4 = a4 ∧ a5 = a5:=⟨rfl, ⟨rfl, rfl⟩, rfl, rfl, rfl⟩
theorem bG:a0 = a0 ∧ a1 = a1 ∧ a2 = a2 ∧ a3 = a3 ∧ a4 = a4 ∧ a5 = a5 ∧ a6 = a6 ∧ a7 = a7 ∧ a8 = a8 ∧ a9 = a9:=⟨rfl, rfl, rfl, rfl, rfl, rfl, rfl, rfl, rfl, rfl⟩
theorem fF:a0 = a0 ∧ a1 = a1 ∧ a2 = a2 ∧ a3 = a3 ∧ a4 = a4 ∧ a5 = a5 ∧ a6 = a6 ∧ a7 = a7 ∧ a8 = a8 ∧ a9 = a9 ∧ a10 = a10 ∧ a11 = a11:=⟨rfl, rfl, rfl, rfl, rfl, rfl, rfl, rfl, rfl, rfl, rfl, rfl⟩
theorem y5:a0 = a0 ∧ a1 = a1 ∧ a2 = a2 ∧ a3 = a3 ∧ a4 = a4:=⟨rfl, rfl, rfl, rfl, rfl⟩
theorem y6:a0 = a0 ∧ a1 = a1 ∧ a2 = a2 ∧ a3 = a3 ∧ a4 = a4 ∧ a5 = a5:=⟨rfl, rfl, rfl, rfl, rfl, rfl⟩
theorem y7:a0 = a0 ∧ a1 = a1 ∧ a2 = a2 ∧ a3 = a3 ∧ a4 = a4 ∧ a5 = a5 ∧ a6 = a6:=⟨rfl, rfl, rfl, rfl, rfl, rfl, rfl⟩
end
theorem Ji {sh:Mem} {x0:CV} (h:aZ (keys sh) x0 = x0):jZ sh [.c x0] [.c x0]:=.cons (.c (.same h)) .nil
theorem mV {sh:Mem} {x0 x1:CV} (h:aZ (keys sh) x0 = x0 ∧ aZ (keys sh) x1 = x1):jZ sh [.c x0, .c x1] [.c x0, .c x1]:=.cons (.c (.same h.1)) (.cons (.c (.same h.2)) .nil)
theorem ve {sh:Mem} {x0 x1 x2:CV} (h:aZ (keys sh) x0 = x0 ∧ aZ (keys sh) x1 = x1 ∧ aZ (keys sh) x2 = x2):jZ sh [.c x0, .c x1, .c x2] [.c x0, .c x1, .c x2]:=.cons (.c (.same h.1)) (.cons (.c (.same h.2.1)) (.cons (.c (.same h.2.2)) .nil))
theorem qg {sh:Mem} {x0 x1:CV} (h:aZ (keys sh) x0 = x0 ∧ aZ (keys sh) x1 = x1):jZ sh [.agg [x0, x1]] [.agg [x0, x1]]:=.cons (.agg (.cons (.same h.1) (.cons (.same h.2) .nil))) .nil
theorem Jj {sh:Mem} {x0 x1 x2:CV} (h:aZ (keys sh) x0 = x0 ∧ aZ (keys sh) x1 = x1 ∧ aZ (keys sh) x2 = x2):jZ sh [.agg [x0, x1], .c x2] [.agg [x0, x1], .c x2]:=.cons (.agg (.cons (.same h.1) (.cons (.same h.2.1) .nil))) (.cons (.c (.same h.2.2)) .nil)
theorem sN {sh:Mem} {x0 x1 x2 x3:CV} (h:aZ (keys sh) x0 = x0 ∧ aZ (keys sh) x1 = x1 ∧ aZ (keys sh) x2 = x2 ∧ aZ (keys sh) x3 = x3):jZ sh [.agg [x0, x1], .agg [x2, x3]] [.agg [x0, x1], .agg [x2, x3]]:=.cons (.agg (.cons (.same h.1) (.cons (.same h.2.1) .nil))) (.cons (.agg (.cons (.same h.2.2.1) (.cons (.same h.2.2.2) .nil))) .nil)
theorem mW {sh:Mem} {x0 x1 x2:CV} (h:aZ (keys sh) x0 = x0 ∧ aZ (keys sh) x1 = x1 ∧ aZ (keys sh) x2 = x2):jZ sh [.agg [x0, x1, x2]] [.agg [x0, x1, x2]]:=.cons (.agg (.cons (.same h.1) (.cons (.same h.2.1) (.cons (.same h.2.2) .nil)))) .nil
theorem Ru {sh:Mem} {x0 x1 x2 x3 x4:CV} (h:aZ (keys sh) x0 = x0 ∧ aZ (keys sh) x1 = x1 ∧ aZ (keys sh) x2 = x2 ∧ aZ (keys sh) x3 = x3 ∧ aZ (keys sh) x4 = x4):jZ sh [.agg [x0, x1, x2], .c x3, .c x4] [.agg [x0, x1, x2], .c x3, .c x4]:=.cons (.agg (.cons (.same h.1) (.cons (.same h.2.1) (.cons (.same h.2.2.1) .nil)))) (.cons (.c (.same h.2.2.2.1)) (.cons (.c (.same h.2.2.2.2)) .nil))
theorem Rw {sh:Mem} {x0 x1 x2 x3 x4 x5:CV} (h:aZ (keys sh) x0 = x0 ∧ aZ (keys sh) x1 = x1 ∧ aZ (keys sh) x2 = x2 ∧ aZ (keys sh) x3 = x3 ∧ aZ (keys sh) x4 = x4 ∧ aZ (keys sh) x5 = x5):jZ sh [.agg [x0, x1, x2], .agg [x3, x4, x5]] [.agg [x0, x1, x2], .agg [x3, x4, x5]]:=.cons (.agg (.cons (.same h.1) (.cons (.same h.2.1) (.cons (.same h.2.2.1) .nil)))) (.cons (.agg (.cons (.same h.2.2.2.1) (.cons (.same h.2.2.2.2.1) (.cons (.same h.2.2.2.2.2) .nil)))) .nil)
abbrev aj (x:aH):List CV:=[(iC x.Graph.aC), (xF aG x.Graph.aB), (xF aI x.Places)]
abbrev bM (x:au):List CV:=[(iC x.aC), (xF aG x.aB)]
theorem FD:fP Try.prog 104 = some false:=by kernel_rfl
theorem KY:fP Try.prog 145 = some true:=by kernel_rfl
theorem KZ:fP Try.prog 150 = some true:=by kernel_rfl
theorem gK:fP Try.prog 24 = some false:=by kernel_rfl
theorem kN:fP Try.prog 26 = some true:=by kernel_rfl
theorem iJ:fP Try.prog 27 = some false:=by kernel_rfl
theorem gX:fP Try.prog 29 = some true:=by kernel_rfl
theorem bD:fP Try.prog 3 = some false:=by kernel_rfl
theorem FH:fP Try.prog 48 = some false:=by kernel_rfl
theorem FI:fP Try.prog 50 = some true:=by kernel_rfl
theorem FK:fP Try.prog 51 = some false:=by kernel_rfl
theorem wI:fP Try.prog 53 = some true:=by kernel_rfl
theorem FM:fP Try.prog 55 = some false:=by kernel_rfl
theorem lG:fP Try.prog 82 = some true:=by kernel_rfl
theorem jS:fP Try.prog 96 = some true:=by kernel_rfl
theorem LD:cZ Try.prog 102 = true:=by kernel_rfl
theorem LG:cZ Try.prog 103 = true:=by kernel_rfl
theorem LH:cZ Try.prog 104 = true:=by kernel_rfl
theorem LJ:cZ Try.prog 105 = true:=by kernel_rfl
theorem FZ:cZ Try.prog 106 = true:=by kernel_rfl
theorem Fa:cZ Try.prog 107 = true:=by kernel_rfl
theorem LK:cZ Try.prog 108 = true:=by kernel_rfl
theorem Fb:cZ Try.prog 109 = true:=by kernel_rfl
theorem LM:cZ Try.prog 110 = true:=by kernel_rfl
theorem LP:cZ Try.prog 111 = true:=by kernel_rfl
theorem LQ:cZ Try.prog 112 = true:=by kernel_rfl
theorem LU:cZ Try.prog 117 = true:=by kernel_rfl
theorem LV:cZ Try.prog 118 = true:=by kernel_rfl
theorem zQ:cZ Try.prog 12 = true:=by kernel_rfl
theorem LW:cZ Try.prog 123 = true:=by kernel_rfl
theorem LX:cZ Try.prog 127 = true:=by kernel_rfl
theorem LY:cZ Try.prog 128 = true:=by kernel_rfl
theorem LZ:cZ Try.prog 129 = true:=by kernel_rfl
theorem La:cZ Try.prog 130 = true:=by kernel_rfl
theorem Lc:cZ Try.prog 131 = true:=by kernel_rfl
theorem Ld:cZ Try.prog 132 = true:=by kernel_rfl
theorem Le:cZ Try.prog 155 = true:=by kernel_rfl
theorem Lh:cZ Try.prog 164 = true:=by kernel_rfl
theorem BZ:cZ Try.prog 167 = true:=by kernel_rfl
theorem Lj:cZ Try.prog 169 = true:=by kernel_rfl
theorem Ll:cZ Try.prog 170 = true:=by kernel_rfl
theorem Lm:cZ Try.prog 174 = true:=by kernel_rfl
theorem Lp:cZ Try.prog 179 = true:=by kernel_rfl
theorem Lr:cZ Try.prog 181 = true:=by kernel_rfl
theorem Fe:cZ Try.prog 199 = true:=by kernel_rfl
theorem Ls:cZ Try.prog 30 = true:=by kernel_rfl
theorem Lu:cZ Try.prog 31 = true:=by kernel_rfl
theorem zS:cZ Try.prog 32 = true:=by kernel_rfl
theorem Fg:cZ Try.prog 33 = true:=by kernel_rfl
theorem Ba:cZ Try.prog 34 = true:=by kernel_rfl
theorem Fh:cZ Try.prog 35 = true:=by kernel_rfl
theorem L6:cZ Try.prog 36 = true:=by kernel_rfl
theorem L9:cZ Try.prog 39 = true:=by kernel_rfl
theorem MB:cZ Try.prog 41 = true:=by kernel_rfl
theorem MC:cZ Try.prog 43 = true:=by kernel_rfl
theorem MF:cZ Try.prog 44 = true:=by kernel_rfl
theorem MG:cZ Try.prog 45 = true:=by kernel_rfl
theorem Fp:cZ Try.prog 46 = true:=by kernel_rfl
theorem MH:cZ Try.prog 47 = true:=by kernel_rfl
theorem zT:cZ Try.prog 54 = true:=by kernel_rfl
theorem Fq:cZ Try.prog 55 = true:=by kernel_rfl
theorem Fv:cZ Try.prog 56 = true:=by kernel_rfl
theorem MI:cZ Try.prog 59 = true:=by kernel_rfl
theorem MJ:cZ Try.prog 74 = true:=by kernel_rfl
theorem MK:cZ Try.prog 86 = true:=by kernel_rfl
theorem Bc:cZ Try.prog 87 = true:=by kernel_rfl
theorem jO:lH Try.prog 24 = some 96:=by kernel_rfl
theorem iw:lH Try.prog 27 = some 82:=by kernel_rfl
theorem zZ:lH Try.prog 37 = some 3:=by kernel_rfl
theorem Mc:lH Try.prog 48 = some 150:=by kernel_rfl
theorem Md:lH Try.prog 51 = some 145:=by kernel_rfl
theorem qK:lH Try.prog 55 = some 29:=by kernel_rfl
theorem NZ:iy Try.prog 145 0 = some 0:=by kernel_rfl
theorem Na:iy Try.prog 145 1 = some 1:=by kernel_rfl
theorem Nb:iy Try.prog 150 0 = some 0:=by kernel_rfl
theorem Nc:iy Try.prog 150 1 = some 1:=by kernel_rfl
theorem jD:iy Try.prog 26 0 = some 0:=by kernel_rfl
theorem fZ:iy Try.prog 26 1 = some 1:=by kernel_rfl
theorem gm:iy Try.prog 29 0 = some 0:=by kernel_rfl
theorem iG:iy Try.prog 29 1 = some 2:=by kernel_rfl
theorem Nh:iy Try.prog 50 0 = some 0:=by kernel_rfl
theorem Gm:iy Try.prog 50 1 = some 1:=by kernel_rfl
theorem Gn:iy Try.prog 53 0 = some 0:=by kernel_rfl
theorem Gp:iy Try.prog 53 1 = some 2:=by kernel_rfl
theorem lU:iy Try.prog 82 0 = some 0:=by kernel_rfl
theorem lV:iy Try.prog 82 1 = some 1:=by kernel_rfl
theorem jb:iy Try.prog 96 0 = some 0:=by kernel_rfl
theorem jm:iy Try.prog 96 1 = some 1:=by kernel_rfl
theorem P6:(Try.prog.info? 104).isSome = true:=by kernel_rfl
theorem P7:(Try.prog.info? 145).isSome = true:=by kernel_rfl
theorem P8:(Try.prog.info? 150).isSome = true:=by kernel_rfl
theorem P9:(Try.prog.info? 24).isSome = true:=by kernel_rfl
theorem jW:(Try.prog.info? 26).isSome = true:=by kernel_rfl
theorem QA:(Try.prog.info? 27).isSome = true:=by kernel_rfl
theorem fG:(Try.prog.info? 29).isSome = true:=by kernel_rfl
theorem oD:(Try.prog.info? 3).isSome = true:=by kernel_rfl
theorem Ht:(Try.prog.info? 50).isSome = true:=by kernel_rfl
theorem xM:(Try.prog.info? 53).isSome = true:=by kernel_rfl
theorem Hu:(Try.prog.info? 55).isSome = true:=by kernel_rfl
theorem jX:(Try.prog.info? 82).isSome = true:=by kernel_rfl
theorem iH:(Try.prog.info? 96).isSome = true:=by kernel_rfl
theorem Dq:uH Try.prog 82 = some 2:=by kernel_rfl
theorem AO:uH Try.prog 96 = some 2:=by kernel_rfl
theorem mixed:Try.prog.follows .mixedOrders = true:=by kernel_rfl
theorem JI:zC Try.prog 26 = some [(0, 1), (1, 1)]:=by kernel_rfl
theorem JJ:zC Try.prog 29 = some [(0, 2), (2, 1)]:=by kernel_rfl
theorem JK:zC Try.prog 82 = some [(0, 1), (1, 1)]:=by kernel_rfl
theorem Rz:aW Try.prog 104 = 1:=by kernel_rfl
theorem Ed:aW Try.prog 145 = 2:=by kernel_rfl
theorem Ee:aW Try.prog 150 = 2:=by kernel_rfl
theorem SA:aW Try.prog 24 = 1:=by kernel_rfl
theorem gU:aW Try.prog 26 = 2:=by kernel_rfl
theorem SB:aW Try.prog 27 = 1:=by kernel_rfl
theorem dI:aW Try.prog 29 = 3:=by kernel_rfl
theorem lM:aW Try.prog 3 = 1:=by kernel_rfl
theorem BH:aW Try.prog 50 = 2:=by kernel_rfl
theorem qj:aW Try.prog 53 = 3:=by kernel_rfl
theorem Jr:aW Try.prog 55 = 1:=by kernel_rfl
theorem eG:aW Try.prog 82 = 2:=by kernel_rfl
theorem dQ:aW Try.prog 96 = 2:=by kernel_rfl
theorem SI:TI Try.prog 104 .nilFunc 1 8:=by unfold TI; kernel_rfl
theorem sO:TI Try.prog 26 (.agg #[(.int .i64 0), (.slice none 0 0)]) 2 32:=by unfold TI; kernel_rfl
theorem ku:TI Try.prog 29 (.agg #[(.int .i64 0), (.slice none 0 0), (.slice none 0 0)]) 3 56:=by unfold TI; kernel_rfl
theorem vg:TI Try.prog 3 (.int .i64 0) 1 8:=by unfold TI; kernel_rfl
theorem SK:TI Try.prog 55 (.slice none 0 0) 1 24:=by unfold TI; kernel_rfl
theorem mY:TI Try.prog 82 (.agg #[(.int .i64 0), (.int .i64 0)]) 2 16:=by unfold TI; kernel_rfl
theorem mZ:TI Try.prog 96 (.agg #[(.int .i64 0), (.int .i64 0)]) 2 16:=by unfold TI; kernel_rfl
theorem iQ:Try.prog.underlying 24 = some (.slice 96):=by kernel_rfl
theorem lN:Try.prog.underlying 27 = some (.slice 82):=by kernel_rfl
theorem mg:Try.prog.underlying 37 = some (.slice 3):=by kernel_rfl
theorem Ej:Try.prog.underlying 4 = some .bool:=by kernel_rfl
theorem Em:Try.prog.underlying 48 = some (.slice 150):=by kernel_rfl
theorem En:Try.prog.underlying 51 = some (.slice 145):=by kernel_rfl
theorem mr:Try.prog.underlying 55 = some (.slice 29):=by kernel_rfl
end
theorem UE (a:aQ) (b:aQ):FT Try.prog (vN a b) 164 [.agg [iC a.A,iC a.B],.agg [iC b.A,iC b.B]] [] (fun (t:Bool) => [.c (bC t)]) (fun (t:Bool) => []) []:=by
 refine FT.of [] Try.func164 Try.ntmps164 Q y2 ?_
 intro w0 U0 R0 g0
 unfold vN
 refine Ws (Wr ?_)
 refine eU 21 (.agg [iC a.A,iC a.B]) dQ y5 (eU 22 (.agg [iC b.A,iC b.B]) dQ y5 (aN (Bv false) aV (On (Ws ?_))))
 refine aA.iU (fun j3 => ([(4,Bv j3)],[])) ?_ (fun j3 _ => ?_)
 ·refine Wr (bg (iC a.A) jb bD bG (bg (iC b.A) jb bD bG (ah LT.lss y5 (aK (Bv (decide (a.A < b.A))) y4 (aS.split (fun hb4 => ?_) (fun hb4 => ?_))))))
  ·refine bF hb4 y5 (bF hb4 y5 (bF hb4 y5 (bF hb4 y5 (bF hb4 y5 (bF hb4 y5 (Oj Q Q Q Q (Oj Q Q Q Q (Oj Q Q Q Q (Oj Q Q Q Q (Oj Q Q Q Q (bF hb4 y5 ?_)))))))))))
   refine jI (Bv true) hb4 ak (aN (Bv true) y4 (On (bK Q z1 J)))
  ·refine jV (iC a.A) jb bD hb4 fF (jV (iC b.A) jb bD hb4 fF (lF LT.eql hb4 y6 (vO (Bv (a.A == b.A)) hb4 y5 (aS.split (fun hb5 => ?_) (fun hb5 => ?_)))))
   ·refine jV (iC a.B) jm bD hb5 fF (jV (iC b.B) jm bD hb5 fF (lF LT.leq hb5 y6 (dF (LT.mQ (v:=(Bv (decide (a.B ≤ b.B)))) Q hb5) Q Q (gH hb4 Q Q) Q (jr (Bv (decide (a.B ≤ b.B))) hb4 y5 (aN (Bv (decide (a.B ≤ b.B))) y4 (On (bK Q z1 J)))))))
   ·refine bF hb5 y5 (bF hb5 y5 (bF hb5 y5 (bF hb5 y5 (bF hb5 y5 (dF (LT.nT (v:=(Bv false)) Q hb5) Q y2 (gH hb4 Q Q) Q (jr (Bv false) hb4 y5 (aN (Bv false) y4 (On (bK Q z1 J)))))))))
 ·refine bI z1 J ⟨aX.sc,J⟩ J
theorem Ey (x:Int) (low:Int) (high:Int):FT Try.prog (rq x low high) 87 [.c (iC x),.c (iC low),.c (iC high)] [] (fun (t:Bool) => [.c (bC t)]) (fun (t:Bool) => []) []:=by
 refine FT.of [] Try.func87 Try.ntmps87 Q y2 ?_
 intro w0 U0 R0 g0
 unfold rq
 refine Ws (Wr ?_)
 refine aN (Bv false) aV (On (Ws ?_))
 refine aA.iU (fun j2 => ([(6,Bv j2)],[])) ?_ (fun j2 _ => ?_)
 ·refine Wr (aK (Iv x) y4 (aK (Iv low) y4 (ah LT.geq y5 (aK (Bv (decide (low ≤ x))) y4 (aS.split (fun hb3 => ?_) (fun hb3 => ?_))))))
  ·refine vO (Iv x) hb3 y5 (vO (Iv high) hb3 y5 (lF LT.leq hb3 y6 (jI (Bv (decide (x ≤ high))) hb3 y5 (aN (Bv (decide (x ≤ high))) y4 (On (bK Q z1 J))))))
  ·refine bF hb3 y5 (bF hb3 y5 (bF hb3 y5 (jr (Bv false) hb3 ak (aN (Bv false) y4 (On (bK Q z1 J))))))
 ·refine bI z1 J ⟨aX.sc,J⟩ J
theorem UA (g:au):FT Try.prog (yX g) 86 [.agg (bM g)] [] (fun (t:Bool) => [.c (bC t)]) (fun (t:Bool) => []) []:=by
 refine FT.of [] Try.func86 Try.ntmps86 Q y2 ?_
 intro w0 U0 R0 g0
 unfold yX
 refine Ws (Wr ?_)
 refine eU 21 (.agg (bM g)) gU y5 (aN (Bv false) aV (On (Ws (Ws ?_))))
 refine aA.iU (fun j3 => ([(1,Cc (.pl 21 0)),(14,Bv j3)],[(21,.row 26 [bM g])])) ?_ (fun j3 _ => ?_)
 ·refine Wr (bg (iC g.aC) jD bD bG (ay fun r4 hr4 => (jC [.c (iC g.aC),.c (iC 1),.c (iC 8)] (Ey g.aC 1 8 r4 hr4) Bc (ve y3) y5 ⟨Q,Q,y2,y2,J⟩ (aT (LT.not Q) Q Q Q (aK (Bv (!r4)) y4 (aS.split (fun hb5 => ?_) (fun hb5 => ?_)))))))
  ·refine bF hb5 y5 (bF hb5 y5 (bF hb5 y5 (bF hb5 y5 (jI (Bv true) hb5 ak (On (bK Q z2 z1))))))
  ·refine jV (xF aG g.aB) fZ gK hb5 fF (aT (LT.dn Q iQ) Q (gH hb5 Q Q) Q (lF LT.gtr hb5 kz (jr (Bv (decide (24 < (g.aB.length:Int)))) hb5 y5 (On (bK Q z2 z1)))))
 ·refine aA.cond Q (fun hc6 => ?_) (fun hc6 => ?_)
  ·refine Ws (Wr ?_)
   refine aN (Bv false) aV (On (bI z1 J ⟨aX.sc,J⟩ J))
  ·refine aA.skip (Ws (Ws (Wr ?_)))
   refine aN (Iv 0) aV (On (aA.block ?_))
   refine aA.kU (id:=0) (yY g) (fun s7 => ([(1,Cc (.pl 21 0)),(3,Iv s7)],[(21,.row 26 [bM g])])) (fun wK => ([],[])) (dm Try.prog Try.f86.results.toList [] [] (fun (t:Bool) => [.c (bC t)]) (fun (t:Bool) => [])) ?_ (aU.of z2 z1) Q (fun wK _ => ?_) kT
   ·intro s7
    unfold yY
    refine Ws (Ws (Wr ?_))
    refine aK (Iv s7) y4 (bg (xF aG g.aB) fZ gK bG (aT (LT.dn Q iQ) Q Q Q (ah LT.lss y5 (On (aA.cond Q (fun Ce => ?_) (fun Ce => ?_))))))
    ·refine aA.skip (Ws (aA.block (Ws (Wr ?_))))
     refine bg (xF aG g.aB) fZ gK bG (aK (Iv s7) y4 (ay fun dR Dn => (dF (LT.dW (enc:=aG) Q jO Dn dQ) Q Q Q Q (aT (gq Q jS iH dQ) Q Q Q (ja 23 [iC 0,iC 0] mZ y6 (gJ (stA [iC dR.A,iC dR.B] Q Q iH dQ) Q Q Q Q Q (On (Ws ?_))))))))
     refine aA.iU (fun j49 => ([(1,Cc (.pl 21 0)),(3,Iv s7),(58,Bv j49)],[(21,.row 26 [bM g])])) ?_ (fun j49 _ => ?_)
     ·refine en [(1,Cc (.pl 21 0)),(3,Iv s7),(4,Cc (.pl 23 0))] [(21,.row 26 [bM g]),(23,.row 96 [[iC dR.A,iC dR.B]])] z3 z2 (aA.draw mixed (jT (iC dR.A) jb bD bG (qo LT.lss ak (dA (Bv (decide (dR.A < 0))) y4 (aP.split (fun jE => ?_) (fun jE => ?_))))))
      ·refine ai jE y3 (ai jE y3 (ai jE y3 (ai jE y3 (ai jE y3 (jY (Bv true) jE ak (dA (Bv true) y4 (aY y3 (aY y3 (aY y3 (aY y3 (aY y3 ?_)))))))))))
       refine jY (Bv true) Q ak (dA (Bv true) y4 (aY y3 (aY y3 (aY y3 (aY y3 (aY y3 (aY y3 (aY y3 (aY y3 (aY y3 (aY y3 ?_)))))))))))
       refine aY y3 (aY y3 (aY y3 (jY (Bv true) Q ak (fD (bK Q z3 z1)))))
      ·refine kP (iC dR.A) jb bD jE fF (kP (iC dR.B) jm bD jE fF (l7 LT.geq jE y6 (iW (Bv (decide (dR.B ≤ dR.A))) jE y5 (dA (Bv (decide (dR.B ≤ dR.A))) y4 (aP.split (fun jF => ?_) (fun jF => ?_))))))
       ·refine ai jF y3 (ai jF y3 (ai jF y3 (ai jF y3 (ai jF y3 (jY (Bv true) jF ak (dA (Bv true) y4 (aY y3 (aY y3 (aY y3 (aY y3 (aY y3 ?_)))))))))))
        refine aY y3 (aY y3 (aY y3 (aY y3 (aY y3 (aY y3 (aY y3 (aY y3 (jY (Bv true) Q ak (fD (bK Q z3 z1))))))))))
       ·refine kP (iC dR.B) jm bD jF fF (kP (iC g.aC) jD bD jF fF (l7 LT.geq jF y6 (iW (Bv (decide (g.aC ≤ dR.B))) jF y5 (dA (Bv (decide (g.aC ≤ dR.B))) y4 (aP.split (fun iL => ?_) (fun iL => ?_))))))
        ·refine ai iL y3 (ai iL y3 (ai iL y3 (aY y3 (aY y3 (aY y3 (aY y3 (aY y3 (aY y3 (aY y3 (aY y3 (aY y3 ?_)))))))))))
         refine ai iL y3 (jY (Bv true) iL ak (fD (bK Q z3 z1)))
        ·refine oI (Iv s7) iL y5 (l7 LT.gtr iL kz (oI (Bv (decide (0 < s7))) iL y5 (aP.split (fun eX => ?_) (fun eX => ?_))))
         ·refine kP (xF aG g.aB) fZ gK eX fF (oI (Iv s7) eX y5 (l7 LT.sub eX kz (aP.bind fun x54 Dp => (dP (LT.dW (enc:=aG) Q jO Dp dQ) Q Q (gH eX Q Q) Q (bT (gq Q jS iH dQ) Q (gH eX Q Q) Q (gV (fB [iC dR.A,iC dR.B] Q jS iH dQ) Q Q (gH eX Q Q) Q (aP.bind fun nV DW => (aP.pure (iF [.agg [iC x54.A,iC x54.B],.agg [iC dR.A,iC dR.B]] (UE x54 dR nV DW) Lh (sN y4) J y3) z3 J (gH eX Q Q) Q (bT (LT.not Q) Q (gH eX Q Q) Q (dP (LT.mQ (v:=(Bv (!nV))) Q eX) Q Q (gH iL Q Q) Q ?_))))))))))
          refine iW (Bv (!nV)) iL y5 (fD (bK Q z3 z1))
         ·refine ai eX y3 (ai eX y3 (ai eX y3 (ai eX y3 (ai eX y3 (ai eX y3 (ai eX y3 (ai eX y3 (ai eX y3 (dP (LT.nT (v:=(Bv false)) Q eX) Q y2 (gH iL Q Q) Q (iW (Bv false) iL y5 (fD ?_)))))))))))
          refine bK Q z3 z1
     ·refine aA.cond Q (fun Ci => ?_) (fun Ci => ?_)
      ·refine Ws (Wr ?_)
       refine aN (Bv false) aV (On (aA.ret ⟨Q,jc z1 J ⟨aX.sc,J⟩ J⟩))
      ·refine aA.skip (aA.blk (Wr ?_))
       refine aK (Iv s7) y4 (ah LT.add ak (aN (Iv (aJ (s7 + 1))) y4 (On (bK Q z2 z1))))
    ·refine ig y2 J J
   ·refine Ws (Wr ?_)
    refine aN (Bv true) aV (On (bI z1 J ⟨aX.sc,J⟩ J))
theorem UF (g:au):FT Try.prog (Ac g) 112 [.agg (bM g)] [] (fun (t:au) => [.agg [iC t.aC,lo 0 t.aB.length]]) (fun (t:au) => [(0,pR 96 aG t.aB)]) [0]:=by
 refine FT.of [] Try.func112 Try.ntmps112 Q y2 ?_
 intro w0 U0 R0 g0
 unfold Ac
 refine Ws (Wr ?_)
 refine eU 21 (.agg (bM g)) gU y5 (ja 22 [iC 0,sC fU] sO y6 (On (Ws (aA.draw mixed ?_))))
 refine jT (iC g.aC) jD bD bG (tH (ny 23 aG [] [] iQ mZ y7) Q Q (jT (xF aG g.aB) fZ gK bG (aP.bind fun u1 hu1 => (nD (LT.BI (enc:=aG) Q  Q iQ mZ Q (by decide) (by decide) (fun _ => Q) (qN hu1)) Q Q Q Q Q (dP (LT.build [(0,.tmp 4,.c (iC g.aC)),(1,.tmp 8,.c (lo 23 ((([]:List aQ) ++ g.aB).length)))] Q Q JI sO Q Q Q) Q Q Q Q (nD (stA [iC g.aC,lo 23 ((([]:List aQ) ++ g.aB).length)] Q Q jW gU) Q Q Q Q Q (fD (en [(2,Cc (.pl 22 0))] [(22,.row 26 [[iC g.aC,lo 23 ((([]:List aQ) ++ g.aB).length)]]),(23,pR 96 aG (([]:List aQ) ++ g.aB))] z1 z2 (aA.ent (aU.mv 23 0 Q Q) ?_)))))))))
 refine en [(2,Cc (.pl 22 0))] [(0,pR 96 aG (([]:List aQ) ++ g.aB)),(22,.row 26 [[iC g.aC,lo 0 ((([]:List aQ) ++ g.aB).length)]])] z1 z2 (bI ⟨⟨_,_,_,Q,Q,Q,kN,gU,_,gB jW⟩,J⟩ z1 ⟨⟨aX.sc,J,J⟩,J⟩ ⟨dB.gG jR,J⟩)
theorem Eu (x:Int) (uP:Int) (hi:Int):FT Try.prog (rX x uP hi) 167 [.c (iC x),.c (iC uP),.c (iC hi)] [] (fun (t:Bool) => [.c (bC t)]) (fun (t:Bool) => []) []:=by
 refine FT.of [] Try.func167 Try.ntmps167 Q y2 ?_
 intro w0 U0 R0 g0
 unfold rX
 refine Ws (Wr ?_)
 refine aN (Bv false) aV (On (Ws ?_))
 refine aA.iU (fun j2 => ([(6,Bv j2)],[])) ?_ (fun j2 _ => ?_)
 ·refine Wr (aK (Iv x) y4 (aK (Iv uP) y4 (ah LT.geq y5 (aK (Bv (decide (uP ≤ x))) y4 (aS.split (fun hb3 => ?_) (fun hb3 => ?_))))))
  ·refine vO (Iv x) hb3 y5 (vO (Iv hi) hb3 y5 (lF LT.leq hb3 y6 (jI (Bv (decide (x ≤ hi))) hb3 y5 (aN (Bv (decide (x ≤ hi))) y4 (On (bK Q z1 J))))))
  ·refine bF hb3 y5 (bF hb3 y5 (bF hb3 y5 (jr (Bv false) hb3 ak (aN (Bv false) y4 (On (bK Q z1 J))))))
 ·refine bI z1 J ⟨aX.sc,J⟩ J
theorem J8 (a:Int) (b:Int):FT Try.prog (uf a b) 199 [.c (iC a),.c (iC b)] [] (fun (t:Int) => [.c (iC t)]) (fun (t:Int) => []) []:=by
 refine FT.of [] Try.func199 Try.ntmps199 Q y2 ?_
 intro w0 U0 R0 g0
 unfold uf
 refine Ws (Wr ?_)
 refine aN (Iv 0) aV (On (Ws (aA.block (Ws (Wr ?_)))))
 refine aK (Iv a) y4 (aK (Iv b) y4 (ah LT.lss y5 (aN (Bv (decide (a < b))) y4 (On (aA.cond Q (fun hc1 => ?_) (fun hc1 => ?_))))))
 ·refine Ws (Wr ?_)
  refine aN (Iv (-1)) aV (On (bI z1 J ⟨aX.sc,J⟩ J))
 ·refine Ws (Wr ?_)
  refine aK (Iv a) y4 (aK (Iv b) y4 (ah LT.gtr y5 (aN (Bv (decide (b < a))) y4 (On (aA.cond Q (fun hc2 => ?_) (fun hc2 => ?_))))))
  ·refine Ws (Wr ?_)
   refine aN (Iv 1) aV (On (bI z1 J ⟨aX.sc,J⟩ J))
  ·refine aA.skip (aA.blk (Ws (Wr ?_)))
   refine aN (Iv 0) aV (On (bI z1 J ⟨aX.sc,J⟩ J))
theorem TF (x:aQ) (y:aQ):FT Try.prog (uZ x y) 179 [.agg [iC x.A,iC x.B],.agg [iC y.A,iC y.B]] [] (fun (t:Int) => [.c (iC t)]) (fun (t:Int) => []) []:=by
 refine FT.of [] Try.func179 Try.ntmps179 Q y2 ?_
 intro w0 U0 R0 g0
 unfold uZ
 refine Ws (Wr ?_)
 refine eU 21 (.agg [iC x.A,iC x.B]) dQ y5 (eU 22 (.agg [iC y.A,iC y.B]) dQ y5 (aN (Iv 0) aV (On (Ws (Ws (Wr ?_))))))
 refine bg (iC x.A) jb bD bG (bg (iC y.A) jb bD bG (ay fun r1 hr1 => (jC [.c (iC x.A),.c (iC y.A)] (J8 x.A y.A r1 hr1) Fe (mV y2) y5 z3 (aN (Iv r1) y4 (On (Ws ?_))))))
 refine en [(2,Cc (.pl 21 0)),(3,Cc (.pl 22 0)),(5,Iv r1)] [(21,.row 96 [[iC x.A,iC x.B]]),(22,.row 96 [[iC y.A,iC y.B]])] z3 z2 (Wr (aK (Iv r1) y4 (ah LT.neq ak (On (aA.cond Q (fun hc2 => ?_) (fun hc2 => ?_))))))
 ·refine Ws (Wr ?_)
  refine aK (Iv r1) y4 (aN (Iv r1) y4 (On (bI z1 J ⟨aX.sc,J⟩ J)))
 ·refine aA.skip (Ws (Wr ?_))
  refine bg (iC x.B) jm bD bG (bg (iC y.B) jm bD bG (ay fun r3 hr3 => (jC [.c (iC x.B),.c (iC y.B)] (J8 x.B y.B r3 hr3) Fe (mV y2) y5 z3 (aN (Iv r3) y4 (On (bI z1 J ⟨aX.sc,J⟩ J))))))
theorem TD (g:au):FT Try.prog (uT g) 128 [.agg (bM g)] [] (fun (t:Bool) => [.c (bC t)]) (fun (t:Bool) => []) []:=by
 refine FT.of [] Try.func128 Try.ntmps128 Q y2 ?_
 intro w0 U0 R0 g0
 unfold uT
 refine Ws (Wr ?_)
 refine eU 21 (.agg (bM g)) gU y5 (aN (Bv false) aV (On (Ws (Ws ?_))))
 refine aA.iU (fun j3 => ([(1,Cc (.pl 21 0)),(14,Bv j3)],[(21,.row 26 [bM g])])) ?_ (fun j3 _ => ?_)
 ·refine Wr (bg (iC g.aC) jD bD bG (ay fun r4 hr4 => (jC [.c (iC g.aC),.c (iC 1),.c (iC 8)] (Eu g.aC 1 8 r4 hr4) BZ (ve y3) y5 ⟨Q,Q,y2,y2,J⟩ (aT (LT.not Q) Q Q Q (aK (Bv (!r4)) y4 (aS.split (fun hb5 => ?_) (fun hb5 => ?_)))))))
  ·refine bF hb5 y5 (bF hb5 y5 (bF hb5 y5 (bF hb5 y5 (jI (Bv true) hb5 ak (On (bK Q z2 z1))))))
  ·refine jV (xF aG g.aB) fZ gK hb5 fF (aT (LT.dn Q iQ) Q (gH hb5 Q Q) Q (lF LT.gtr hb5 kz (jr (Bv (decide (24 < (g.aB.length:Int)))) hb5 y5 (On (bK Q z2 z1)))))
 ·refine aA.cond Q (fun hc6 => ?_) (fun hc6 => ?_)
  ·refine Ws (Wr ?_)
   refine aN (Bv false) aV (On (bI z1 J ⟨aX.sc,J⟩ J))
  ·refine aA.skip (Ws (Ws (Wr ?_)))
   refine bg (xF aG g.aB) fZ gK bG (aT (LT.dn Q iQ) Q Q Q (aK (Iv 0) aV (On (aA.block ?_))))
   refine aA.kU (id:=0) (qP g) (fun s7 => ([(1,Cc (.pl 21 0)),(16,Cc (xF aG g.aB)),(17,Iv (g.aB.length:Int)),(18,Iv s7)],[(21,.row 26 [bM g])])) (fun wK => ([],[])) (dm Try.prog Try.f128.results.toList [] [] (fun (t:Bool) => [.c (bC t)]) (fun (t:Bool) => [])) ?_ (aU.of z4 z1) Q (fun wK _ => ?_) kT
   ·intro s7
    unfold qP
    refine Ws (Wr ?_)
    refine ah LT.lss y5 (On (Ws ?_))
    refine aA.cond Q (fun Ce => ?_) (fun Ce => ?_)
    ·refine aA.skip (Ws (aA.block (Ws (Wr ?_))))
     refine aK (Iv s7) y4 (ay fun dR Dn => (dF (LT.dW (enc:=aG) Q jO Dn dQ) Q Q Q Q (aT (gq Q jS iH dQ) Q Q Q (ja 23 [iC 0,iC 0] mZ y6 (aN (Iv s7) y4 (gJ (stA [iC dR.A,iC dR.B] Q Q iH dQ) Q Q Q Q Q (On (Ws ?_))))))))
     refine aA.iU (fun j49 => ([(1,Cc (.pl 21 0)),(16,Cc (xF aG g.aB)),(17,Iv (g.aB.length:Int)),(18,Iv s7),(54,Bv j49)],[(21,.row 26 [bM g])])) ?_ (fun j49 _ => ?_)
     ·refine en [(1,Cc (.pl 21 0)),(3,Iv s7),(4,Cc (.pl 23 0)),(16,Cc (xF aG g.aB)),(17,Iv (g.aB.length:Int)),(18,Iv s7)] [(21,.row 26 [bM g]),(23,.row 96 [[iC dR.A,iC dR.B]])] z6 z2 (aA.draw mixed (jT (iC dR.A) jb bD bG (qo LT.lss ak (dA (Bv (decide (dR.A < 0))) y4 (aP.split (fun jE => ?_) (fun jE => ?_))))))
      ·refine ai jE y3 (ai jE y3 (ai jE y3 (ai jE y3 (ai jE y3 (jY (Bv true) jE ak (dA (Bv true) y4 (aY y3 (aY y3 (aY y3 (aY y3 (aY y3 ?_)))))))))))
       refine jY (Bv true) Q ak (dA (Bv true) y4 (aY y3 (aY y3 (aY y3 (aY y3 (aY y3 (aY y3 (aY y3 (aY y3 (aY y3 (aY y3 ?_)))))))))))
       refine aY y3 (aY y3 (aY y3 (jY (Bv true) Q ak (fD (bK Q z5 z1)))))
      ·refine kP (iC dR.A) jb bD jE fF (kP (iC dR.B) jm bD jE fF (l7 LT.geq jE y6 (iW (Bv (decide (dR.B ≤ dR.A))) jE y5 (dA (Bv (decide (dR.B ≤ dR.A))) y4 (aP.split (fun jF => ?_) (fun jF => ?_))))))
       ·refine ai jF y3 (ai jF y3 (ai jF y3 (ai jF y3 (ai jF y3 (jY (Bv true) jF ak (dA (Bv true) y4 (aY y3 (aY y3 (aY y3 (aY y3 (aY y3 ?_)))))))))))
        refine aY y3 (aY y3 (aY y3 (aY y3 (aY y3 (aY y3 (aY y3 (aY y3 (jY (Bv true) Q ak (fD (bK Q z5 z1))))))))))
       ·refine kP (iC dR.B) jm bD jF fF (kP (iC g.aC) jD bD jF fF (l7 LT.geq jF y6 (iW (Bv (decide (g.aC ≤ dR.B))) jF y5 (dA (Bv (decide (g.aC ≤ dR.B))) y4 (aP.split (fun iL => ?_) (fun iL => ?_))))))
        ·refine ai iL y3 (ai iL y3 (ai iL y3 (aY y3 (aY y3 (aY y3 (aY y3 (aY y3 (aY y3 (aY y3 (aY y3 (aY y3 ?_)))))))))))
         refine ai iL y3 (jY (Bv true) iL ak (fD (bK Q z5 z1)))
        ·refine oI (Iv s7) iL y5 (l7 LT.gtr iL kz (oI (Bv (decide (0 < s7))) iL y5 (aP.split (fun eX => ?_) (fun eX => ?_))))
         ·refine kP (xF aG g.aB) fZ gK eX fF (oI (Iv s7) eX y5 (l7 LT.sub eX kz (aP.bind fun x54 Dp => (dP (LT.dW (enc:=aG) Q jO Dp dQ) Q Q (gH eX Q Q) Q (bT (gq Q jS iH dQ) Q (gH eX Q Q) Q (gV (fB [iC dR.A,iC dR.B] Q jS iH dQ) Q Q (gH eX Q Q) Q (aP.bind fun nV DW => (aP.pure (iF [.agg [iC x54.A,iC x54.B],.agg [iC dR.A,iC dR.B]] (TF x54 dR nV DW) Lp (sN y4) J y3) z3 J (gH eX Q Q) Q (l7 LT.gtr eX kz (dP (LT.mQ (v:=(Bv (decide (0 < nV)))) Q eX) Q Q (gH iL Q Q) Q ?_))))))))))
          refine iW (Bv (decide (0 < nV))) iL y5 (fD (bK Q z5 z1))
         ·refine ai eX y3 (ai eX y3 (ai eX y3 (ai eX y3 (ai eX y3 (ai eX y3 (ai eX y3 (ai eX y3 (ai eX y3 (dP (LT.nT (v:=(Bv false)) Q eX) Q y2 (gH iL Q Q) Q (iW (Bv false) iL y5 (fD ?_)))))))))))
          refine bK Q z5 z1
     ·refine aA.cond Q (fun Ci => ?_) (fun Ci => ?_)
      ·refine Ws (Wr ?_)
       refine aN (Bv false) aV (On (aA.ret ⟨Q,jc z1 J ⟨aX.sc,J⟩ J⟩))
      ·refine aA.skip (aA.blk (Wr ?_))
       refine ah LT.add ak (aK (Iv (aJ (s7 + 1))) y4 (On (bK Q z4 z1)))
    ·refine ig y2 J J
   ·refine Ws (Wr ?_)
    refine aN (Bv true) aV (On (bI z1 J ⟨aX.sc,J⟩ J))
theorem TJ (p:aO):FT Try.prog (xg p) 129 [.agg [iC p.X,iC p.Y]] [] (fun (t:Bool) => [.c (bC t)]) (fun (t:Bool) => []) []:=by
 refine FT.of [] Try.func129 Try.ntmps129 Q y2 ?_
 intro w0 U0 R0 g0
 unfold xg
 refine Ws (Wr ?_)
 refine eU 21 (.agg [iC p.X,iC p.Y]) eG y5 (aN (Bv false) aV (On (Ws ?_)))
 refine aA.iU (fun j4 => ([(2,Bv j4)],[])) ?_ (fun j4 _ => ?_)
 ·refine Wr (bg (iC p.X) lU bD bG (ay fun r5 xH => (jC [.c (iC p.X),.c (iC 0),.c (iC 4)] (Eu p.X 0 4 r5 xH) BZ (ve y3) y5 ⟨Q,Q,y2,y2,J⟩ (aK (Bv r5) y4 (aS.split (fun hb6 => ?_) (fun hb6 => ?_))))))
  ·refine jV (iC p.Y) lV bD hb6 fF (ay fun r7 DX => (aS.pure (iF [.c (iC p.Y),.c (iC 0),.c (iC 4)] (Eu p.Y 0 4 r7 DX) BZ (ve y3) J y3) ⟨Q,Q,y2,y2,J⟩ J (gH hb6 Q Q) Q (jI (Bv r7) hb6 y5 (aN (Bv r7) y4 (On (bK Q z1 J))))))
  ·refine bF hb6 y5 (bF hb6 y5 (bF hb6 y5 (jr (Bv false) hb6 ak (aN (Bv false) y4 (On (bK Q z1 J))))))
 ·refine bI z1 J ⟨aX.sc,J⟩ J
theorem BK (f:aH):FT Try.prog (qO f) 54 [.agg (aj f)] [] (fun (t:Bool) => [.c (bC t)]) (fun (t:Bool) => []) []:=by
 refine FT.of [] Try.func54 Try.ntmps54 Q y2 ?_
 intro w0 U0 R0 g0
 unfold qO
 refine Ws (Wr ?_)
 refine eU 21 (.agg (aj f)) dI y5 (aN (Bv false) aV (On (Ws (Wr ?_))))
 refine aT (LT.dO Q gm) Q Q Q (eY (fB (bM f.Graph) Q kN jW gU) Q Q Q Q (ja 22 [iC 0,sC fU] sO y6 (gJ (stA (bM f.Graph) Q Q jW gU) Q Q Q Q Q (On (Ws (Ws ?_))))))
 refine aA.iU (fun j5 => ([(1,Cc (.pl 21 0)),(3,Cc (.pl 22 0)),(31,Bv j5)],[(21,.row 29 [aj f]),(22,.row 26 [bM f.Graph])])) ?_ (fun j5 _ => ?_)
 ·refine en [(1,Cc (.pl 21 0)),(3,Cc (.pl 22 0))] [(21,.row 29 [aj f]),(22,.row 26 [bM f.Graph])] z2 z2 (Wr (eY (fB (bM f.Graph) Q kN jW gU) Q Q Q Q (ay fun r6 xI => (jC [.agg (bM f.Graph)] (TD f.Graph r6 xI) LY (qg y2) y5 z2 (aT (LT.not Q) Q Q Q (aK (Bv (!r6)) y4 (aS.split (fun hb7 => ?_) (fun hb7 => ?_))))))))
  ·refine bF hb7 y5 (bF hb7 y5 (bF hb7 y5 (jI (Bv true) hb7 ak (aK (Bv true) y4 (fV y5 (fV y5 (fV y5 (fV y5 (jI (Bv true) Q ak (aK (Bv true) y4 (fV y5 ?_)))))))))))
   refine fV y5 (fV y5 (fV y5 (fV y5 (fV y5 (jI (Bv true) Q ak (On (bK Q z3 z2)))))))
  ·refine jV (iC f.Graph.aC) jD bD hb7 fF (lF LT.gtr hb7 kz (jr (Bv (decide (6 < f.Graph.aC))) hb7 y5 (aK (Bv (decide (6 < f.Graph.aC))) y4 (aS.split (fun hb8 => ?_) (fun hb8 => ?_)))))
   ·refine bF hb8 y5 (bF hb8 y5 (bF hb8 y5 (bF hb8 y5 (jI (Bv true) hb8 ak (aK (Bv true) y4 (fV y5 (fV y5 (fV y5 (fV y5 (fV y5 (fV y5 ?_)))))))))))
    refine jI (Bv true) Q ak (On (bK Q z3 z2))
   ·refine jV (xF aG f.Graph.aB) fZ gK hb8 fF (aT (LT.dn Q iQ) Q (gH hb8 Q Q) Q (lF LT.gtr hb8 kz (jr (Bv (decide (15 < (f.Graph.aB.length:Int)))) hb8 y5 (aK (Bv (decide (15 < (f.Graph.aB.length:Int)))) y4 (aS.split (fun iO => ?_) (fun iO => ?_))))))
    ·refine bF iO y5 (bF iO y5 (bF iO y5 (bF iO y5 (bF iO y5 (bF iO y5 (jI (Bv true) iO ak (On (bK Q z3 z2))))))))
    ·refine jV (xF aI f.Places) iG iJ iO fF (aT (LT.dn Q lN) Q (gH iO Q Q) Q (jV (iC f.Graph.aC) jD bD iO fF (lF LT.neq iO y6 (jr (Bv ((f.Places.length:Int) != f.Graph.aC)) iO y5 (On (bK Q z3 z2))))))
 ·refine aA.cond Q (fun CZ => ?_) (fun CZ => ?_)
  ·refine Ws (Wr ?_)
   refine aN (Bv false) aV (On (bI z1 J ⟨aX.sc,J⟩ J))
  ·refine aA.skip (Ws (Ws (Wr ?_)))
   refine bg (xF aI f.Places) iG iJ bG (aT (LT.dn Q lN) Q Q Q (aK (Iv 0) aV (On (aA.block ?_))))
   refine aA.kU (id:=0) (uQ f) (fun s11 => ([(1,Cc (.pl 21 0)),(3,Cc (.pl 22 0)),(33,Cc (xF aI f.Places)),(34,Iv (f.Places.length:Int)),(35,Iv s11)],[(21,.row 29 [aj f]),(22,.row 26 [bM f.Graph])])) (fun b20 => ([(1,Cc (.pl 21 0)),(3,Cc (.pl 22 0))],[(21,.row 29 [aj f]),(22,.row 26 [bM f.Graph])])) (dm Try.prog Try.f54.results.toList [] [] (fun (t:Bool) => [.c (bC t)]) (fun (t:Bool) => [])) ?_ (aU.of z5 z2) Q (fun b20 _ => ?_) kT
   ·intro s11
    unfold uQ
    refine Ws (Wr ?_)
    refine ah LT.lss y5 (On (Ws ?_))
    refine aA.cond Q (fun hc21 => ?_) (fun hc21 => ?_)
    ·refine aA.skip (Ws (aA.block (Ws (Wr ?_))))
     refine ay fun nC Dl => (dF (LT.dW (enc:=aI) Q iw Dl eG) Q Q Q Q (aT (gq Q lG jX eG) Q Q Q (ja 24 [iC 0,iC 0] mY y6 (gJ (stA [iC nC.X,iC nC.Y] Q Q jX eG) Q Q Q Q Q (On (Ws (Wr ?_)))))))
     refine eY (fB [iC nC.X,iC nC.Y] Q lG jX eG) Q Q Q Q (ay fun ES O0 => (jC [.agg [iC nC.X,iC nC.Y]] (TJ nC ES O0) LZ (qg y2) y5 z2 (aT (LT.not Q) Q Q Q (On (aA.cond Q (fun hc24 => ?_) (fun hc24 => ?_))))))
     ·refine Ws (en [] [] J J (Wr (aN (Bv false) aV (On (aA.ret ⟨Q,jc z1 J ⟨aX.sc,J⟩ J⟩)))))
     ·refine aA.skip (aA.blk ?_)
      refine en [(1,Cc (.pl 21 0)),(3,Cc (.pl 22 0)),(33,Cc (xF aI f.Places)),(34,Iv (f.Places.length:Int)),(35,Iv s11)] [(21,.row 29 [aj f]),(22,.row 26 [bM f.Graph])] z5 z2 (Wr (ah LT.add ak (aK (Iv (aJ (s11 + 1))) y4 (On (bK Q z5 z2)))))
    ·refine ig y2 z2 z2
   ·refine Ws (Ws (Wr ?_))
    refine bg (xF aG f.Graph.aB) fZ gK bG (aT (LT.dn Q iQ) Q Q Q (aK (Iv 0) aV (On (aA.block ?_))))
    refine aA.kU (id:=2) (uS f) (fun kJ => ([(1,Cc (.pl 21 0)),(3,Cc (.pl 22 0)),(44,Cc (xF aG f.Graph.aB)),(45,Iv (f.Graph.aB.length:Int)),(46,Iv kJ)],[(21,.row 29 [aj f]),(22,.row 26 [bM f.Graph])])) (fun FQ => ([],[])) (dm Try.prog Try.f54.results.toList [] [] (fun (t:Bool) => [.c (bC t)]) (fun (t:Bool) => [])) ?_ (aU.of z5 z2) Q (fun FQ _ => ?_) kT
    ·intro kJ
     unfold uS
     refine Ws (Wr ?_)
     refine ah LT.lss y5 (On (Ws ?_))
     refine aA.cond Q (fun hc63 => ?_) (fun hc63 => ?_)
     ·refine aA.skip (Ws (aA.block (Ws (Wr ?_))))
      refine aK (Iv kJ) y4 (ay fun jM Pm => (dF (LT.dW (enc:=aG) Q jO Pm dQ) Q Q Q Q (aT (gq Q jS iH dQ) Q Q Q (ja 26 [iC 0,iC 0] mZ y6 (aN (Iv kJ) y4 (gJ (stA [iC jM.A,iC jM.B] Q Q iH dQ) Q Q Q Q Q (On (Ws ?_))))))))
      refine aA.iU (fun j72 => ([(1,Cc (.pl 21 0)),(3,Cc (.pl 22 0)),(44,Cc (xF aG f.Graph.aB)),(45,Iv (f.Graph.aB.length:Int)),(46,Iv kJ),(77,Bv j72)],[(21,.row 29 [aj f]),(22,.row 26 [bM f.Graph])])) ?_ (fun j72 _ => ?_)
      ·refine en [(1,Cc (.pl 21 0)),(3,Cc (.pl 22 0)),(6,Iv kJ),(7,Cc (.pl 26 0)),(44,Cc (xF aG f.Graph.aB)),(45,Iv (f.Graph.aB.length:Int)),(46,Iv kJ)] [(21,.row 29 [aj f]),(22,.row 26 [bM f.Graph]),(26,.row 96 [[iC jM.A,iC jM.B]])] z7 z3 (aA.draw mixed (dA (Iv kJ) y4 (qo LT.gtr ak (dA (Bv (decide (0 < kJ))) y4 (aP.split (fun jo => ?_) (fun jo => ?_))))))
       ·refine kP (xF aG f.Graph.aB) fZ gK jo fF (oI (Iv kJ) jo y5 (l7 LT.sub jo kz (aP.bind fun pz Pn => (dP (LT.dW (enc:=aG) Q jO Pn dQ) Q Q (gH jo Q Q) Q (bT (gq Q jS iH dQ) Q (gH jo Q Q) Q (gV (fB [iC jM.A,iC jM.B] Q jS iH dQ) Q Q (gH jo Q Q) Q (dP (LT.wP [pz.A,pz.B] [jM.A,jM.B] Q AO Q Q) Q Q (gH jo Q Q) Q (jY (Bv (gY [pz.A,pz.B] [jM.A,jM.B])) jo y5 (dA (Bv (gY [pz.A,pz.B] [jM.A,jM.B])) y4 (aP.split (fun iT => ?_) (fun iT => ?_)))))))))))
        ·refine ai iT y3 (ai iT y3 (ai iT y3 (ai iT y3 (ai iT y3 (ai iT y3 (ai iT y3 (ai iT y3 (ai iT y3 (ai iT y3 (ai iT y3 (ai iT y3 ?_)))))))))))
         refine ai iT y3 (jY (Bv true) iT ak (fD (bK Q z6 z2)))
        ·refine kP (xF aI f.Places) iG iJ iT fF (kP (iC jM.A) jb bD iT fF (aP.bind fun sV Po => (dP (LT.dW (enc:=aI) Q iw Po eG) Q Q (gH iT Q Q) Q (bT (gq Q lG jX eG) Q (gH iT Q Q) Q (kP (xF aI f.Places) iG iJ iT fF (kP (iC jM.B) jm bD iT fF (aP.bind fun sW Pq => ?_)))))))
         refine dP (LT.dW (enc:=aI) Q iw Pq eG) Q Q (gH iT Q Q) Q (bT (gq Q lG jX eG) Q (gH iT Q Q) Q (dP (LT.wP [sV.X,sV.Y] [sW.X,sW.Y] Q Dq Q Q) Q Q (gH iT Q Q) Q (iW (Bv (gY [sV.X,sV.Y] [sW.X,sW.Y])) iT y5 (fD (bK Q z6 z2)))))
       ·refine ai jo y3 (ai jo y3 (ai jo y3 (ai jo y3 (ai jo y3 (ai jo y3 (ai jo y3 (ai jo y3 (iW (Bv false) jo ak (dA (Bv false) y4 (bT (LT.dO Q iG) Q (gS Q Q) Q (gV (xW (xF aI f.Places) Q iJ) Q Q (gS Q Q) Q ?_)))))))))))
        refine bT (LT.dO Q jb) Q (gS Q Q) Q (gV (xW (iC jM.A) Q bD) Q Q (gS Q Q) Q (aP.bind fun sZ Pv => (dP (LT.dW (enc:=aI) Q iw Pv eG) Q Q (gS Q Q) Q (bT (gq Q lG jX eG) Q (gS Q Q) Q (bT (LT.dO Q iG) Q (gS Q Q) Q (gV (xW (xF aI f.Places) Q iJ) Q Q (gS Q Q) Q (bT (LT.dO Q jm) Q (gS Q Q) Q (gV (xW (iC jM.B) Q bD) Q Q (gS Q Q) Q (aP.bind fun su Px => (dP (LT.dW (enc:=aI) Q iw Px eG) Q Q (gS Q Q) Q (bT (gq Q lG jX eG) Q (gS Q Q) Q ?_)))))))))))
        refine dP (LT.wP [sZ.X,sZ.Y] [su.X,su.Y] Q Dq Q Q) Q Q (gS Q Q) Q (iW (Bv (gY [sZ.X,sZ.Y] [su.X,su.Y])) Q y5 (fD (bK Q z6 z2)))
      ·refine aA.cond Q (fun OV => ?_) (fun OV => ?_)
       ·refine Ws (Wr ?_)
        refine aN (Bv false) aV (On (aA.ret ⟨Q,jc z1 J ⟨aX.sc,J⟩ J⟩))
       ·refine aA.skip (aA.blk (Wr ?_))
        refine ah LT.add ak (aK (Iv (aJ (kJ + 1))) y4 (On (bK Q z5 z2)))
     ·refine ig y2 J J
    ·refine Ws (Wr ?_)
     refine aN (Bv true) aV (On (bI z1 J ⟨aX.sc,J⟩ J))
theorem BM (f:aH):FT Try.prog (qR f) 12 [.agg (aj f)] [] (fun (t:Bool) => [.c (bC t)]) (fun (t:Bool) => []) []:=by
 refine FT.of [] Try.func12 Try.ntmps12 Q y2 ?_
 intro w0 U0 R0 g0
 unfold qR
 refine Ws (Wr ?_)
 refine eU 21 (.agg (aj f)) dI y5 (aN (Bv false) aV (On (Ws (Ws ?_))))
 refine aA.iU (fun j5 => ([(1,Cc (.pl 21 0)),(31,Bv j5)],[(21,.row 29 [aj f])])) ?_ (fun j5 _ => ?_)
 ·refine Wr (aT (LT.dO Q gm) Q Q Q (eY (fB (bM f.Graph) Q kN jW gU) Q Q Q Q (ay fun r6 xI => (jC [.agg (bM f.Graph)] (UA f.Graph r6 xI) MK (qg y2) y5 z2 (aT (LT.not Q) Q Q Q (aK (Bv (!r6)) y4 (aS.split (fun hb7 => ?_) (fun hb7 => ?_))))))))
  ·refine bF hb7 y5 (bF hb7 y5 (bF hb7 y5 (bF hb7 y5 (jI (Bv true) hb7 ak (aK (Bv true) y4 (fV y5 (fV y5 (fV y5 (fV y5 (fV y5 (fV y5 ?_)))))))))))
   refine fV y5 (jI (Bv true) Q ak (aK (Bv true) y4 (fV y5 (fV y5 (fV y5 (fV y5 (fV y5 (jI (Bv true) Q ak (On (bK Q z2 z1))))))))))
  ·refine aT (LT.dO Q gm) Q (gH hb7 Q Q) Q (jV (iC f.Graph.aC) jD bD hb7 fF (lF LT.gtr hb7 kz (jr (Bv (decide (6 < f.Graph.aC))) hb7 y5 (aK (Bv (decide (6 < f.Graph.aC))) y4 (aS.split (fun hb8 => ?_) (fun hb8 => ?_))))))
   ·refine bF hb8 y5 (bF hb8 y5 (bF hb8 y5 (bF hb8 y5 (bF hb8 y5 (bF hb8 y5 (bF hb8 y5 (jI (Bv true) hb8 ak (aK (Bv true) y4 (fV y5 (fV y5 (fV y5 ?_)))))))))))
    refine fV y5 (fV y5 (jI (Bv true) Q ak (On (bK Q z2 z1))))
   ·refine jV (xF aI f.Places) iG iJ hb8 fF (aT (LT.dn Q lN) Q (gH hb8 Q Q) Q (aT (LT.dO Q gm) Q (gH hb8 Q Q) Q (jV (iC f.Graph.aC) jD bD hb8 fF (lF LT.neq hb8 y6 (jr (Bv ((f.Places.length:Int) != f.Graph.aC)) hb8 y5 (aK (Bv ((f.Places.length:Int) != f.Graph.aC)) y4 (aS.split (fun iO => ?_) (fun iO => ?_))))))))
    ·refine bF iO y5 (bF iO y5 (bF iO y5 (bF iO y5 (bF iO y5 (jI (Bv true) iO ak (On (bK Q z2 z1)))))))
    ·refine aT (LT.dO Q gm) Q (gH iO Q Q) Q (jV (xF aG f.Graph.aB) fZ gK iO fF (aT (LT.dn Q iQ) Q (gH iO Q Q) Q (lF LT.gtr iO kz (jr (Bv (decide (15 < (f.Graph.aB.length:Int)))) iO y5 (On (bK Q z2 z1))))))
 ·refine aA.cond Q (fun CZ => ?_) (fun CZ => ?_)
  ·refine Ws (Wr ?_)
   refine aN (Bv false) aV (On (bI z1 J ⟨aX.sc,J⟩ J))
  ·refine aA.skip (Ws (Ws (Wr ?_)))
   refine aN (Iv 0) aV (On (aA.block ?_))
   refine aA.kU (id:=0) (vI f) (fun s11 => ([(1,Cc (.pl 21 0)),(3,Iv s11)],[(21,.row 29 [aj f])])) (fun fA => ([(1,Cc (.pl 21 0))],[(21,.row 29 [aj f])])) (dm Try.prog Try.f12.results.toList [] [] (fun (t:Bool) => [.c (bC t)]) (fun (t:Bool) => [])) ?_ (aU.of z2 z1) Q (fun fA _ => ?_) kT
   ·intro s11
    unfold vI
    refine Ws (Ws (Wr ?_))
    refine aK (Iv s11) y4 (bg (xF aI f.Places) iG iJ bG (aT (LT.dn Q lN) Q Q Q (ah LT.lss y5 (On (aA.cond Q (fun hc39 => ?_) (fun hc39 => ?_))))))
    ·refine aA.skip (Ws (aA.block (Ws ?_)))
     refine aA.iU (fun j45 => ([(1,Cc (.pl 21 0)),(3,Iv s11),(56,Bv j45)],[(21,.row 29 [aj f])])) ?_ (fun j45 _ => ?_)
     ·refine Wr (bg (xF aI f.Places) iG iJ bG (aK (Iv s11) y4 (ay fun BO Pj => (dF (LT.dW (enc:=aI) Q iw Pj eG) Q Q Q Q (aT (LT.jw Q lU) Q Q Q (aT (LT.jk Q bD) Q Q Q (ay fun Aw hr47 => (jC [.c (iC BO.X),.c (iC 0),.c (iC 4)] (Ey BO.X 0 4 Aw hr47) Bc (ve y3) y5 ⟨Q,Q,y2,y2,J⟩ (aT (LT.not Q) Q Q Q (aK (Bv (!Aw)) y4 ?_))))))))))
      refine aS.split (fun hb48 => ?_) (fun hb48 => ?_)
      ·refine bF hb48 y5 (bF hb48 y5 (bF hb48 y5 (bF hb48 y5 (bF hb48 y5 (bF hb48 y5 (bF hb48 y5 (bF hb48 y5 (jI (Bv true) hb48 ak (On (bK Q z3 z1))))))))))
      ·refine jV (xF aI f.Places) iG iJ hb48 fF (vO (Iv s11) hb48 y5 (ay fun wB AA => (dF (LT.dW (enc:=aI) Q iw AA eG) Q Q (gH hb48 Q Q) Q (aT (LT.jw Q lV) Q (gH hb48 Q Q) Q (aT (LT.jk Q bD) Q (gH hb48 Q Q) Q (ay fun oL DV => (aS.pure (iF [.c (iC wB.Y),.c (iC 0),.c (iC 4)] (Ey wB.Y 0 4 oL DV) Bc (ve y3) J y3) ⟨Q,Q,y2,y2,J⟩ J (gH hb48 Q Q) Q (aT (LT.not Q) Q (gH hb48 Q Q) Q (jr (Bv (!oL)) hb48 y5 (On ?_))))))))))
       refine bK Q z3 z1
     ·refine aA.cond Q (fun OQ => ?_) (fun OQ => ?_)
      ·refine Ws (Wr ?_)
       refine aN (Bv false) aV (On (aA.ret ⟨Q,jc z1 J ⟨aX.sc,J⟩ J⟩))
      ·refine aA.skip (aA.blk (Wr ?_))
       refine aK (Iv s11) y4 (ah LT.add ak (aN (Iv (aJ (s11 + 1))) y4 (On (bK Q z2 z1))))
    ·refine ig y2 z1 z1
   ·refine Ws (Ws (Wr ?_))
    refine aN (Iv 0) aV (On (aA.block ?_))
    refine aA.kU (id:=2) (vJ f) (fun kK => ([(1,Cc (.pl 21 0)),(4,Iv kK)],[(21,.row 29 [aj f])])) (fun FU => ([],[])) (dm Try.prog Try.f12.results.toList [] [] (fun (t:Bool) => [.c (bC t)]) (fun (t:Bool) => [])) ?_ (aU.of z2 z1) Q (fun FU _ => ?_) kT
    ·intro kK
     unfold vJ
     refine Ws (Ws (Wr ?_))
     refine aK (Iv kK) y4 (aT (LT.dO Q gm) Q Q Q (bg (xF aG f.Graph.aB) fZ gK bG (aT (LT.dn Q iQ) Q Q Q (ah LT.lss y5 (On (aA.cond Q (fun OW => ?_) (fun OW => ?_)))))))
     ·refine aA.skip (Ws (aA.block (Ws (Wr ?_))))
      refine aT (LT.dO Q gm) Q Q Q (bg (xF aG f.Graph.aB) fZ gK bG (aK (Iv kK) y4 (ay fun x83 Py => (dF (LT.dW (enc:=aG) Q jO Py dQ) Q Q Q Q (aT (gq Q jS iH dQ) Q Q Q (ja 25 [iC 0,iC 0] mZ y6 (gJ (stA [iC x83.A,iC x83.B] Q Q iH dQ) Q Q Q Q Q (On (Ws ?_)))))))))
      refine aA.iU (fun j89 => ([(1,Cc (.pl 21 0)),(4,Iv kK),(98,Bv j89)],[(21,.row 29 [aj f])])) ?_ (fun j89 _ => ?_)
      ·refine en [(1,Cc (.pl 21 0)),(4,Iv kK),(5,Cc (.pl 25 0))] [(21,.row 29 [aj f]),(25,.row 96 [[iC x83.A,iC x83.B]])] z3 z2 (aA.draw mixed (jT (xF aI f.Places) iG iJ bG (jT (iC x83.A) jb bD bG (aP.bind fun x90 hx90 => (dP (LT.dW (enc:=aI) Q iw hx90 eG) Q Q Q Q (bT (gq Q lG jX eG) Q Q Q (jT (xF aI f.Places) iG iJ bG (bT (LT.dO Q jm) Q Q Q ?_))))))))
       refine gV (xW (iC x83.B) Q bD) Q Q Q Q (aP.bind fun x91 hx91 => (dP (LT.dW (enc:=aI) Q iw hx91 eG) Q Q Q Q (bT (gq Q lG jX eG) Q Q Q (dP (LT.wP [x90.X,x90.Y] [x91.X,x91.Y] Q Dq Q Q) Q Q Q Q (dA (Bv (gY [x90.X,x90.Y] [x91.X,x91.Y])) y4 (aP.split (fun lY => ?_) (fun lY => ?_)))))))
       ·refine ai lY y3 (ai lY y3 (ai lY y3 (aY y3 (aY y3 (aY y3 (aY y3 (aY y3 (aY y3 (aY y3 (aY y3 (aY y3 ?_)))))))))))
        refine ai lY y3 (jY (Bv true) lY ak (fD (bK Q z3 z1)))
       ·refine oI (Iv kK) lY y5 (l7 LT.gtr lY kz (oI (Bv (decide (0 < kK))) lY y5 (aP.split (fun jd => ?_) (fun jd => ?_))))
        ·refine bT (LT.dO Q gm) Q (gH jd Q Q) Q (kP (xF aG f.Graph.aB) fZ gK jd fF (oI (Iv kK) jd y5 (l7 LT.sub jd kz (aP.bind fun qA Pz => (dP (LT.dW (enc:=aG) Q jO Pz dQ) Q Q (gH jd Q Q) Q (bT (gq Q jS iH dQ) Q (gH jd Q Q) Q (gV (fB [iC x83.A,iC x83.B] Q jS iH dQ) Q Q (gH jd Q Q) Q (dP (LT.wP [qA.A,qA.B] [x83.A,x83.B] Q AO Q Q) Q Q (gH jd Q Q) Q (dP (LT.mQ (v:=(Bv (gY [qA.A,qA.B] [x83.A,x83.B]))) Q jd) Q Q (gH lY Q Q) Q (iW (Bv (gY [qA.A,qA.B] [x83.A,x83.B])) lY y5 ?_))))))))))
         refine fD (bK Q z3 z1)
        ·refine ai jd y3 (ai jd y3 (ai jd y3 (ai jd y3 (ai jd y3 (ai jd y3 (ai jd y3 (ai jd y3 (ai jd y3 (dP (LT.nT (v:=(Bv false)) Q jd) Q y2 (gH lY Q Q) Q (iW (Bv false) lY y5 (fD ?_)))))))))))
         refine bK Q z3 z1
      ·refine aA.cond Q (fun hc95 => ?_) (fun hc95 => ?_)
       ·refine Ws (Wr ?_)
        refine aN (Bv false) aV (On (aA.ret ⟨Q,jc z1 J ⟨aX.sc,J⟩ J⟩))
       ·refine aA.skip (aA.blk (Wr ?_))
        refine aK (Iv kK) y4 (ah LT.add ak (aN (Iv (aJ (kK + 1))) y4 (On (bK Q z2 z1))))
     ·refine ig y2 J J
    ·refine Ws (Wr ?_)
     refine aN (Bv true) aV (On (bI z1 J ⟨aX.sc,J⟩ J))
theorem TV (a:(List aQ)) (leftV:Int):FT Try.prog (yG a leftV) 111 [.c (xF aG a),.c (iC leftV)] [] (fun (t:Int) => [.c (iC t)]) (fun (t:Int) => []) []:=by
 refine FT.of [] Try.func111 Try.ntmps111 Q y2 ?_
 intro w0 U0 R0 g0
 unfold yG
 refine Ws (Wr ?_)
 refine aN (Iv 0) aV (On (Ws (Wr ?_)))
 refine aK (Iv leftV) y4 (aK (Cc (xF aG a)) y4 (aT (LT.dn Q Em) Q Q Q (ah LT.sub y5 (aN (Iv (aJ (leftV - (a.length:Int)))) y4 (On (Ws (Ws (Wr ?_))))))))
 refine aK (Iv (aJ (leftV - (a.length:Int)))) y4 (ah LT.lss ak (On (aA.cond Q (fun hc1 => ?_) (fun hc1 => ?_))))
 ·refine Ws (Wr ?_)
  refine aN (Iv (-1)) aV (On (bI z1 J ⟨aX.sc,J⟩ J))
 ·refine aA.skip (Ws (Wr ?_))
  refine aK (Iv (aJ (leftV - (a.length:Int)))) y4 (aN (Iv (aJ (leftV - (a.length:Int)))) y4 (On (bI z1 J ⟨aX.sc,J⟩ J)))
theorem Tc (a:au) (leftV:Int):FT Try.prog (yI a leftV) 39 [.agg (bM a),.c (iC leftV)] [] (fun (t:Int) => [.c (iC t)]) (fun (t:Int) => []) []:=by
 refine FT.of [] Try.func39 Try.ntmps39 Q y2 ?_
 intro w0 U0 R0 g0
 unfold yI
 refine Ws (Wr ?_)
 refine eU 21 (.agg (bM a)) BH y5 (aN (Iv 0) aV (On (Ws (Wr ?_))))
 refine bg (xF aG a.aB) Gm FH bG (aK (Iv leftV) y4 (ay fun r1 hr1 => (jC [.c (xF aG a.aB),.c (iC leftV)] (TV a.aB leftV r1 hr1) LP (mV y2) y5 z3 (aN (Iv r1) y4 (On (Ws (Ws (Wr ?_))))))))
 refine aK (Iv r1) y4 (ah LT.lss ak (On (aA.cond Q (fun hc2 => ?_) (fun hc2 => ?_))))
 ·refine Ws (en [] [] J J (Wr (aN (Iv (-1)) aV (On (bI z1 J ⟨aX.sc,J⟩ J)))))
 ·refine aA.skip (Ws ?_)
  refine en [(1,Iv r1)] [] z1 J (Wr (aK (Iv r1) y4 (aN (Iv r1) y4 (On (bI z1 J ⟨aX.sc,J⟩ J)))))
theorem Tf (a:aQ):FT Try.prog (AZ a) 174 [.agg [iC a.A,iC a.B]] [] (fun (t:aQ) => [.agg [iC t.A,iC t.B]]) (fun (t:aQ) => []) []:=by
 refine FT.of [] Try.func174 Try.ntmps174 Q y2 ?_
 intro w0 U0 R0 g0
 unfold AZ
 refine Ws (Wr ?_)
 refine eU 21 (.agg [iC a.A,iC a.B]) Ee y5 (ja 22 [iC 0,iC 0] mZ y6 (On (Ws (Wr ?_))))
 refine ja 23 [iC 0,iC 0] mZ y6 (On (Ws (Wr ?_)))
 refine bg (iC a.A) Nb bD bG (aT (LT.dO Q jb) Q Q Q (gJ (qi (.c (iC a.A)) [iC a.A,iC 0] Q Q oD lM) Q Q Q Q Q (On (Ws ?_))))
 refine en [(1,Cc (.pl 21 0)),(2,Cc (.pl 22 0)),(3,Cc (.pl 23 0))] [(21,.row 150 [[iC a.A,iC a.B]]),(22,.row 96 [[iC 0,iC 0]]),(23,.row 96 [[iC a.A,iC 0]])] z3 z3 (Wr (bg (iC a.B) Nc bD bG (aT (LT.dO Q jm) Q Q Q (gJ (qi (.c (iC a.B)) [iC a.A,iC a.B] Q Q oD lM) Q Q Q Q Q (On (Ws (Wr ?_)))))))
 refine eY (fB [iC a.A,iC a.B] Q jS iH dQ) Q Q Q Q (gJ (stA [iC a.A,iC a.B] Q Q iH dQ) Q Q Q Q Q (On (bI ⟨⟨_,_,_,Q,Q,Q,jS,dQ,_,gB iH⟩,J⟩ J ⟨⟨aX.sc,aX.sc,J⟩,J⟩ J)))
theorem Ti (a:(List aQ)):FT Try.prog (yK a) 117 [.c (xF aG a)] [] (fun (t:(List aQ)) => [.c (lo 0 t.length)]) (fun (t:(List aQ)) => [(0,pR 96 aG t)]) [0]:=by
 refine FT.of [] Try.func117 Try.ntmps117 Q y2 ?_
 intro w0 U0 R0 g0
 unfold yK
 refine Ws (Wr ?_)
 refine aN (Cc (sC fU)) aV (On (Ws (Wr ?_)))
 refine aK (Cc (xF aG a)) y4 (aT (LT.dn Q Em) Q Q Q (ay fun u1 hu1 => (E8 (LT.Jv (n:=21) (enc:=aG) (zc:=[iC 0,iC 0]) (aQ.mk (0:Int) (0:Int)) Q iQ mZ Q Q Q (by decide) (by decide) (IA hu1) Q) Q Q Q Q (aN (Cc (lo 21 ((List.replicate (a.length:Int).toNat (aQ.mk (0:Int) (0:Int))).length))) y4 (On (Ws (Ws (Wr ?_))))))))
 refine aN (Iv 0) aV (On (aA.block ?_))
 refine aA.mJ (id:=0) (yL a) (fun s2 => ([(0,Cc (xF aG a)),(3,Cc (lo 21 s2.2.length)),(4,Iv s2.1)],[(21,pR 96 aG s2.2)])) (fun b11 => ([(3,Cc (lo 21 b11.length))],[(21,pR 96 aG b11)])) ?_ (aU.of z3 z1) Q (fun b11 _ => ?_)
 ·intro s2
  unfold yL
  refine Ws (Ws (Wr ?_))
  refine aK (Iv s2.1) y4 (aK (Cc (xF aG a)) y4 (aT (LT.dn Q Em) Q Q Q (ah LT.lss y5 (On (aA.cond Q (fun hc12 => ?_) (fun hc12 => ?_))))))
  ·refine aA.skip (Ws (aA.block (Wr ?_)))
   refine aK (Cc (lo 21 s2.2.length)) y4 (aK (Iv s2.1) y4 (aK (Cc (xF aG a)) y4 (aK (Iv s2.1) y4 (ay fun jL o9 => (dF (LT.dW (enc:=aG) Q Mc o9 Ee) Q Q Q Q (aT (gq Q KZ P8 Ee) Q Q Q (ay fun kF DL => (jC [.agg [iC jL.A,iC jL.B]] (Tf jL kF DL) Lm (qg y2) y5 z2 (ay fun x15 nR => (nH (LT.ql Q Q jO nR) Q Q Q Q Q (gJ (sQ 0 (.agg [iC kF.A,iC kF.B]) kF Q Q iH dQ nR) Q Q Q Q Q ?_)))))))))))
   refine On (aA.blk ?_)
   refine en [(0,Cc (xF aG a)),(3,Cc (lo 21 s2.2.length)),(4,Iv s2.1)] [(21,pR 96 aG (s2.2.set s2.1.toNat kF))] z3 z1 (Wr (aK (Iv s2.1) y4 (ah LT.add ak (aN (Iv (aJ (s2.1 + 1))) y4 (On (aA.nil ⟨Q,aU.of ⟨Q,congrArg (fun l1 => (some (AV.s (.c (lo 21 l1))):Option AV)) (show s2.2.length = (s2.2.set s2.1.toNat kF).length by simp only [List.length_set]),Q,J⟩ z1⟩))))))
  ·refine ig y2 z1 z1
 ·refine Ws (Wr ?_)
  refine aK (Cc (lo 21 b11.length)) y4 (aN (Cc (lo 21 b11.length)) y4 (On (en [(2,Cc (lo 21 b11.length))] [(21,pR 96 aG b11)] z1 z1 (aA.ent (aU.mv 21 0 Q Q) (en [(2,Cc (lo 0 b11.length))] [(0,pR 96 aG b11)] z1 z1 (bI z1 z1 ⟨J,J⟩ ⟨dB.gG jR,J⟩))))))
theorem Tj (a:au):FT Try.prog (yM a) 41 [.agg (bM a)] [] (fun (t:au) => [.agg [iC t.aC,lo 0 t.aB.length]]) (fun (t:au) => [(0,pR 96 aG t.aB)]) [0]:=by
 refine FT.of [] Try.func41 Try.ntmps41 Q y2 ?_
 intro w0 U0 R0 g0
 unfold yM
 refine Ws (Wr ?_)
 refine eU 21 (.agg (bM a)) BH y5 (ja 22 [iC 0,sC fU] sO y6 (On (Ws (Wr ?_))))
 refine ja 23 [iC 0,sC fU] sO y6 (On (Ws (Wr ?_)))
 refine bg (iC a.aC) Nh bD bG (aT (LT.dO Q jD) Q Q Q (gJ (qi (.c (iC a.aC)) [iC a.aC,sC fU] Q Q oD lM) Q Q Q Q Q (On (Ws ?_))))
 refine en [(1,Cc (.pl 21 0)),(2,Cc (.pl 22 0)),(3,Cc (.pl 23 0))] [(21,.row 50 [bM a]),(22,.row 26 [[iC 0,sC fU]]),(23,.row 26 [[iC a.aC,sC fU]])] z3 z3 (Wr (bg (xF aG a.aB) Gm FH bG (ay fun r1 hr1 => (aS.step (iF [.c (xF aG a.aB)] (Fw.Fn.ren [(0,25)] (Ti a.aB r1 hr1) Q) LU (Ji Q) J y3) z2 J Q Q (aT (LT.dO Q fZ) Q Q Q (gJ (qi (.c (lo 25 r1.length)) [iC a.aC,lo 25 r1.length] Q Q P9 SA) Q Q Q Q Q (On (Ws (Wr ?_)))))))))
 refine eY (fB [iC a.aC,lo 25 r1.length] Q kN jW gU) Q Q Q Q (gJ (stA [iC a.aC,lo 25 r1.length] Q Q jW gU) Q Q Q Q Q (On (en [(2,Cc (.pl 22 0))] [(22,.row 26 [[iC a.aC,lo 25 r1.length]]),(25,pR 96 aG r1)] z1 z2 (aA.ent (aU.mv 25 0 Q Q) (en [(2,Cc (.pl 22 0))] [(0,pR 96 aG r1),(22,.row 26 [[iC a.aC,lo 0 r1.length]])] z1 z2 (bI ⟨⟨_,_,_,Q,Q,Q,kN,gU,_,gB jW⟩,J⟩ z1 ⟨⟨aX.sc,J,J⟩,J⟩ ⟨dB.gG jR,J⟩))))))
theorem TG (g:au):FT Try.prog (AQ g) 118 [.agg (bM g)] [] (fun (t:au) => [.agg [iC t.aC,lo 0 t.aB.length]]) (fun (t:au) => [(0,pR 96 aG t.aB)]) [0]:=by
 refine FT.of [] Try.func118 Try.ntmps118 Q y2 ?_
 intro w0 U0 R0 g0
 unfold AQ
 refine Ws (Wr ?_)
 refine eU 21 (.agg (bM g)) gU y5 (ja 22 [iC 0,sC fU] sO y6 (On (Ws (aA.draw mixed ?_))))
 refine jT (iC g.aC) jD bD bG (tH (ny 23 aG [] [] iQ mZ y7) Q Q (jT (xF aG g.aB) fZ gK bG (aP.bind fun u1 hu1 => (nD (LT.BI (enc:=aG) Q  Q iQ mZ Q (by decide) (by decide) (fun _ => Q) (qN hu1)) Q Q Q Q Q (dP (LT.build [(0,.tmp 4,.c (iC g.aC)),(1,.tmp 8,.c (lo 23 ((([]:List aQ) ++ g.aB).length)))] Q Q JI sO Q Q Q) Q Q Q Q (nD (stA [iC g.aC,lo 23 ((([]:List aQ) ++ g.aB).length)] Q Q jW gU) Q Q Q Q Q (fD (en [(2,Cc (.pl 22 0))] [(22,.row 26 [[iC g.aC,lo 23 ((([]:List aQ) ++ g.aB).length)]]),(23,pR 96 aG (([]:List aQ) ++ g.aB))] z1 z2 (aA.ent (aU.mv 23 0 Q Q) ?_)))))))))
 refine en [(2,Cc (.pl 22 0))] [(0,pR 96 aG (([]:List aQ) ++ g.aB)),(22,.row 26 [[iC g.aC,lo 0 ((([]:List aQ) ++ g.aB).length)]])] z1 z2 (bI ⟨⟨_,_,_,Q,Q,Q,kN,gU,_,gB jW⟩,J⟩ z1 ⟨⟨aX.sc,J,J⟩,J⟩ ⟨dB.gG jR,J⟩)
theorem TL (a:aQ) (b:aQ):FT Try.prog (AX a b) 123 [.agg [iC a.A,iC a.B],.agg [iC b.A,iC b.B]] [] (fun (t:Bool) => [.c (bC t)]) (fun (t:Bool) => []) []:=by
 refine FT.of [] Try.func123 Try.ntmps123 Q y2 ?_
 intro w0 U0 R0 g0
 unfold AX
 refine Ws (Wr ?_)
 refine eU 21 (.agg [iC a.A,iC a.B]) dQ y5 (eU 22 (.agg [iC b.A,iC b.B]) dQ y5 (aN (Bv false) aV (On (Ws (Ws (Wr ?_))))))
 refine bg (iC a.A) jb bD bG (bg (iC b.A) jb bD bG (ah LT.neq y5 (On (aA.cond Q (fun hc1 => ?_) (fun hc1 => ?_)))))
 ·refine Ws (en [] [] J J (Wr (aN (Bv false) aV (On (bI z1 J ⟨aX.sc,J⟩ J)))))
 ·refine aA.skip (Ws (Ws ?_))
  refine en [(2,Cc (.pl 21 0)),(3,Cc (.pl 22 0))] [(21,.row 96 [[iC a.A,iC a.B]]),(22,.row 96 [[iC b.A,iC b.B]])] z2 z2 (Wr (bg (iC a.B) jm bD bG (bg (iC b.B) jm bD bG (ah LT.neq y5 (On (aA.cond Q (fun hc2 => ?_) (fun hc2 => ?_)))))))
  ·refine Ws (Wr ?_)
   refine aN (Bv false) aV (On (bI z1 J ⟨aX.sc,J⟩ J))
  ·refine aA.skip (Ws (Wr ?_))
   refine aN (Bv true) aV (On (bI z1 J ⟨aX.sc,J⟩ J))
theorem TM (a:(List aQ)) (b:(List aQ)):FT Try.prog (xk a b) 43 [.c (xF aG a),.c (xF aG b)] [] (fun (t:Bool) => [.c (bC t)]) (fun (t:Bool) => []) []:=by
 refine FT.of [] Try.func43 Try.ntmps43 Q y2 ?_
 intro w0 U0 R0 g0
 unfold xk
 refine Ws (Wr ?_)
 refine aN (Bv false) aV (On (Ws (Ws (Wr ?_))))
 refine aK (Cc (xF aG a)) y4 (aT (LT.dn Q iQ) Q Q Q (aK (Cc (xF aG b)) y4 (aT (LT.dn Q iQ) Q Q Q (ah LT.neq y5 (On (aA.cond Q (fun hc1 => ?_) (fun hc1 => ?_)))))))
 ·refine Ws (Wr ?_)
  refine aN (Bv false) aV (On (bI z1 J ⟨aX.sc,J⟩ J))
 ·refine aA.skip (Ws (Ws (Wr ?_)))
  refine aN (Iv 0) aV (On (aA.block ?_))
  refine aA.kU (id:=0) (xq a b) (fun s2 => ([(0,Cc (xF aG a)),(1,Cc (xF aG b)),(5,Iv s2)],[])) (fun b13 => ([],[])) (dm Try.prog Try.f43.results.toList [] [] (fun (t:Bool) => [.c (bC t)]) (fun (t:Bool) => [])) ?_ (aU.of z3 J) Q (fun b13 _ => ?_) kT
  ·intro s2
   unfold xq
   refine Ws (Ws (Wr ?_))
   refine aK (Iv s2) y4 (aK (Cc (xF aG a)) y4 (aT (LT.dn Q iQ) Q Q Q (ah LT.lss y5 (On (aA.cond Q (fun wZ => ?_) (fun wZ => ?_))))))
   ·refine aA.skip (Ws (aA.block (Ws (aA.draw mixed ?_))))
    refine dA (Cc (xF aG a)) y4 (dA (Iv s2) y4 (aP.bind fun x15 nR => (dP (LT.dW (enc:=aG) Q jO nR dQ) Q Q Q Q (bT (gq Q jS iH dQ) Q Q Q (dA (Cc (xF aG b)) y4 (dA (Iv s2) y4 (aP.bind fun x16 hx16 => (dP (LT.dW (enc:=aG) Q jO hx16 dQ) Q Q Q Q (bT (gq Q jS iH dQ) Q Q Q (aP.bind fun eu nO => (aP.pure (iF [.agg [iC x15.A,iC x15.B],.agg [iC x16.A,iC x16.B]] (TL x15 x16 eu nO) LW (sN y4) J y3) z3 J Q Q ?_)))))))))))
    refine bT (LT.not Q) Q Q Q (fD (aA.cond Q (fun hc18 => ?_) (fun hc18 => ?_)))
    ·refine Ws (en [] [] J J (Wr (aN (Bv false) aV (On (aA.ret ⟨Q,jc z1 J ⟨aX.sc,J⟩ J⟩)))))
    ·refine aA.skip (aA.blk ?_)
     refine en [(0,Cc (xF aG a)),(1,Cc (xF aG b)),(5,Iv s2)] [] z3 J (Wr (aK (Iv s2) y4 (ah LT.add ak (aN (Iv (aJ (s2 + 1))) y4 (On (bK Q z3 J))))))
   ·refine ig y2 J J
  ·refine Ws (Wr ?_)
   refine aN (Bv true) aV (On (bI z1 J ⟨aX.sc,J⟩ J))
theorem TN (a:au) (b:au):FT Try.prog (xw a b) 44 [.agg (bM a),.agg (bM b)] [] (fun (t:Bool) => [.c (bC t)]) (fun (t:Bool) => []) []:=by
 refine FT.of [] Try.func44 Try.ntmps44 Q y2 ?_
 intro w0 U0 R0 g0
 unfold xw
 refine Ws (Wr ?_)
 refine eU 21 (.agg (bM a)) gU y5 (eU 22 (.agg (bM b)) gU y5 (aN (Bv false) aV (On (Ws (Ws (Wr ?_))))))
 refine bg (iC a.aC) jD bD bG (bg (iC b.aC) jD bD bG (ah LT.neq y5 (On (aA.cond Q (fun hc1 => ?_) (fun hc1 => ?_)))))
 ·refine Ws (en [] [] J J (Wr (aN (Bv false) aV (On (bI z1 J ⟨aX.sc,J⟩ J)))))
 ·refine aA.skip (Ws (Ws ?_))
  refine en [(2,Cc (.pl 21 0)),(3,Cc (.pl 22 0))] [(21,.row 26 [bM a]),(22,.row 26 [bM b])] z2 z2 (Wr (bg (xF aG a.aB) fZ gK bG (bg (xF aG b.aB) fZ gK bG (ay fun r2 hr2 => (jC [.c (xF aG a.aB),.c (xF aG b.aB)] (TM a.aB b.aB r2 hr2) MC (mV y2) y5 z3 (aT (LT.not Q) Q Q Q (On (aA.cond Q (fun hc3 => ?_) (fun hc3 => ?_)))))))))
  ·refine Ws (Wr ?_)
   refine aN (Bv false) aV (On (bI z1 J ⟨aX.sc,J⟩ J))
  ·refine aA.skip (Ws (Wr ?_))
   refine aN (Bv true) aV (On (bI z1 J ⟨aX.sc,J⟩ J))
theorem KD (a:(List aQ)) (k:Int):FT Try.prog (uw a k) 46 [.c (lo 0 a.length),.c (iC k)] [(0,pR 96 aG a)] (fun (t:(Int × (List aQ))) => [.c (iC t.1)]) (fun (t:(Int × (List aQ))) => [(0,pR 96 aG t.2)]) []:=by
 refine FT.of [0] Try.func46 Try.ntmps46 Q y2 ?_
 intro w0 U0 R0 g0
 unfold uw
 refine Ws (Wr ?_)
 refine aN (Iv 0) aV (On (Ws (Ws (Wr ?_))))
 refine aN (Iv 0) aV (On (aA.block ?_))
 refine aA.mJ (id:=0) uy (fun s1 => ([(0,Cc (lo 0 s1.2.2.length)),(1,Iv s1.1),(5,Iv s1.2.1)],[(0,pR 96 aG s1.2.2)])) (fun b8 => ([(1,Iv b8.1)],[(0,pR 96 aG b8.2)])) ?_ (aU.of z3 z1) Q (fun b8 _ => ?_)
 ·intro s1
  unfold uy
  refine Ws (Ws (Wr ?_))
  refine aK (Iv s1.2.1) y4 (aK (Cc (lo 0 s1.2.2.length)) y4 (aT (LT.Dx Q iQ) Q Q Q (ah LT.lss y5 (On (aA.cond Q (fun wo => ?_) (fun wo => ?_))))))
  ·refine aA.skip (Ws (aA.block (Ws (Wr ?_))))
   refine aK (Cc (lo 0 s1.2.2.length)) y4 (aK (Iv s1.2.1) y4 (aK (Iv s1.1) y4 (ay fun x10 lJ => (nH (LT.ql Q Q jO lJ) Q Q Q Q Q (aT (LT.dO Q jb) Q Q Q (gJ (sQ 0 (.c (iC s1.1)) (aQ.mk s1.1 x10.B) Q Q oD lM lJ) Q Q Q Q Q (On (Ws ?_))))))))
   refine en [(0,Cc (lo 0 s1.2.2.length)),(1,Iv s1.1),(5,Iv s1.2.1)] [(0,pR 96 aG (s1.2.2.set s1.2.1.toNat (aQ.mk s1.1 x10.B)))] z3 z1 (Wr (aK (Iv s1.1) y4 (ah LT.add ak (aN (Iv (aJ (s1.1 + 1))) y4 (On (Ws (Wr ?_)))))))
   refine aK (Cc (lo 0 s1.2.2.length)) y4 (aK (Iv s1.2.1) y4 (aK (Iv (aJ (s1.1 + 1))) y4 (ay fun x11 xJ => (nH (LT.ql (show s1.2.2.length = (s1.2.2.set s1.2.1.toNat (aQ.mk s1.1 x10.B)).length by simp only [List.length_set]) Q jO xJ) Q Q Q Q Q (aT (LT.dO Q jm) Q Q Q (gJ (sQ 1 (.c (iC (aJ (s1.1 + 1)))) (aQ.mk x11.A (aJ (s1.1 + 1))) Q Q oD lM xJ) Q Q Q Q Q (On (en [(0,Cc (lo 0 s1.2.2.length)),(1,Iv (aJ (s1.1 + 1))),(5,Iv s1.2.1)] [(0,pR 96 aG ((s1.2.2.set s1.2.1.toNat (aQ.mk s1.1 x10.B)).set s1.2.1.toNat (aQ.mk x11.A (aJ (s1.1 + 1)))))] z3 z1 (Wr (aK (Iv (aJ (s1.1 + 1))) y4 (ah LT.add ak ?_)))))))))))
   refine aN (Iv (aJ ((aJ (s1.1 + 1)) + 1))) y4 (On (aA.blk (Wr ?_)))
   refine aK (Iv s1.2.1) y4 (ah LT.add ak (aN (Iv (aJ (s1.2.1 + 1))) y4 (On (aA.nil ⟨Q,aU.of ⟨congrArg (fun l1 => (some (AV.s (.c (lo 0 l1))):Option AV)) (show s1.2.2.length = ((s1.2.2.set s1.2.1.toNat (aQ.mk s1.1 x10.B)).set s1.2.1.toNat (aQ.mk x11.A (aJ (s1.1 + 1)))).length by simp only [List.length_set]),Q,Q,J⟩ z1⟩))))
  ·refine ig y2 z1 z1
 ·refine Ws (Wr ?_)
  refine aK (Iv b8.1) y4 (aN (Iv b8.1) y4 (On (bI z1 z1 ⟨aX.sc,J⟩ ⟨dB.gG jR,J⟩)))
theorem TU (a:au) (k:Int):FT Try.prog (yF a k) 45 [.agg [iC a.aC,lo 0 a.aB.length],.c (iC k)] [(0,pR 96 aG a.aB)] (fun (t:(Int × (List aQ))) => [.c (iC t.1)]) (fun (t:(Int × (List aQ))) => [(0,pR 96 aG t.2)]) []:=by
 refine FT.of [0] Try.func45 Try.ntmps45 Q y2 ?_
 intro w0 U0 R0 g0
 unfold yF
 refine Ws (Wr ?_)
 refine eU 21 (.agg [iC a.aC,lo 0 a.aB.length]) gU y5 (aN (Iv 0) aV (On (Ws (Wr ?_))))
 refine bg (lo 0 a.aB.length) fZ gK bG (aK (Iv k) y4 (ay fun r1 hr1 => (aS.step (iF [.c (lo 0 a.aB.length),.c (iC k)] (Fw.Fn.ren [(0,0)] (KD a.aB k r1 hr1) Q) Fp (mV y2) z1 y3) z3 z1 Q Q (aN (Iv r1.1) y4 (On (Ws ?_))))))
 refine en [(1,Iv r1.1)] [(0,pR 96 aG r1.2)] z1 z1 (Wr (aK (Iv r1.1) y4 (aN (Iv r1.1) y4 (On (bI z1 z1 ⟨aX.sc,J⟩ ⟨dB.gG jR,J⟩)))))
theorem TR (a:(List aQ)) (k:Int):FT Try.prog (yB a k) 47 [.c (xF aG a),.c (iC k)] [] (fun (t:Int) => [.c (iC t)]) (fun (t:Int) => []) []:=by
 refine FT.of [] Try.func47 Try.ntmps47 Q y2 ?_
 intro w0 U0 R0 g0
 unfold yB
 refine Ws (Wr ?_)
 refine aN (Iv 0) aV (On (Ws (Ws (Wr ?_))))
 refine aN (Iv 0) aV (On (aA.block ?_))
 refine aA.kU (id:=0) (uj a) (fun s1 => ([(0,Cc (xF aG a)),(1,Iv s1.1),(5,Iv s1.2)],[])) (fun b12 => ([(1,Iv b12)],[])) (dm Try.prog Try.f47.results.toList [] [] (fun (t:Int) => [.c (iC t)]) (fun (t:Int) => [])) ?_ (aU.of z3 J) Q (fun b12 _ => ?_) kT
 ·intro s1
  unfold uj
  refine Ws (Ws (Wr ?_))
  refine aK (Iv s1.2) y4 (aK (Cc (xF aG a)) y4 (aT (LT.dn Q iQ) Q Q Q (ah LT.lss y5 (On (aA.cond Q (fun hc13 => ?_) (fun hc13 => ?_))))))
  ·refine aA.skip (Ws (aA.block (Ws (Ws (Wr ?_)))))
   refine aK (Cc (xF aG a)) y4 (aK (Iv s1.2) y4 (ay fun x14 nP => (dF (LT.dW (enc:=aG) Q jO nP dQ) Q Q Q Q (aT (LT.jw Q jb) Q Q Q (aT (LT.jk Q bD) Q Q Q (aK (Iv s1.1) y4 (ah LT.neq y5 (On (aA.cond Q (fun nN => ?_) (fun nN => ?_))))))))))
   ·refine Ws (en [] [] J J (Wr (aN (Iv (-1)) aV (On (aA.ret ⟨Q,jc z1 J ⟨aX.sc,J⟩ J⟩)))))
   ·refine aA.skip (Ws ?_)
    refine en [(0,Cc (xF aG a)),(1,Iv s1.1),(5,Iv s1.2)] [] z3 J (Wr (aK (Iv s1.1) y4 (ah LT.add ak (aN (Iv (aJ (s1.1 + 1))) y4 (On (Ws (Ws (Wr ?_))))))))
    refine aK (Cc (xF aG a)) y4 (aK (Iv s1.2) y4 (ay fun x16 hx16 => (dF (LT.dW (enc:=aG) Q jO hx16 dQ) Q Q Q Q (aT (LT.jw Q jm) Q Q Q (aT (LT.jk Q bD) Q Q Q (aK (Iv (aJ (s1.1 + 1))) y4 (ah LT.neq y5 (On (aA.cond Q (fun hc17 => ?_) (fun hc17 => ?_))))))))))
    ·refine Ws (Wr ?_)
     refine aN (Iv (-1)) aV (On (aA.ret ⟨Q,jc z1 J ⟨aX.sc,J⟩ J⟩))
    ·refine aA.skip (Wr ?_)
     refine aK (Iv (aJ (s1.1 + 1))) y4 (ah LT.add ak (aN (Iv (aJ ((aJ (s1.1 + 1)) + 1))) y4 (On (aA.blk ?_))))
     refine en [(0,Cc (xF aG a)),(1,Iv (aJ ((aJ (s1.1 + 1)) + 1))),(5,Iv s1.2)] [] z3 J (Wr (aK (Iv s1.2) y4 (ah LT.add ak (aN (Iv (aJ (s1.2 + 1))) y4 (On (bK Q z3 J))))))
  ·refine ig y2 z1 J
 ·refine Ws (Wr ?_)
  refine aK (Iv b12) y4 (aN (Iv b12) y4 (On (bI z1 J ⟨aX.sc,J⟩ J)))
theorem Td (a:(List aO)) (leftV:Int):FT Try.prog (yJ a leftV) 102 [.c (xF aI a),.c (iC leftV)] [] (fun (t:Int) => [.c (iC t)]) (fun (t:Int) => []) []:=by
 refine FT.of [] Try.func102 Try.ntmps102 Q y2 ?_
 intro w0 U0 R0 g0
 unfold yJ
 refine Ws (Wr ?_)
 refine aN (Iv 0) aV (On (Ws (Wr ?_)))
 refine aK (Iv leftV) y4 (aK (Cc (xF aI a)) y4 (aT (LT.dn Q En) Q Q Q (ah LT.sub y5 (aN (Iv (aJ (leftV - (a.length:Int)))) y4 (On (Ws (Ws (Wr ?_))))))))
 refine aK (Iv (aJ (leftV - (a.length:Int)))) y4 (ah LT.lss ak (On (aA.cond Q (fun hc1 => ?_) (fun hc1 => ?_))))
 ·refine Ws (Wr ?_)
  refine aN (Iv (-1)) aV (On (bI z1 J ⟨aX.sc,J⟩ J))
 ·refine aA.skip (Ws (Wr ?_))
  refine aK (Iv (aJ (leftV - (a.length:Int)))) y4 (aN (Iv (aJ (leftV - (a.length:Int)))) y4 (On (bI z1 J ⟨aX.sc,J⟩ J)))
theorem TY (a:aH) (leftV:Int):FT Try.prog (yH a leftV) 30 [.agg (aj a),.c (iC leftV)] [] (fun (t:Int) => [.c (iC t)]) (fun (t:Int) => []) []:=by
 refine FT.of [] Try.func30 Try.ntmps30 Q y2 ?_
 intro w0 U0 R0 g0
 unfold yH
 refine Ws (Wr ?_)
 refine eU 21 (.agg (aj a)) qj y5 (aN (Iv 0) aV (On (Ws (Wr ?_))))
 refine aT (LT.dO Q Gn) Q Q Q (eY (fB (bM a.Graph) Q FI Ht BH) Q Q Q Q (aK (Iv leftV) y4 (ay fun r1 hr1 => (jC [.agg (bM a.Graph),.c (iC leftV)] (Tc a.Graph leftV r1 hr1) L9 (Jj y3) y5 z3 (aN (Iv r1) y4 (On (Ws (Ws (Wr ?_)))))))))
 refine aK (Iv r1) y4 (ah LT.lss ak (On (aA.cond Q (fun hc2 => ?_) (fun hc2 => ?_))))
 ·refine Ws (en [] [] J J (Wr (aN (Iv (-1)) aV (On (bI z1 J ⟨aX.sc,J⟩ J)))))
 ·refine aA.skip (Ws ?_)
  refine en [(1,Iv r1),(2,Cc (.pl 21 0))] [(21,.row 53 [aj a])] z2 z1 (Wr (bg (xF aI a.Places) Gp FK bG (aK (Iv r1) y4 (ay fun r3 hr3 => (jC [.c (xF aI a.Places),.c (iC r1)] (Td a.Places r1 r3 hr3) LD (mV y2) y5 z3 (aN (Iv r3) y4 (On (Ws (Ws (Wr ?_))))))))))
  refine aK (Iv r3) y4 (ah LT.lss ak (On (aA.cond Q (fun hc4 => ?_) (fun hc4 => ?_))))
  ·refine Ws (Wr ?_)
   refine aN (Iv (-1)) aV (On (bI z1 J ⟨aX.sc,J⟩ J))
  ·refine aA.skip (Ws (Wr ?_))
   refine aK (Iv r3) y4 (aN (Iv r3) y4 (On (bI z1 J ⟨aX.sc,J⟩ J)))
theorem Tm (a:aO):FT Try.prog (Aa a) 169 [.agg [iC a.X,iC a.Y]] [] (fun (t:aO) => [.agg [iC t.X,iC t.Y]]) (fun (t:aO) => []) []:=by
 refine FT.of [] Try.func169 Try.ntmps169 Q y2 ?_
 intro w0 U0 R0 g0
 unfold Aa
 refine Ws (Wr ?_)
 refine eU 21 (.agg [iC a.X,iC a.Y]) Ed y5 (ja 22 [iC 0,iC 0] mY y6 (On (Ws (Wr ?_))))
 refine ja 23 [iC 0,iC 0] mY y6 (On (Ws (Wr ?_)))
 refine bg (iC a.X) NZ bD bG (aT (LT.dO Q lU) Q Q Q (gJ (qi (.c (iC a.X)) [iC a.X,iC 0] Q Q oD lM) Q Q Q Q Q (On (Ws ?_))))
 refine en [(1,Cc (.pl 21 0)),(2,Cc (.pl 22 0)),(3,Cc (.pl 23 0))] [(21,.row 145 [[iC a.X,iC a.Y]]),(22,.row 82 [[iC 0,iC 0]]),(23,.row 82 [[iC a.X,iC 0]])] z3 z3 (Wr (bg (iC a.Y) Na bD bG (aT (LT.dO Q lV) Q Q Q (gJ (qi (.c (iC a.Y)) [iC a.X,iC a.Y] Q Q oD lM) Q Q Q Q Q (On (Ws (Wr ?_)))))))
 refine eY (fB [iC a.X,iC a.Y] Q lG jX eG) Q Q Q Q (gJ (stA [iC a.X,iC a.Y] Q Q jX eG) Q Q Q Q Q (On (bI ⟨⟨_,_,_,Q,Q,Q,lG,eG,_,gB jX⟩,J⟩ J ⟨⟨aX.sc,aX.sc,J⟩,J⟩ J)))
theorem Tn (a:(List aO)):FT Try.prog (yN a) 105 [.c (xF aI a)] [] (fun (t:(List aO)) => [.c (lo 0 t.length)]) (fun (t:(List aO)) => [(0,pR 82 aI t)]) [0]:=by
 refine FT.of [] Try.func105 Try.ntmps105 Q y2 ?_
 intro w0 U0 R0 g0
 unfold yN
 refine Ws (Wr ?_)
 refine aN (Cc (sC fU)) aV (On (Ws (Wr ?_)))
 refine aK (Cc (xF aI a)) y4 (aT (LT.dn Q En) Q Q Q (ay fun u1 hu1 => (E8 (LT.Jv (n:=21) (enc:=aI) (zc:=[iC 0,iC 0]) (aO.mk (0:Int) (0:Int)) Q lN mY Q Q Q (by decide) (by decide) (IA hu1) Q) Q Q Q Q (aN (Cc (lo 21 ((List.replicate (a.length:Int).toNat (aO.mk (0:Int) (0:Int))).length))) y4 (On (Ws (Ws (Wr ?_))))))))
 refine aN (Iv 0) aV (On (aA.block ?_))
 refine aA.mJ (id:=0) (yO a) (fun s2 => ([(0,Cc (xF aI a)),(3,Cc (lo 21 s2.2.length)),(4,Iv s2.1)],[(21,pR 82 aI s2.2)])) (fun b11 => ([(3,Cc (lo 21 b11.length))],[(21,pR 82 aI b11)])) ?_ (aU.of z3 z1) Q (fun b11 _ => ?_)
 ·intro s2
  unfold yO
  refine Ws (Ws (Wr ?_))
  refine aK (Iv s2.1) y4 (aK (Cc (xF aI a)) y4 (aT (LT.dn Q En) Q Q Q (ah LT.lss y5 (On (aA.cond Q (fun hc12 => ?_) (fun hc12 => ?_))))))
  ·refine aA.skip (Ws (aA.block (Wr ?_)))
   refine aK (Cc (lo 21 s2.2.length)) y4 (aK (Iv s2.1) y4 (aK (Cc (xF aI a)) y4 (aK (Iv s2.1) y4 (ay fun jL o9 => (dF (LT.dW (enc:=aI) Q Md o9 Ed) Q Q Q Q (aT (gq Q KY P7 Ed) Q Q Q (ay fun kF DL => (jC [.agg [iC jL.X,iC jL.Y]] (Tm jL kF DL) Lj (qg y2) y5 z2 (ay fun x15 nR => (nH (LT.ql Q Q iw nR) Q Q Q Q Q (gJ (sQ 0 (.agg [iC kF.X,iC kF.Y]) kF Q Q jX eG nR) Q Q Q Q Q ?_)))))))))))
   refine On (aA.blk ?_)
   refine en [(0,Cc (xF aI a)),(3,Cc (lo 21 s2.2.length)),(4,Iv s2.1)] [(21,pR 82 aI (s2.2.set s2.1.toNat kF))] z3 z1 (Wr (aK (Iv s2.1) y4 (ah LT.add ak (aN (Iv (aJ (s2.1 + 1))) y4 (On (aA.nil ⟨Q,aU.of ⟨Q,congrArg (fun l1 => (some (AV.s (.c (lo 21 l1))):Option AV)) (show s2.2.length = (s2.2.set s2.1.toNat kF).length by simp only [List.length_set]),Q,J⟩ z1⟩))))))
  ·refine ig y2 z1 z1
 ·refine Ws (Wr ?_)
  refine aK (Cc (lo 21 b11.length)) y4 (aN (Cc (lo 21 b11.length)) y4 (On (en [(2,Cc (lo 21 b11.length))] [(21,pR 82 aI b11)] z1 z1 (aA.ent (aU.mv 21 0 Q Q) (en [(2,Cc (lo 0 b11.length))] [(0,pR 82 aI b11)] z1 z1 (bI z1 z1 ⟨J,J⟩ ⟨dB.gG jq,J⟩))))))
theorem BL (a:aH):FT Try.prog (qQ a) 32 [.agg (aj a)] [] (fun (t:aH) => [.agg [iC t.Graph.aC,lo 0 t.Graph.aB.length,lo 1 t.Places.length]]) (fun (t:aH) => [(0,pR 96 aG t.Graph.aB),(1,pR 82 aI t.Places)]) [0,1]:=by
 refine FT.of [] Try.func32 Try.ntmps32 Q y2 ?_
 intro w0 U0 R0 g0
 unfold qQ
 refine Ws (Wr ?_)
 refine eU 21 (.agg (aj a)) qj y5 (ja 22 [iC 0,sC fU,sC fU] ku y6 (On (Ws (Wr ?_))))
 refine ja 23 [iC 0,sC fU,sC fU] ku y6 (On (Ws (Wr ?_)))
 refine aT (LT.dO Q Gn) Q Q Q (eY (fB (bM a.Graph) Q FI Ht BH) Q Q Q Q (ay fun r1 hr1 => (aS.step (iF [.agg (bM a.Graph)] (Fw.Fn.ren [(0,25)] (Tj a.Graph r1 hr1) Q) MB (qg y2) J y3) z2 J Q Q (aT (LT.dO Q gm) Q Q Q (gJ (qi (.agg [iC r1.aC,lo 25 r1.aB.length]) [iC r1.aC,lo 25 r1.aB.length,sC fU] Q Q jW gU) Q Q Q Q Q (On (Ws ?_)))))))
 refine en [(1,Cc (.pl 21 0)),(2,Cc (.pl 22 0)),(3,Cc (.pl 23 0))] [(21,.row 53 [aj a]),(22,.row 29 [[iC 0,sC fU,sC fU]]),(23,.row 29 [[iC r1.aC,lo 25 r1.aB.length,sC fU]]),(25,pR 96 aG r1.aB)] z3 z4 (Wr (bg (xF aI a.Places) Gp FK bG (ay fun r2 hr2 => (aS.step (iF [.c (xF aI a.Places)] (Fw.Fn.ren [(0,27)] (Tn a.Places r2 hr2) Q) LJ (Ji Q) J y3) z2 J Q Q (aT (LT.dO Q iG) Q Q Q (gJ (qi (.c (lo 27 r2.length)) [iC r1.aC,lo 25 r1.aB.length,lo 27 r2.length] Q Q QA SB) Q Q Q Q Q (On (Ws (Wr ?_)))))))))
 refine eY (fB [iC r1.aC,lo 25 r1.aB.length,lo 27 r2.length] Q gX fG dI) Q Q Q Q (gJ (stA [iC r1.aC,lo 25 r1.aB.length,lo 27 r2.length] Q Q fG dI) Q Q Q Q Q (On (en [(2,Cc (.pl 22 0))] [(22,.row 29 [[iC r1.aC,lo 25 r1.aB.length,lo 27 r2.length]]),(25,pR 96 aG r1.aB),(27,pR 82 aI r2)] z1 z3 (aA.ent (aU.mv 25 0 Q Q) (aA.ent (aU.mv 27 1 Q Q) (en [(2,Cc (.pl 22 0))] [(0,pR 96 aG r1.aB),(1,pR 82 aI r2),(22,.row 29 [[iC r1.aC,lo 0 r1.aB.length,lo 1 r2.length]])] z1 z3 (bI ⟨⟨_,_,_,Q,Q,Q,gX,dI,_,gB fG⟩,J⟩ z2 ⟨⟨aX.sc,J,J,J⟩,J⟩ ⟨dB.gG jR,dB.gG jq,J⟩)))))))
theorem UD (a:Int) (n:Int):FT Try.prog (rZ a n) 103 [.c (iC a),.c (iC n)] [] (fun (t:Int) => [.c (iC t)]) (fun (t:Int) => []) []:=by
 refine FT.of [] Try.func103 Try.ntmps103 Q y2 ?_
 intro w0 U0 R0 g0
 unfold rZ
 refine Ws (Wr ?_)
 refine aN (Iv 0) aV (On (Ws (Wr ?_)))
 refine aN (Iv 1) aV (On (Ws (Ws (Wr ?_))))
 refine aN (Iv 0) aV (On (aA.block ?_))
 refine aA.mJ (id:=0) (D6 a n) (fun s1 => ([(0,Iv a),(1,Iv n),(5,Iv s1.1),(6,Iv s1.2)],[])) (fun b4 => ([(5,Iv b4)],[])) ?_ (aU.of z4 J) Q (fun b4 _ => ?_)
 ·intro s1
  unfold D6
  refine Ws (Ws (Wr ?_))
  refine aK (Iv s1.2) y4 (aK (Iv n) y4 (ah LT.lss y5 (On (aA.cond Q (fun hc5 => ?_) (fun hc5 => ?_)))))
  ·refine aA.skip (Ws (aA.block (Wr ?_)))
   refine aK (Iv s1.1) y4 (aK (Iv a) y4 (ah LT.mul y5 (aN (Iv (aJ (s1.1 * a))) y4 (On (aA.blk (Wr ?_))))))
   refine aK (Iv s1.2) y4 (ah LT.add ak (aN (Iv (aJ (s1.2 + 1))) y4 (On (bK Q z4 J))))
  ·refine ig y2 z1 J
 ·refine Ws (Wr ?_)
  refine aK (Iv b4) y4 (aN (Iv b4) y4 (On (bI z1 J ⟨aX.sc,J⟩ J)))
theorem UC (f:aH):FT Try.prog (yc f) 104 [.agg (aj f)] [] (fun (t:aH) => [.agg [iC t.Graph.aC,lo 0 t.Graph.aB.length,lo 1 t.Places.length]]) (fun (t:aH) => [(0,pR 96 aG t.Graph.aB),(1,pR 82 aI t.Places)]) [0,1]:=by
 refine FT.of [] Try.func104 Try.ntmps104 Q y2 ?_
 intro w0 U0 R0 g0
 unfold yc
 refine Ws (Wr ?_)
 refine eU 21 (.agg (aj f)) dI y5 (ja 22 [iC 0,sC fU,sC fU] ku y6 (On (Ws (aA.draw mixed ?_))))
 refine bT (LT.dO Q gm) Q Q Q (gV (fB (bM f.Graph) Q kN jW gU) Q Q Q Q (aP.bind fun r1 hr1 => (aP.step (iF [.agg (bM f.Graph)] (Fw.Fn.ren [(0,24)] (UF f.Graph r1 hr1) Q) LQ (qg y2) J y3) z2 J Q Q (tH (ny 25 aI [] [] lN mY y7) Q Q (jT (xF aI f.Places) iG iJ bG (aP.bind fun u2 hu2 => (nD (LT.BI (enc:=aI) Q  Q lN mY Q (by decide) (by decide) (fun _ => Q) (qN hu2)) Q Q Q Q Q (dP (LT.build [(0,.tmp 5,.agg [iC r1.aC,lo 24 r1.aB.length]),(1,.tmp 9,.c (lo 25 ((([]:List aO) ++ f.Places).length)))] Q Q JJ ku Q Q Q) Q Q Q Q (nD (stA [iC r1.aC,lo 24 r1.aB.length,lo 25 ((([]:List aO) ++ f.Places).length)] Q Q fG dI) Q Q Q Q Q (fD ?_))))))))))
 refine en [(2,Cc (.pl 22 0))] [(22,.row 29 [[iC r1.aC,lo 24 r1.aB.length,lo 25 ((([]:List aO) ++ f.Places).length)]]),(24,pR 96 aG r1.aB),(25,pR 82 aI (([]:List aO) ++ f.Places))] z1 z3 (aA.ent (aU.mv 24 0 Q Q) (aA.ent (aU.mv 25 1 Q Q) (en [(2,Cc (.pl 22 0))] [(0,pR 96 aG r1.aB),(1,pR 82 aI (([]:List aO) ++ f.Places)),(22,.row 29 [[iC r1.aC,lo 0 r1.aB.length,lo 1 ((([]:List aO) ++ f.Places).length)]])] z1 z3 (bI ⟨⟨_,_,_,Q,Q,Q,gX,dI,_,gB fG⟩,J⟩ z2 ⟨⟨aX.sc,J,J,J⟩,J⟩ ⟨dB.gG jR,dB.gG jq,J⟩))))
theorem Tz (a:au) (b:au):FT Try.prog (yU a b) 127 [.agg (bM a),.agg (bM b)] [] (fun (t:Bool) => [.c (bC t)]) (fun (t:Bool) => []) []:=by
 refine FT.of [] Try.func127 Try.ntmps127 Q y2 ?_
 intro w0 U0 R0 g0
 unfold yU
 refine Ws (Wr ?_)
 refine eU 21 (.agg (bM a)) gU y5 (eU 22 (.agg (bM b)) gU y5 (aN (Bv false) aV (On (Ws (Ws ?_)))))
 refine aA.iU (fun j2 => ([(2,Cc (.pl 21 0)),(3,Cc (.pl 22 0)),(19,Bv j2)],[(21,.row 26 [bM a]),(22,.row 26 [bM b])])) ?_ (fun j2 _ => ?_)
 ·refine Wr (bg (iC a.aC) jD bD bG (bg (iC b.aC) jD bD bG (ah LT.neq y5 (aK (Bv (a.aC != b.aC)) y4 (aS.split (fun hb3 => ?_) (fun hb3 => ?_))))))
  ·refine bF hb3 y5 (bF hb3 y5 (bF hb3 y5 (bF hb3 y5 (bF hb3 y5 (bF hb3 y5 (bF hb3 y5 (jI (Bv true) hb3 ak (On (bK Q z3 z2)))))))))
  ·refine jV (xF aG a.aB) fZ gK hb3 fF (aT (LT.dn Q iQ) Q (gH hb3 Q Q) Q (jV (xF aG b.aB) fZ gK hb3 fF (aT (LT.dn Q iQ) Q (gH hb3 Q Q) Q (lF LT.neq hb3 y6 (jr (Bv ((a.aB.length:Int) != (b.aB.length:Int))) hb3 y5 (On (bK Q z3 z2)))))))
 ·refine aA.cond Q (fun hc4 => ?_) (fun hc4 => ?_)
  ·refine Ws (Wr ?_)
   refine aN (Bv false) aV (On (bI z1 J ⟨aX.sc,J⟩ J))
  ·refine aA.skip (Ws (Ws (Wr ?_)))
   refine aN (Iv 0) aV (On (aA.block ?_))
   refine aA.kU (id:=0) (yV a b) (fun s5 => ([(2,Cc (.pl 21 0)),(3,Cc (.pl 22 0)),(5,Iv s5)],[(21,.row 26 [bM a]),(22,.row 26 [bM b])])) (fun b14 => ([],[])) (dm Try.prog Try.f127.results.toList [] [] (fun (t:Bool) => [.c (bC t)]) (fun (t:Bool) => [])) ?_ (aU.of z3 z2) Q (fun b14 _ => ?_) kT
   ·intro s5
    unfold yV
    refine Ws (Ws (Wr ?_))
    refine aK (Iv s5) y4 (bg (xF aG a.aB) fZ gK bG (aT (LT.dn Q iQ) Q Q Q (ah LT.lss y5 (On (aA.cond Q (fun nN => ?_) (fun nN => ?_))))))
    ·refine aA.skip (Ws (aA.block (Ws (aA.draw mixed ?_))))
     refine jT (xF aG a.aB) fZ gK bG (dA (Iv s5) y4 (aP.bind fun x16 hx16 => (dP (LT.dW (enc:=aG) Q jO hx16 dQ) Q Q Q Q (bT (gq Q jS iH dQ) Q Q Q (jT (xF aG b.aB) fZ gK bG (dA (Iv s5) y4 (aP.bind fun x17 Pg => (dP (LT.dW (enc:=aG) Q jO Pg dQ) Q Q Q Q (bT (gq Q jS iH dQ) Q Q Q ?_)))))))))
     refine dP (LT.Ie [x16.A,x16.B] [x17.A,x17.B] Q AO Q Q) Q Q Q Q (fD (aA.cond Q (fun hc18 => ?_) (fun hc18 => ?_)))
     ·refine Ws (en [] [] J J (Wr (aN (Bv false) aV (On (aA.ret ⟨Q,jc z1 J ⟨aX.sc,J⟩ J⟩)))))
     ·refine aA.skip (aA.blk ?_)
      refine en [(2,Cc (.pl 21 0)),(3,Cc (.pl 22 0)),(5,Iv s5)] [(21,.row 26 [bM a]),(22,.row 26 [bM b])] z3 z2 (Wr (aK (Iv s5) y4 (ah LT.add ak (aN (Iv (aJ (s5 + 1))) y4 (On (bK Q z3 z2))))))
    ·refine ig y2 J J
   ·refine Ws (Wr ?_)
    refine aN (Bv true) aV (On (bI z1 J ⟨aX.sc,J⟩ J))
theorem KF (f:aH):FT Try.prog (vM f) 56 [.agg (aj f)] [] (fun (t:(List Int)) => [.c (lo 0 t.length)]) (fun (t:(List Int)) => [(0,pR 3 dN t)]) [0]:=by
 refine FT.of [] Try.func56 Try.ntmps56 Q y2 ?_
 intro w0 U0 R0 g0
 unfold vM
 refine Ws (Wr ?_)
 refine eU 21 (.agg (aj f)) dI y5 (aN (Cc (sC fU)) aV (On (Ws (Wr ?_))))
 refine oP (ny 22 dN [] [] mg vg y7) Q Q (aN (Cc (lo 22 (([]:List Int).length))) y4 (On (Ws (Ws (Wr ?_)))))
 refine aN (Iv 0) aV (On (aA.block ?_))
 refine aA.mJ (id:=0) (qV f) (fun s1 => ([(1,Cc (.pl 21 0)),(3,Cc (lo 22 s1.2.length)),(4,Iv s1.1)],[(21,.row 29 [aj f]),(22,pR 3 dN s1.2)])) (fun nJ => ([(3,Cc (lo 22 nJ.length))],[(22,pR 3 dN nJ)])) ?_ (aU.of z3 z2) Q (fun nJ _ => ?_)
 ·intro s1
  unfold qV
  refine Ws (Ws ?_)
  refine aA.iU (fun j27 => ([(1,Cc (.pl 21 0)),(3,Cc (lo 22 s1.2.length)),(4,Iv s1.1),(17,Bv j27)],[(21,.row 29 [aj f]),(22,pR 3 dN s1.2)])) ?_ (fun j27 _ => ?_)
  ·refine Wr (aK (Iv s1.1) y4 (aT (LT.dO Q gm) Q Q Q (bg (xF aG f.Graph.aB) fZ gK bG (aT (LT.dn Q iQ) Q Q Q (ah LT.lss y5 (aK (Bv (decide (s1.1 < (f.Graph.aB.length:Int)))) y4 (aS.split (fun rP => ?_) (fun rP => ?_))))))))
   ·refine eY (fB (aj f) Q gX fG dI) Q Q (gH rP Q Q) Q (ay fun dZ DR => (aS.pure (iF [.agg (aj f)] (BM f dZ DR) zQ (mW y3) J y3) z2 J (gH rP Q Q) Q (jI (Bv dZ) rP y5 (On (bK Q z4 z2)))))
   ·refine bF rP y5 (bF rP y5 (jr (Bv false) rP ak (On (bK Q z4 z2))))
  ·refine aA.cond Q (fun Cb => ?_) (fun Cb => ?_)
   ·refine aA.skip (Ws (aA.block (Ws (aA.draw mixed ?_))))
    refine jT (xF aI f.Places) iG iJ bG (bT (LT.dO Q gm) Q Q Q (jT (xF aG f.Graph.aB) fZ gK bG (dA (Iv s1.1) y4 (aP.bind fun x31 hx31 => (dP (LT.dW (enc:=aG) Q jO hx31 dQ) Q Q Q Q (bT (LT.jw Q jb) Q Q Q (bT (LT.jk Q bD) Q Q Q (aP.bind fun x32 hx32 => (dP (LT.dW (enc:=aI) Q iw hx32 eG) Q Q Q Q ?_)))))))))
    refine bT (gq Q lG jX eG) Q Q Q (tH (LT.alloc (n:=24) (cells:=[iC 0,iC 0]) Q mY Q Q Q) Q Q (nD (stA [iC x32.X,iC x32.Y] Q Q jX eG) Q Q Q Q Q (fD (Ws (en [(1,Cc (.pl 21 0)),(3,Cc (lo 22 s1.2.length)),(4,Iv s1.1),(5,Cc (.pl 24 0))] [(21,.row 29 [aj f]),(22,pR 3 dN s1.2),(24,.row 82 [[iC x32.X,iC x32.Y]])] z4 z3 (aA.draw mixed (jT (xF aI f.Places) iG iJ bG (bT (LT.dO Q gm) Q Q Q (jT (xF aG f.Graph.aB) fZ gK bG ?_)))))))))
    refine dA (Iv s1.1) y4 (aP.bind fun KO Ph => (dP (LT.dW (enc:=aG) Q jO Ph dQ) Q Q Q Q (bT (LT.jw Q jm) Q Q Q (bT (LT.jk Q bD) Q Q Q (aP.bind fun x34 hx34 => (dP (LT.dW (enc:=aI) Q iw hx34 eG) Q Q Q Q (bT (gq Q lG jX eG) Q Q Q (tH (LT.alloc (n:=25) (cells:=[iC 0,iC 0]) Q mY Q Q Q) Q Q (nD (stA [iC x34.X,iC x34.Y] Q Q jX eG) Q Q Q Q Q (fD (en [(1,Cc (.pl 21 0)),(3,Cc (lo 22 s1.2.length)),(4,Iv s1.1),(5,Cc (.pl 24 0)),(6,Cc (.pl 25 0))] [(21,.row 29 [aj f]),(22,pR 3 dN s1.2),(24,.row 82 [[iC x32.X,iC x32.Y]]),(25,.row 82 [[iC x34.X,iC x34.Y]])] z5 z4 ?_)))))))))))
    refine Wr (aK (Cc (lo 22 s1.2.length)) y4 (bg (iC x32.X) lU bD bG (bg (iC x34.X) lU bD bG (ah LT.sub y5 (bg (iC x32.X) lU bD bG (bg (iC x34.X) lU bD bG (ah LT.sub y5 ?_)))))))
    refine ah LT.mul y5 (bg (iC x32.Y) lV bD bG (bg (iC x34.Y) lV bD bG (ah LT.sub y5 (bg (iC x32.Y) lV bD bG (bg (iC x34.Y) lV bD bG (ah LT.sub y5 (ah LT.mul y5 ?_)))))))
    refine ah LT.add y5 (qw (ny 26 dN [(0,.tmp 65,.c (iC (aJ ((aJ ((aJ (x32.X - x34.X)) * (aJ (x32.X - x34.X)))) + (aJ ((aJ (x32.Y - x34.Y)) * (aJ (x32.Y - x34.Y))))))))] ([aJ ((aJ ((aJ (x32.X - x34.X)) * (aJ (x32.X - x34.X)))) + (aJ ((aJ (x32.Y - x34.Y)) * (aJ (x32.Y - x34.Y)))))]:List Int) mg vg y7) Q Q Q (ay fun u35 PN => (BR (LT.Eg (enc:=dN) Q Q Q mg vg Q (by decide) (by decide) (fun _ => Q) (qN PN)) Q Q Q Q Q Q (aN (Cc (lo 22 ((s1.2 ++ ([aJ ((aJ ((aJ (x32.X - x34.X)) * (aJ (x32.X - x34.X)))) + (aJ ((aJ (x32.Y - x34.Y)) * (aJ (x32.Y - x34.Y)))))]:List Int)).length))) y4 (On (aA.blk ?_))))))
    refine en [(1,Cc (.pl 21 0)),(3,Cc (lo 22 ((s1.2 ++ ([aJ ((aJ ((aJ (x32.X - x34.X)) * (aJ (x32.X - x34.X)))) + (aJ ((aJ (x32.Y - x34.Y)) * (aJ (x32.Y - x34.Y)))))]:List Int)).length))),(4,Iv s1.1)] [(21,.row 29 [aj f]),(22,pR 3 dN (s1.2 ++ ([aJ ((aJ ((aJ (x32.X - x34.X)) * (aJ (x32.X - x34.X)))) + (aJ ((aJ (x32.Y - x34.Y)) * (aJ (x32.Y - x34.Y)))))]:List Int)))] z3 z2 (Wr (aK (Iv s1.1) y4 (ah LT.add ak (aN (Iv (aJ (s1.1 + 1))) y4 (On (bK Q z3 z2))))))
   ·refine ig y2 z1 z1
 ·refine Ws (Wr ?_)
  refine aK (Cc (lo 22 nJ.length)) y4 (aN (Cc (lo 22 nJ.length)) y4 (On (en [(2,Cc (lo 22 nJ.length))] [(22,pR 3 dN nJ)] z1 z1 (aA.ent (aU.mv 22 0 Q Q) (en [(2,Cc (lo 0 nJ.length))] [(0,pR 3 dN nJ)] z1 z1 (bI z1 z1 ⟨J,J⟩ ⟨dB.gG EM,J⟩))))))
theorem UG (a:(List Int)) (b:(List Int)):FT Try.prog (yg a b) 155 [.c (xF dN a),.c (xF dN b)] [] (fun (t:Bool) => [.c (bC t)]) (fun (t:Bool) => []) []:=by
 refine FT.of [] Try.func155 Try.ntmps155 Q y2 ?_
 intro w0 U0 R0 g0
 unfold yg
 refine Ws (Wr ?_)
 refine aN (Bv false) aV (On (Ws (Ws (Wr ?_))))
 refine aK (Cc (xF dN a)) y4 (aT (LT.dn Q mg) Q Q Q (aK (Cc (xF dN b)) y4 (aT (LT.dn Q mg) Q Q Q (ah LT.neq y5 (On (aA.cond Q (fun hc1 => ?_) (fun hc1 => ?_)))))))
 ·refine Ws (Wr ?_)
  refine aN (Bv false) aV (On (bI z1 J ⟨aX.sc,J⟩ J))
 ·refine aA.skip (Ws (Ws (Wr ?_)))
  refine aN (Iv 0) aV (On (aA.block ?_))
  refine aA.kU (id:=0) (yh a b) (fun s2 => ([(0,Cc (xF dN a)),(1,Cc (xF dN b)),(5,Iv s2)],[])) (fun b11 => ([],[])) (dm Try.prog Try.f155.results.toList [] [] (fun (t:Bool) => [.c (bC t)]) (fun (t:Bool) => [])) ?_ (aU.of z3 J) Q (fun b11 _ => ?_) kT
  ·intro s2
   unfold yh
   refine Ws (Ws (Wr ?_))
   refine aK (Iv s2) y4 (aK (Cc (xF dN a)) y4 (aT (LT.dn Q mg) Q Q Q (ah LT.lss y5 (On (aA.cond Q (fun hc12 => ?_) (fun hc12 => ?_))))))
   ·refine aA.skip (Ws (aA.block (Ws (aA.draw mixed ?_))))
    refine dA (Cc (xF dN a)) y4 (dA (Iv s2) y4 (aP.bind fun jL o9 => (dP (LT.dW (enc:=dN) Q zZ o9 lM) Q Q Q Q (bT (LT.jk Q bD) Q Q Q (dA (Cc (xF dN b)) y4 (dA (Iv s2) y4 (aP.bind fun x14 nP => (dP (LT.dW (enc:=dN) Q zZ nP lM) Q Q Q Q (bT (LT.jk Q bD) Q Q Q (qo LT.neq y5 (fD ?_)))))))))))
    refine aA.cond Q (fun nN => ?_) (fun nN => ?_)
    ·refine Ws (en [] [] J J (Wr (aN (Bv false) aV (On (aA.ret ⟨Q,jc z1 J ⟨aX.sc,J⟩ J⟩)))))
    ·refine aA.skip (aA.blk ?_)
     refine en [(0,Cc (xF dN a)),(1,Cc (xF dN b)),(5,Iv s2)] [] z3 J (Wr (aK (Iv s2) y4 (ah LT.add ak (aN (Iv (aJ (s2 + 1))) y4 (On (bK Q z3 J))))))
   ·refine ig y2 J J
  ·refine Ws (Wr ?_)
   refine aN (Bv true) aV (On (bI z1 J ⟨aX.sc,J⟩ J))
theorem Tv (a:aH) (b:aH):FT Try.prog (yT a b) 74 [.agg (aj a),.agg (aj b)] [] (fun (t:Bool) => [.c (bC t)]) (fun (t:Bool) => []) []:=by
 refine FT.of [] Try.func74 Try.ntmps74 Q y2 ?_
 intro w0 U0 R0 g0
 unfold yT
 refine Ws (Wr ?_)
 refine eU 21 (.agg (aj a)) dI y5 (eU 22 (.agg (aj b)) dI y5 (aN (Bv false) aV (On (Ws ?_))))
 refine aA.iU (fun j10 => ([(4,Bv j10)],[])) ?_ (fun j10 _ => ?_)
 ·refine aA.draw mixed (gV (fB (aj a) Q gX fG dI) Q Q Q Q (aP.bind fun r11 DK => (aP.pure (iF [.agg (aj a)] (BM a r11 DK) zQ (mW y3) J y3) z2 J Q Q (dA (Bv r11) y4 (aP.split (fun kW => ?_) (fun kW => ?_))))))
  ·refine gV (fB (aj b) Q gX fG dI) Q Q (gH kW Q Q) Q (aP.bind fun r13 xE => (aP.pure (iF [.agg (aj b)] (BM b r13 xE) zQ (mW y3) J y3) z2 J (gH kW Q Q) Q (jY (Bv r13) kW y5 (dA (Bv r13) y4 (aP.split (fun iK => ?_) (fun iK => ?_))))))
   ·refine bT (LT.dO Q gm) Q (gH iK Q Q) Q (gV (fB (bM a.Graph) Q kN jW gU) Q Q (gH iK Q Q) Q (bT (LT.dO Q gm) Q (gH iK Q Q) Q (gV (fB (bM b.Graph) Q kN jW gU) Q Q (gH iK Q Q) Q (aP.bind fun fO rU => (aP.pure (iF [.agg (bM a.Graph),.agg (bM b.Graph)] (Tz a.Graph b.Graph fO rU) LX (sN y4) J y3) z3 J (gH iK Q Q) Q (jY (Bv fO) iK y5 (dA (Bv fO) y4 (aP.split (fun hb16 => ?_) (fun hb16 => ?_)))))))))
    ·refine gV (fB (aj a) Q gX fG dI) Q Q (gH hb16 Q Q) Q (aP.bind fun eu nO => (aP.step (iF [.agg (aj a)] (Fw.Fn.ren [(0,27)] (KF a eu nO) Q) Fv (mW y3) J y3) z2 J (gH hb16 Q Q) Q (gV (fB (aj b) Q gX fG dI) Q Q (gH hb16 Q Q) Q (aP.bind fun kG xG => (aP.step (iF [.agg (aj b)] (Fw.Fn.ren [(0,29)] (KF b kG xG) Q) Fv (mW y3) J y3) z2 J (gH hb16 Q Q) Q (aP.bind fun nU DN => (aP.pure (cF [.c (lo 27 eu.length),.c (lo 29 kG.length)] [(27,pR 3 dN eu),(29,pR 3 dN kG)] (UG eu kG nU DN) Le (.cons (.c (.iZ Q Q)) (.cons (.c (.iZ Q Q)) .nil)) J y3) z3 z2 (gH hb16 Q Q) Q (jY (Bv nU) hb16 y5 (bT (LT.assign (v:=(Bv nU)) Q) Q Q Q (fD (bK Q z1 J)))))))))))
    ·refine ai hb16 y3 (ai hb16 y3 (ai hb16 y3 (ai hb16 y3 (ai hb16 y3 (iW (Bv false) hb16 ak (bT (LT.assign (v:=(Bv false)) Q) Q Q Q (fD (bK Q z1 J))))))))
   ·refine ai iK y3 (ai iK y3 (ai iK y3 (ai iK y3 (ai iK y3 (iW (Bv false) iK ak (dA (Bv false) y4 (aY y3 (aY y3 (aY y3 (aY y3 (aY y3 ?_)))))))))))
    refine iW (Bv false) Q ak (bT (LT.assign (v:=(Bv false)) Q) Q Q Q (fD (bK Q z1 J)))
  ·refine ai kW y3 (ai kW y3 (iW (Bv false) kW ak (dA (Bv false) y4 (aY y3 (aY y3 (aY y3 (aY y3 (aY y3 (iW (Bv false) Q ak (dA (Bv false) y4 (aY y3 ?_)))))))))))
   refine aY y3 (aY y3 (aY y3 (aY y3 (iW (Bv false) Q ak (bT (LT.assign (v:=(Bv false)) Q) Q Q Q (fD (bK Q z1 J)))))))
 ·refine bI z1 J ⟨aX.sc,J⟩ J
theorem UB (f:aH):FT Try.prog (yZ f) 31 [.agg (aj f)] [] (fun (t:((List aH) × Bool)) => [.c (lo 0 t.1.length),.c (bC t.2)]) (fun (t:((List aH) × Bool)) => [(0,pR 29 (bW true) t.1)]) [0]:=by
 refine FT.EJ [] Try.func31 Try.ntmps31 Q y2 ?_
 intro w0 U0 R0 g0 hU
 unfold yZ
 refine Ws (Wr ?_)
 refine eU 21 (.agg (aj f)) dI y5 (aN (Cc (sC fU)) aV (aN (Bv false) aV (On (Ws (Wr ?_)))))
 refine oP (ny 22 (bW true) [] [] mr ku y7) Q Q (aN (Cc (lo 22 (([]:List aH).length))) y4 (On (Ws (Ws ?_))))
 refine aA.iU (fun j3 => ([(1,Cc (.pl 21 0)),(4,Cc (lo 22 (([]:List aH).length))),(19,Bv j3)],[(21,.row 29 [aj f]),(22,pR 29 (bW true) ([]:List aH))])) ?_ (fun j3 _ => ?_)
 ·refine Wr (eY (fB (aj f) Q gX fG dI) Q Q Q Q (ay fun r4 hr4 => (jC [.agg (aj f)] (BM f r4 hr4) zQ (mW y3) y5 z2 (aT (LT.not Q) Q Q Q (aK (Bv (!r4)) y4 (aS.split (fun hb5 => ?_) (fun hb5 => ?_)))))))
  ·refine bF hb5 y5 (bF hb5 y5 (bF hb5 y5 (bF hb5 y5 (jI (Bv true) hb5 ak (On (bK Q z3 z2))))))
  ·refine aT (LT.dO Q gm) Q (gH hb5 Q Q) Q (jV (iC f.Graph.aC) jD bD hb5 fF (lF LT.gtr hb5 kz (jr (Bv (decide (4 < f.Graph.aC))) hb5 y5 (On (bK Q z3 z2)))))
 ·refine aA.cond Q (fun hc6 => ?_) (fun hc6 => ?_)
  ·refine Ws (Wr ?_)
   refine aK (Cc (lo 22 (([]:List aH).length))) y4 (aN (Cc (lo 22 (([]:List aH).length))) y4 (aN (Bv false) aV (On (en [(2,Cc (lo 22 (([]:List aH).length))),(3,Bv false)] [(22,pR 29 (bW true) ([]:List aH))] z2 z1 (aA.ent (aU.mv 22 0 Q Q) (en [(2,Cc (lo 0 (([]:List aH).length))),(3,Bv false)] [(0,pR 29 (bW true) ([]:List aH))] z2 z1 (bI z2 z1 ⟨J,aX.sc,J⟩ ⟨dB.gG JF,J⟩)))))))
  ·refine aA.skip (Ws (Wr ?_))
   refine aT (LT.dO Q gm) Q Q Q (bg (iC f.Graph.aC) jD bD bG (aN (Iv f.Graph.aC) y4 (On (Ws (Ws (Wr ?_))))))
   refine aN (Iv 0) aV (On (aA.block ?_))
   refine aA.mJ (id:=0) (vK f) (fun s7 => ([(1,Cc (.pl 21 0)),(4,Cc (lo 22 s7.2.length)),(5,Iv f.Graph.aC),(6,Iv s7.1)],[(21,.row 29 [aj f]),(22,pR 29 (bW true) s7.2)])) (fun fA => ([(4,Cc (lo 22 fA.length))],[(22,pR 29 (bW true) fA)])) ?_ (aU.of z4 z2) Q (fun fA _ => ?_)
   ·intro s7
    unfold vK
    refine Ws (Ws (Wr ?_))
    refine aK (Iv s7.1) y4 (aK (Iv f.Graph.aC) y4 (ah LT.sub ak (ah LT.max Sm (ay fun qc DT => (jC [.c (iC 25),.c (iC (if 0 < (aJ (f.Graph.aC - 2)) then (aJ (f.Graph.aC - 2)) else 0))] (UD 25 (if 0 < (aJ (f.Graph.aC - 2)) then (aJ (f.Graph.aC - 2)) else 0) qc DT) LG (mV y2) y5 ⟨Q,y2,Q,J⟩ (ah LT.lss y5 (On (aA.cond Q (fun OI => ?_) (fun OI => ?_)))))))))
    ·refine aA.skip (Ws (aA.block (Ws (Wr ?_))))
     refine eY (fB (aj f) Q gX fG dI) Q Q Q Q (ay fun dh DU => (aS.step (iF [.agg (aj f)] (Fw.Fn.ren [(0,26),(1,27)] (UC f dh DU) Q) LH (mW y3) J y3) z2 J Q Q (ja 28 [iC 0,sC fU,sC fU] ku y6 (gJ (stA [iC dh.Graph.aC,lo 26 dh.Graph.aB.length,lo 27 dh.Places.length] Q Q fG dI) Q Q Q Q Q (On (Ws ?_))))))
     refine en [(1,Cc (.pl 21 0)),(4,Cc (lo 22 s7.2.length)),(5,Iv f.Graph.aC),(6,Iv s7.1),(7,Cc (.pl 28 0))] [(21,.row 29 [aj f]),(22,pR 29 (bW true) s7.2),(26,pR 96 aG dh.Graph.aB),(27,pR 82 aI dh.Places),(28,.row 29 [[iC dh.Graph.aC,lo 26 dh.Graph.aB.length,lo 27 dh.Places.length]])] z5 z5 (Wr (aK (Iv s7.1) y4 (aN (Iv s7.1) y4 (On (Ws (Ws (Wr ?_)))))))
     refine aK (Iv f.Graph.aC) y4 (ah LT.sub ak (aN (Iv (aJ (f.Graph.aC - 1))) y4 (On (aA.block ?_))))
     refine aA.mJ (id:=2) (qU s7 dh) (fun eF => ([(1,Cc (.pl 21 0)),(4,Cc (lo 22 s7.2.length)),(5,Iv f.Graph.aC),(6,Iv s7.1),(7,Cc (.pl 28 0)),(8,Iv eF.1),(9,Iv eF.2.1)],[(21,.row 29 [aj f]),(22,pR 29 (bW true) s7.2),(26,pR 96 aG dh.Graph.aB),(27,pR 82 aI eF.2.2),(28,.row 29 [[iC dh.Graph.aC,lo 26 dh.Graph.aB.length,lo 27 eF.2.2.length]])])) (fun bH => ([(1,Cc (.pl 21 0)),(4,Cc (lo 22 bH.2.1.length)),(5,Iv f.Graph.aC),(6,Iv bH.1),(7,Cc (.pl 28 0))],[(21,.row 29 [aj f]),(22,pR 29 (bW true) bH.2.1),(26,pR 96 aG bH.2.2.1),(27,pR 82 aI bH.2.2.2.1),(28,.row 29 [[iC bH.2.2.2.2,lo 26 bH.2.2.1.length,lo 27 bH.2.2.2.1.length]])])) ?_ (aU.of z7 z5) Q (fun bH _ => ?_)
     ·intro eF
      unfold qU
      refine Ws (Ws (Wr ?_))
      refine aK (Iv eF.2.1) y4 (ah LT.geq ak (On (aA.cond Q (fun OO => ?_) (fun OO => ?_))))
      ·refine aA.skip (Ws (aA.block (Ws (Wr ?_))))
       refine bg (lo 27 eF.2.2.length) iG iJ bG (aK (Iv eF.2.1) y4 (aK (Iv eF.1) y4 (dF (LT.rem Q (by decide)) Q y2 Q Q (aK (Iv eF.1) y4 (dF (LT.quo Q (by decide)) Q y2 Q Q (dF (LT.rem Q (by decide)) Q y2 Q Q (dF (LT.build [(0,.tmp 45,.c (iC (Int.tmod eF.1 5))),(1,.tmp 48,.c (iC (Int.tmod (aJ (Int.tdiv eF.1 5)) 5)))] Q Q JK mY Q Q Q) Q Q Q Q (ay fun wB AA => (nH (LT.ql Q Q iw AA) Q Q Q Q Q (gJ (sQ 0 (.agg [iC (Int.tmod eF.1 5),iC (Int.tmod (aJ (Int.tdiv eF.1 5)) 5)]) (aO.mk (Int.tmod eF.1 5) (Int.tmod (aJ (Int.tdiv eF.1 5)) 5)) Q Q jX eG AA) Q Q Q Q Q ?_))))))))))
       refine On (en [(1,Cc (.pl 21 0)),(4,Cc (lo 22 s7.2.length)),(5,Iv f.Graph.aC),(6,Iv s7.1),(7,Cc (.pl 28 0)),(8,Iv eF.1),(9,Iv eF.2.1)] [(21,.row 29 [aj f]),(22,pR 29 (bW true) s7.2),(26,pR 96 aG dh.Graph.aB),(27,pR 82 aI (eF.2.2.set eF.2.1.toNat (aO.mk (Int.tmod eF.1 5) (Int.tmod (aJ (Int.tdiv eF.1 5)) 5)))),(28,.row 29 [[iC dh.Graph.aC,lo 26 dh.Graph.aB.length,lo 27 eF.2.2.length]])] z7 z5 (Wr (aK (Iv eF.1) y4 (dF (LT.quo Q (by decide)) Q y2 Q Q (aN (Iv (aJ (Int.tdiv eF.1 25))) y4 (On (aA.blk (Wr ?_))))))))
       refine aK (Iv eF.2.1) y4 (ah LT.sub ak (aN (Iv (aJ (eF.2.1 - 1))) y4 (On (aA.nil ⟨Q,aU.of z7 ⟨Q,Q,Q,Q,congrArg (fun l1 => (some (Ob.row 29 [[iC dh.Graph.aC,lo 26 dh.Graph.aB.length,lo 27 l1]]):Option Ob)) (show eF.2.2.length = (eF.2.2.set eF.2.1.toNat (aO.mk (Int.tmod eF.1 5) (Int.tmod (aJ (Int.tdiv eF.1 5)) 5))).length by simp only [List.length_set]),J⟩⟩))))
      ·refine ig y2 z5 z5
     ·refine Ws (Wr ?_)
      refine eY (fB (aj f) Q gX fG dI) Q Q Q Q (eY (fB [iC bH.2.2.2.2,lo 26 bH.2.2.1.length,lo 27 bH.2.2.2.1.length] Q gX fG dI) Q Q Q Q (ay fun oL DV => (aS.pure (cF [.agg (aj f),.agg [iC bH.2.2.2.2,lo 26 bH.2.2.1.length,lo 27 bH.2.2.2.1.length]] [(26,pR 96 aG bH.2.2.1),(27,pR 82 aI bH.2.2.2.1)] (Tv f (aH.mk (au.mk bH.2.2.2.2 bH.2.2.1) bH.2.2.2.1) oL DV) MJ (.cons (.agg (.cons (.same Q) (.cons (.same Q) (.cons (.same Q) .nil)))) (.cons (.agg (.cons (.same Q) (.cons (.iZ Q Q) (.cons (.iZ Q Q) .nil)))) .nil)) J y3) z3 z2 Q Q (On (aA.iU (fun j53 => ([(1,Cc (.pl 21 0)),(4,Cc (lo 22 j53.length)),(5,Iv f.Graph.aC),(6,Iv bH.1)],[(21,.row 29 [aj f]),(22,pR 29 (bW true) j53)])) ?_ (fun j53 _ => ?_))))))
      ·refine aA.cond Q (fun OT => ?_) (fun OT => ?_)
       ·refine Wr (aK (Cc (lo 22 bH.2.1.length)) y4 (eY (fB [iC bH.2.2.2.2,lo 26 bH.2.2.1.length,lo 27 bH.2.2.2.1.length] Q gX fG dI) Q Q Q Q (aS.ent (aU.Gs (enc:=aG) (xs:=bH.2.2.1) (σ':=[(1,Cc (.pl 21 0)),(4,Cc (lo 22 bH.2.1.length)),(5,Iv f.Graph.aC),(6,Iv bH.1),(7,Cc (.pl 28 0)),(53,Ag  (aj f)),(54,Ag  [iC bH.2.2.2.2,xT aG bH.2.2.1,lo 27 bH.2.2.2.1.length]),(55,Bv oL),(56,Cc (lo 22 bH.2.1.length)),(57,Ag  [iC bH.2.2.2.2,xT aG bH.2.2.1,lo 27 bH.2.2.2.1.length])]) (m':=[(21,.row 29 [aj f]),(22,pR 29 (bW true) bH.2.1),(27,pR 82 aI bH.2.2.2.1),(28,.row 29 [[iC bH.2.2.2.2,xT aG bH.2.2.1,lo 27 bH.2.2.2.1.length]])]) 26 hU Q Q ⟨⟨_,Q,.same Q⟩,⟨_,Q,.same Q⟩,⟨_,Q,.same Q⟩,⟨_,Q,.same Q⟩,⟨_,Q,.same Q⟩,⟨_,Q,.same Q⟩,⟨_,Q,.agg (.cons (.same Q) (.cons (.fr (by rw [List.length_map])) (.cons (.same Q) .nil)))⟩,⟨_,Q,.same Q⟩,⟨_,Q,.same Q⟩,⟨_,Q,.agg (.cons (.same Q) (.cons (.fr (by rw [List.length_map])) (.cons (.same Q) .nil)))⟩,J⟩ ⟨⟨Q,_,Q,.same Q⟩,⟨Q,_,Q,.same Q⟩,⟨Q,_,Q,.same Q⟩,⟨Q,_,Q,.row (.cons (.same Q) (.cons (.fr (by rw [List.length_map])) (.cons (.same Q) .nil)))⟩,J⟩) (aS.ent (aU.Gs (enc:=aI) (xs:=bH.2.2.2.1) (σ':=[(1,Cc (.pl 21 0)),(4,Cc (lo 22 bH.2.1.length)),(5,Iv f.Graph.aC),(6,Iv bH.1),(7,Cc (.pl 28 0)),(53,Ag  (aj f)),(54,Ag  [iC bH.2.2.2.2,xT aG bH.2.2.1,xT aI bH.2.2.2.1]),(55,Bv oL),(56,Cc (lo 22 bH.2.1.length)),(57,Ag  [iC bH.2.2.2.2,xT aG bH.2.2.1,xT aI bH.2.2.2.1])]) (m':=[(21,.row 29 [aj f]),(22,pR 29 (bW true) bH.2.1),(28,.row 29 [[iC bH.2.2.2.2,xT aG bH.2.2.1,xT aI bH.2.2.2.1]])]) 27 hU Q Q ⟨⟨_,Q,.same Q⟩,⟨_,Q,.same Q⟩,⟨_,Q,.same Q⟩,⟨_,Q,.same Q⟩,⟨_,Q,.same Q⟩,⟨_,Q,.same Q⟩,⟨_,Q,.agg (.cons (.same Q) (.cons (.same Q) (.cons (.fr (by rw [List.length_map])) .nil)))⟩,⟨_,Q,.same Q⟩,⟨_,Q,.same Q⟩,⟨_,Q,.agg (.cons (.same Q) (.cons (.same Q) (.cons (.fr (by rw [List.length_map])) .nil)))⟩,J⟩ ⟨⟨Q,_,Q,.same Q⟩,⟨Q,_,Q,.same Q⟩,⟨Q,_,Q,.row (.cons (.same Q) (.cons (.same Q) (.cons (.fr (by rw [List.length_map])) .nil)))⟩,J⟩) (qw (ny 30 (bW true) [(0,.tmp 57,.agg [iC bH.2.2.2.2,xT aG bH.2.2.1,xT aI bH.2.2.2.1])] [aH.mk (au.mk bH.2.2.2.2 bH.2.2.1) bH.2.2.2.1] mr ku y7) Q Q Q (ay fun u55 PU => (BR (LT.Eg (enc:=(bW true)) Q Q Q mr ku Q (by decide) (by decide) (fun _ => Q) (qN PU)) Q Q Q Q Q Q (aN (Cc (lo 22 ((bH.2.1 ++ [aH.mk (au.mk bH.2.2.2.2 bH.2.2.1) bH.2.2.2.1]).length))) y4 (On (bK Q z4 z2))))))))))
       ·refine aA.skip (bK Q z4 z2)
      ·refine aA.blk (Wr ?_)
       refine aK (Iv bH.1) y4 (ah LT.add ak (aN (Iv (aJ (bH.1 + 1))) y4 (On (bK Q z4 z2))))
    ·refine ig y2 z1 z1
   ·refine Ws (Wr ?_)
    refine aK (Cc (lo 22 fA.length)) y4 (aN (Cc (lo 22 fA.length)) y4 (aN (Bv true) aV (On (en [(2,Cc (lo 22 fA.length)),(3,Bv true)] [(22,pR 29 (bW true) fA)] z2 z1 (aA.ent (aU.mv 22 0 Q Q) (en [(2,Cc (lo 0 fA.length)),(3,Bv true)] [(0,pR 29 (bW true) fA)] z2 z1 (bI z2 z1 ⟨J,aX.sc,J⟩ ⟨dB.gG JF,J⟩)))))))
theorem J9 (f:aH):FT Try.prog (ug f) 107 [.agg (aj f)] [] (fun (t:aH) => [.agg [iC t.Graph.aC,lo 0 t.Graph.aB.length,lo 1 t.Places.length]]) (fun (t:aH) => [(0,pR 96 aG t.Graph.aB),(1,pR 82 aI t.Places)]) [0,1]:=by
 refine FT.of [] Try.func107 Try.ntmps107 Q y2 ?_
 intro w0 U0 R0 g0
 unfold ug
 refine Ws (Wr ?_)
 refine eU 21 (.agg (aj f)) dI y5 (ja 22 [iC 0,sC fU,sC fU] ku y6 (On (Ws (aA.draw mixed ?_))))
 refine bT (LT.dO Q gm) Q Q Q (gV (fB (bM f.Graph) Q kN jW gU) Q Q Q Q (aP.bind fun r1 hr1 => (aP.step (iF [.agg (bM f.Graph)] (Fw.Fn.ren [(0,24)] (TG f.Graph r1 hr1) Q) LV (qg y2) J y3) z2 J Q Q (tH (ny 25 aI [] [] lN mY y7) Q Q (jT (xF aI f.Places) iG iJ bG (aP.bind fun u2 hu2 => (nD (LT.BI (enc:=aI) Q  Q lN mY Q (by decide) (by decide) (fun _ => Q) (qN hu2)) Q Q Q Q Q (dP (LT.build [(0,.tmp 5,.agg [iC r1.aC,lo 24 r1.aB.length]),(1,.tmp 9,.c (lo 25 ((([]:List aO) ++ f.Places).length)))] Q Q JJ ku Q Q Q) Q Q Q Q (nD (stA [iC r1.aC,lo 24 r1.aB.length,lo 25 ((([]:List aO) ++ f.Places).length)] Q Q fG dI) Q Q Q Q Q (fD ?_))))))))))
 refine en [(2,Cc (.pl 22 0))] [(22,.row 29 [[iC r1.aC,lo 24 r1.aB.length,lo 25 ((([]:List aO) ++ f.Places).length)]]),(24,pR 96 aG r1.aB),(25,pR 82 aI (([]:List aO) ++ f.Places))] z1 z3 (aA.ent (aU.mv 24 0 Q Q) (aA.ent (aU.mv 25 1 Q Q) (en [(2,Cc (.pl 22 0))] [(0,pR 96 aG r1.aB),(1,pR 82 aI (([]:List aO) ++ f.Places)),(22,.row 29 [[iC r1.aC,lo 0 r1.aB.length,lo 1 ((([]:List aO) ++ f.Places).length)]])] z1 z3 (bI ⟨⟨_,_,_,Q,Q,Q,gX,dI,_,gB fG⟩,J⟩ z2 ⟨⟨aX.sc,J,J,J⟩,J⟩ ⟨dB.gG jR,dB.gG jq,J⟩))))
theorem Tt (gI:(List aQ)) (iY:(List aQ)):FT Try.prog (yQ gI iY) 181 [.c (xF aG gI),.c (xF aG iY)] [] (fun (t:Bool) => [.c (bC t)]) (fun (t:Bool) => []) []:=by
 refine FT.of [] Try.func181 Try.ntmps181 Q y2 ?_
 intro w0 U0 R0 g0
 unfold yQ
 refine Ws (Wr ?_)
 refine aN (Bv false) aV (On (Ws (Ws (Wr ?_))))
 refine aK (Cc (xF aG gI)) y4 (aT (LT.dn Q iQ) Q Q Q (aK (Cc (xF aG iY)) y4 (aT (LT.dn Q iQ) Q Q Q (ah LT.neq y5 (On (aA.cond Q (fun hc1 => ?_) (fun hc1 => ?_)))))))
 ·refine Ws (Wr ?_)
  refine aN (Bv false) aV (On (bI z1 J ⟨aX.sc,J⟩ J))
 ·refine aA.skip (Ws (Ws (Wr ?_)))
  refine aK (Cc (xF aG gI)) y4 (aT (LT.dn Q iQ) Q Q Q (aK (Iv 0) aV (On (aA.block ?_))))
  refine aA.kU (id:=0) (yR gI iY) (fun s2 => ([(0,Cc (xF aG gI)),(1,Cc (xF aG iY)),(12,Iv (gI.length:Int)),(13,Iv s2)],[])) (fun b11 => ([],[])) (dm Try.prog Try.f181.results.toList [] [] (fun (t:Bool) => [.c (bC t)]) (fun (t:Bool) => [])) ?_ (aU.of z4 J) Q (fun b11 _ => ?_) kT
  ·intro s2
   unfold yR
   refine Ws (Wr ?_)
   refine ah LT.lss y5 (On (Ws ?_))
   refine aA.cond Q (fun hc12 => ?_) (fun hc12 => ?_)
   ·refine aA.skip (Ws (aA.block (Ws (Wr ?_))))
    refine aK (Iv s2) y4 (aN (Iv s2) y4 (On (Ws (aA.draw mixed ?_))))
    refine dA (Cc (xF aG gI)) y4 (dA (Iv s2) y4 (aP.bind fun jL o9 => (dP (LT.dW (enc:=aG) Q jO o9 dQ) Q Q Q Q (bT (gq Q jS iH dQ) Q Q Q (dA (Cc (xF aG iY)) y4 (dA (Iv s2) y4 (aP.bind fun x14 nP => (dP (LT.dW (enc:=aG) Q jO nP dQ) Q Q Q Q (bT (gq Q jS iH dQ) Q Q Q (dP (LT.Ie [jL.A,jL.B] [x14.A,x14.B] Q AO Q Q) Q Q Q Q (fD ?_)))))))))))
    refine aA.cond Q (fun nN => ?_) (fun nN => ?_)
    ·refine Ws (en [] [] J J (Wr (aN (Bv false) aV (On (aA.ret ⟨Q,jc z1 J ⟨aX.sc,J⟩ J⟩)))))
    ·refine aA.skip (aA.blk ?_)
     refine en [(0,Cc (xF aG gI)),(1,Cc (xF aG iY)),(12,Iv (gI.length:Int)),(13,Iv s2)] [] z4 J (Wr (ah LT.add ak (aK (Iv (aJ (s2 + 1))) y4 (On (bK Q z4 J)))))
   ·refine ig y2 J J
  ·refine Ws (Wr ?_)
   refine aN (Bv true) aV (On (bI z1 J ⟨aX.sc,J⟩ J))
theorem TA (a:au) (b:au):FT Try.prog (xY a b) 131 [.agg (bM a),.agg (bM b)] [] (fun (t:Bool) => [.c (bC t)]) (fun (t:Bool) => []) []:=by
 refine FT.of [] Try.func131 Try.ntmps131 Q y2 ?_
 intro w0 U0 R0 g0
 unfold xY
 refine Ws (Wr ?_)
 refine eU 21 (.agg (bM a)) gU y5 (eU 22 (.agg (bM b)) gU y5 (aN (Bv false) aV (On (Ws ?_))))
 refine aA.iU (fun j3 => ([(4,Bv j3)],[])) ?_ (fun j3 _ => ?_)
 ·refine Wr (bg (iC a.aC) jD bD bG (bg (iC b.aC) jD bD bG (ah LT.eql y5 (aK (Bv (a.aC == b.aC)) y4 (aS.split (fun hb4 => ?_) (fun hb4 => ?_))))))
  ·refine jV (xF aG a.aB) fZ gK hb4 fF (jV (xF aG b.aB) fZ gK hb4 fF (ay fun r5 xH => (aS.pure (iF [.c (xF aG a.aB),.c (xF aG b.aB)] (Tt a.aB b.aB r5 xH) Lr (mV y2) J y3) z3 J (gH hb4 Q Q) Q (jI (Bv r5) hb4 y5 (aN (Bv r5) y4 (On (bK Q z1 J)))))))
  ·refine bF hb4 y5 (bF hb4 y5 (bF hb4 y5 (bF hb4 y5 (bF hb4 y5 (jr (Bv false) hb4 ak (aN (Bv false) y4 (On (bK Q z1 J))))))))
 ·refine bI z1 J ⟨aX.sc,J⟩ J
theorem TB (f:aH) (a:Int) (b:Int):FT Try.prog (xZ f a b) 130 [.agg (aj f),.c (iC a),.c (iC b)] [] (fun (t:Int) => [.c (iC t)]) (fun (t:Int) => []) []:=by
 refine FT.of [] Try.func130 Try.ntmps130 Q y2 ?_
 intro w0 U0 R0 g0
 unfold xZ
 refine Ws (Wr ?_)
 refine eU 21 (.agg (aj f)) dI y5 (aN (Iv 0) aV (On (Ws (aA.draw mixed ?_))))
 refine jT (xF aI f.Places) iG iJ bG (dA (Iv a) y4 (aP.bind fun x1 hx1 => (dP (LT.dW (enc:=aI) Q iw hx1 eG) Q Q Q Q (bT (LT.jw Q lU) Q Q Q (bT (LT.jk Q bD) Q Q Q (jT (xF aI f.Places) iG iJ bG (dA (Iv b) y4 (aP.bind fun x2 hx2 => (dP (LT.dW (enc:=aI) Q iw hx2 eG) Q Q Q Q ?_)))))))))
 refine bT (LT.jw Q lU) Q Q Q (bT (LT.jk Q bD) Q Q Q (qo LT.sub y5 (jT (xF aI f.Places) iG iJ bG (dA (Iv a) y4 (aP.bind fun x3 hx3 => (dP (LT.dW (enc:=aI) Q iw hx3 eG) Q Q Q Q (bT (LT.jw Q lV) Q Q Q (bT (LT.jk Q bD) Q Q Q (jT (xF aI f.Places) iG iJ bG ?_)))))))))
 refine dA (Iv b) y4 (aP.bind fun x4 hx4 => (dP (LT.dW (enc:=aI) Q iw hx4 eG) Q Q Q Q (bT (LT.jw Q lV) Q Q Q (bT (LT.jk Q bD) Q Q Q (qo LT.sub y5 (bT (LT.assign (v:=(Iv (aJ (x1.X - x2.X)))) Q) Q Q Q (bT (LT.assign (v:=(Iv (aJ (x3.Y - x4.Y)))) Q) Q Q Q (fD (Ws (en [(7,Iv (aJ (x1.X - x2.X))),(8,Iv (aJ (x3.Y - x4.Y)))] [] z2 J (Wr ?_)))))))))))
 refine aK (Iv (aJ (x1.X - x2.X))) y4 (aK (Iv (aJ (x1.X - x2.X))) y4 (ah LT.mul y5 (aK (Iv (aJ (x3.Y - x4.Y))) y4 (aK (Iv (aJ (x3.Y - x4.Y))) y4 (ah LT.mul y5 (ah LT.add y5 (aN (Iv (aJ ((aJ ((aJ (x1.X - x2.X)) * (aJ (x1.X - x2.X)))) + (aJ ((aJ (x3.Y - x4.Y)) * (aJ (x3.Y - x4.Y))))))) y4 (On (bI z1 J ⟨aX.sc,J⟩ J)))))))))
theorem J7 (f:aH):FT Try.prog (uX f) 55 [.agg (aj f)] [] (fun (t:(List Int)) => [.c (lo 0 t.length)]) (fun (t:(List Int)) => [(0,pR 3 dN t)]) [0]:=by
 refine FT.of [] Try.func55 Try.ntmps55 Q y2 ?_
 intro w0 U0 R0 g0
 unfold uX
 refine Ws (Wr ?_)
 refine eU 21 (.agg (aj f)) dI y5 (aN (Cc (sC fU)) aV (On (Ws (Wr ?_))))
 refine oP (ny 22 dN [] [] mg vg y7) Q Q (aN (Cc (lo 22 (([]:List Int).length))) y4 (On (Ws (Ws (Wr ?_)))))
 refine eY (fB (aj f) Q gX fG dI) Q Q Q Q (ay fun r1 hr1 => (jC [.agg (aj f)] (BK f r1 hr1) zT (mW y3) y5 z2 (aT (LT.not Q) Q Q Q (On (aA.cond Q (fun hc2 => ?_) (fun hc2 => ?_))))))
 ·refine Ws (en [(3,Cc (lo 22 (([]:List Int).length)))] [(22,pR 3 dN ([]:List Int))] z1 z1 (Wr (aK (Cc (lo 22 (([]:List Int).length))) y4 (aN (Cc (lo 22 (([]:List Int).length))) y4 (On (en [(2,Cc (lo 22 (([]:List Int).length)))] [(22,pR 3 dN ([]:List Int))] z1 z1 (aA.ent (aU.mv 22 0 Q Q) (en [(2,Cc (lo 0 (([]:List Int).length)))] [(0,pR 3 dN ([]:List Int))] z1 z1 (bI z1 z1 ⟨J,J⟩ ⟨dB.gG EM,J⟩)))))))))
 ·refine aA.skip (Ws (Ws ?_))
  refine en [(1,Cc (.pl 21 0)),(3,Cc (lo 22 (([]:List Int).length)))] [(21,.row 29 [aj f]),(22,pR 3 dN ([]:List Int))] z2 z2 (Wr (aT (LT.dO Q gm) Q Q Q (bg (xF aG f.Graph.aB) fZ gK bG (aT (LT.dn Q iQ) Q Q Q (aK (Iv 0) aV (On (aA.block ?_)))))))
  refine aA.mJ (id:=0) (uY f) (fun s3 => ([(1,Cc (.pl 21 0)),(3,Cc (lo 22 s3.2.length)),(13,Cc (xF aG f.Graph.aB)),(14,Iv (f.Graph.aB.length:Int)),(15,Iv s3.1)],[(21,.row 29 [aj f]),(22,pR 3 dN s3.2)])) (fun b12 => ([(3,Cc (lo 22 b12.length))],[(22,pR 3 dN b12)])) ?_ (aU.of z5 z2) Q (fun b12 _ => ?_)
  ·intro s3
   unfold uY
   refine Ws (Wr ?_)
   refine ah LT.lss y5 (On (Ws ?_))
   refine aA.cond Q (fun hc13 => ?_) (fun hc13 => ?_)
   ·refine aA.skip (Ws (aA.block (Ws (Wr ?_))))
    refine ay fun x14 nP => (dF (LT.dW (enc:=aG) Q jO nP dQ) Q Q Q Q (aT (gq Q jS iH dQ) Q Q Q (ja 24 [iC 0,iC 0] mZ y6 (gJ (stA [iC x14.A,iC x14.B] Q Q iH dQ) Q Q Q Q Q (On (Wr ?_))))))
    refine aK (Cc (lo 22 s3.2.length)) y4 (eY (fB (aj f) Q gX fG dI) Q Q Q Q (bg (iC x14.A) jb bD bG (bg (iC x14.B) jm bD bG (ay fun fO rU => (jC [.agg (aj f),.c (iC x14.A),.c (iC x14.B)] (TB f x14.A x14.B fO rU) La (Ru y5) y5 z4 (qw (ny 26 dN [(0,.tmp 25,.c (iC fO))] ([fO]:List Int) mg vg y7) Q Q Q (ay fun u16 Dh => (BR (LT.Eg (enc:=dN) Q Q Q mg vg Q (by decide) (by decide) (fun _ => Q) (qN Dh)) Q Q Q Q Q Q (aN (Cc (lo 22 ((s3.2 ++ ([fO]:List Int)).length))) y4 ?_)))))))))
    refine On (aA.blk ?_)
    refine en [(1,Cc (.pl 21 0)),(3,Cc (lo 22 ((s3.2 ++ ([fO]:List Int)).length))),(13,Cc (xF aG f.Graph.aB)),(14,Iv (f.Graph.aB.length:Int)),(15,Iv s3.1)] [(21,.row 29 [aj f]),(22,pR 3 dN (s3.2 ++ ([fO]:List Int)))] z5 z2 (Wr (ah LT.add ak (aK (Iv (aJ (s3.1 + 1))) y4 (On (bK Q z5 z2)))))
   ·refine ig y2 z1 z1
  ·refine Ws (Wr ?_)
   refine aK (Cc (lo 22 b12.length)) y4 (aN (Cc (lo 22 b12.length)) y4 (On (en [(2,Cc (lo 22 b12.length))] [(22,pR 3 dN b12)] z1 z1 (aA.ent (aU.mv 22 0 Q Q) (en [(2,Cc (lo 0 b12.length))] [(0,pR 3 dN b12)] z1 z1 (bI z1 z1 ⟨J,J⟩ ⟨dB.gG EM,J⟩))))))
theorem Tq (gI:(List Int)) (iY:(List Int)):FT Try.prog (yP gI iY) 132 [.c (xF dN gI),.c (xF dN iY)] [] (fun (t:Bool) => [.c (bC t)]) (fun (t:Bool) => []) []:=by
 refine FT.of [] Try.func132 Try.ntmps132 Q y2 ?_
 intro w0 U0 R0 g0
 unfold yP
 refine Ws (Wr ?_)
 refine aN (Bv false) aV (On (Ws (Ws (Wr ?_))))
 refine aK (Cc (xF dN gI)) y4 (aT (LT.dn Q mg) Q Q Q (aK (Cc (xF dN iY)) y4 (aT (LT.dn Q mg) Q Q Q (ah LT.neq y5 (On (aA.cond Q (fun hc1 => ?_) (fun hc1 => ?_)))))))
 ·refine Ws (Wr ?_)
  refine aN (Bv false) aV (On (bI z1 J ⟨aX.sc,J⟩ J))
 ·refine aA.skip (Ws (Ws (Wr ?_)))
  refine aK (Cc (xF dN gI)) y4 (aT (LT.dn Q mg) Q Q Q (aK (Iv 0) aV (On (aA.block ?_))))
  refine aA.kU (id:=0) (yS gI iY) (fun s2 => ([(0,Cc (xF dN gI)),(1,Cc (xF dN iY)),(12,Iv (gI.length:Int)),(13,Iv s2)],[])) (fun b11 => ([],[])) (dm Try.prog Try.f132.results.toList [] [] (fun (t:Bool) => [.c (bC t)]) (fun (t:Bool) => [])) ?_ (aU.of z4 J) Q (fun b11 _ => ?_) kT
  ·intro s2
   unfold yS
   refine Ws (Wr ?_)
   refine ah LT.lss y5 (On (Ws ?_))
   refine aA.cond Q (fun hc12 => ?_) (fun hc12 => ?_)
   ·refine aA.skip (Ws (aA.block (Ws (Wr ?_))))
    refine aK (Iv s2) y4 (aN (Iv s2) y4 (On (Ws (aA.draw mixed ?_))))
    refine dA (Cc (xF dN gI)) y4 (dA (Iv s2) y4 (aP.bind fun jL o9 => (dP (LT.dW (enc:=dN) Q zZ o9 lM) Q Q Q Q (bT (LT.jk Q bD) Q Q Q (dA (Cc (xF dN iY)) y4 (dA (Iv s2) y4 (aP.bind fun x14 nP => (dP (LT.dW (enc:=dN) Q zZ nP lM) Q Q Q Q (bT (LT.jk Q bD) Q Q Q (qo LT.neq y5 (fD ?_)))))))))))
    refine aA.cond Q (fun nN => ?_) (fun nN => ?_)
    ·refine Ws (en [] [] J J (Wr (aN (Bv false) aV (On (aA.ret ⟨Q,jc z1 J ⟨aX.sc,J⟩ J⟩)))))
    ·refine aA.skip (aA.blk ?_)
     refine en [(0,Cc (xF dN gI)),(1,Cc (xF dN iY)),(12,Iv (gI.length:Int)),(13,Iv s2)] [] z4 J (Wr (ah LT.add ak (aK (Iv (aJ (s2 + 1))) y4 (On (bK Q z4 J)))))
   ·refine ig y2 J J
  ·refine Ws (Wr ?_)
   refine aN (Bv true) aV (On (bI z1 J ⟨aX.sc,J⟩ J))
theorem S9 (a:aH) (b:aH):FT Try.prog (xX a b) 59 [.agg (aj a),.agg (aj b)] [] (fun (t:Bool) => [.c (bC t)]) (fun (t:Bool) => []) []:=by
 refine FT.of [] Try.func59 Try.ntmps59 Q y2 ?_
 intro w0 U0 R0 g0
 unfold xX
 refine Ws (Wr ?_)
 refine eU 21 (.agg (aj a)) dI y5 (eU 22 (.agg (aj b)) dI y5 (aN (Bv false) aV (On (Ws ?_))))
 refine aA.iU (fun j10 => ([(4,Bv j10)],[])) ?_ (fun j10 _ => ?_)
 ·refine aA.draw mixed (gV (fB (aj a) Q gX fG dI) Q Q Q Q (aP.bind fun r11 DK => (aP.pure (iF [.agg (aj a)] (BK a r11 DK) zT (mW y3) J y3) z2 J Q Q (dA (Bv r11) y4 (aP.split (fun kW => ?_) (fun kW => ?_))))))
  ·refine gV (fB (aj b) Q gX fG dI) Q Q (gH kW Q Q) Q (aP.bind fun r13 xE => (aP.pure (iF [.agg (aj b)] (BK b r13 xE) zT (mW y3) J y3) z2 J (gH kW Q Q) Q (jY (Bv r13) kW y5 (dA (Bv r13) y4 (aP.split (fun iK => ?_) (fun iK => ?_))))))
   ·refine bT (LT.dO Q gm) Q (gH iK Q Q) Q (gV (fB (bM a.Graph) Q kN jW gU) Q Q (gH iK Q Q) Q (bT (LT.dO Q gm) Q (gH iK Q Q) Q (gV (fB (bM b.Graph) Q kN jW gU) Q Q (gH iK Q Q) Q (aP.bind fun fO rU => (aP.pure (iF [.agg (bM a.Graph),.agg (bM b.Graph)] (TA a.Graph b.Graph fO rU) Lc (sN y4) J y3) z3 J (gH iK Q Q) Q (jY (Bv fO) iK y5 (dA (Bv fO) y4 (aP.split (fun hb16 => ?_) (fun hb16 => ?_)))))))))
    ·refine gV (fB (aj a) Q gX fG dI) Q Q (gH hb16 Q Q) Q (aP.bind fun eu nO => (aP.step (iF [.agg (aj a)] (Fw.Fn.ren [(0,27)] (J7 a eu nO) Q) Fq (mW y3) J y3) z2 J (gH hb16 Q Q) Q (gV (fB (aj b) Q gX fG dI) Q Q (gH hb16 Q Q) Q (aP.bind fun kG xG => (aP.step (iF [.agg (aj b)] (Fw.Fn.ren [(0,29)] (J7 b kG xG) Q) Fq (mW y3) J y3) z2 J (gH hb16 Q Q) Q (aP.bind fun nU DN => (aP.pure (cF [.c (lo 27 eu.length),.c (lo 29 kG.length)] [(27,pR 3 dN eu),(29,pR 3 dN kG)] (Tq eu kG nU DN) Ld (.cons (.c (.iZ Q Q)) (.cons (.c (.iZ Q Q)) .nil)) J y3) z3 z2 (gH hb16 Q Q) Q (jY (Bv nU) hb16 y5 (bT (LT.assign (v:=(Bv nU)) Q) Q Q Q (fD (bK Q z1 J)))))))))))
    ·refine ai hb16 y3 (ai hb16 y3 (ai hb16 y3 (ai hb16 y3 (ai hb16 y3 (iW (Bv false) hb16 ak (bT (LT.assign (v:=(Bv false)) Q) Q Q Q (fD (bK Q z1 J))))))))
   ·refine ai iK y3 (ai iK y3 (ai iK y3 (ai iK y3 (ai iK y3 (iW (Bv false) iK ak (dA (Bv false) y4 (aY y3 (aY y3 (aY y3 (aY y3 (aY y3 ?_)))))))))))
    refine iW (Bv false) Q ak (bT (LT.assign (v:=(Bv false)) Q) Q Q Q (fD (bK Q z1 J)))
  ·refine ai kW y3 (ai kW y3 (iW (Bv false) kW ak (dA (Bv false) y4 (aY y3 (aY y3 (aY y3 (aY y3 (aY y3 (iW (Bv false) Q ak (dA (Bv false) y4 (aY y3 ?_)))))))))))
   refine aY y3 (aY y3 (aY y3 (aY y3 (iW (Bv false) Q ak (bT (LT.assign (v:=(Bv false)) Q) Q Q Q (fD (bK Q z1 J)))))))
 ·refine bI z1 J ⟨aX.sc,J⟩ J
theorem TP (a:aO) (b:aO):FT Try.prog (AY a b) 170 [.agg [iC a.X,iC a.Y],.agg [iC b.X,iC b.Y]] [] (fun (t:Bool) => [.c (bC t)]) (fun (t:Bool) => []) []:=by
 refine FT.of [] Try.func170 Try.ntmps170 Q y2 ?_
 intro w0 U0 R0 g0
 unfold AY
 refine Ws (Wr ?_)
 refine eU 21 (.agg [iC a.X,iC a.Y]) eG y5 (eU 22 (.agg [iC b.X,iC b.Y]) eG y5 (aN (Bv false) aV (On (Ws (Ws (Wr ?_))))))
 refine bg (iC a.X) lU bD bG (bg (iC b.X) lU bD bG (ah LT.neq y5 (On (aA.cond Q (fun hc1 => ?_) (fun hc1 => ?_)))))
 ·refine Ws (en [] [] J J (Wr (aN (Bv false) aV (On (bI z1 J ⟨aX.sc,J⟩ J)))))
 ·refine aA.skip (Ws (Ws ?_))
  refine en [(2,Cc (.pl 21 0)),(3,Cc (.pl 22 0))] [(21,.row 82 [[iC a.X,iC a.Y]]),(22,.row 82 [[iC b.X,iC b.Y]])] z2 z2 (Wr (bg (iC a.Y) lV bD bG (bg (iC b.Y) lV bD bG (ah LT.neq y5 (On (aA.cond Q (fun hc2 => ?_) (fun hc2 => ?_)))))))
  ·refine Ws (Wr ?_)
   refine aN (Bv false) aV (On (bI z1 J ⟨aX.sc,J⟩ J))
  ·refine aA.skip (Ws (Wr ?_))
   refine aN (Bv true) aV (On (bI z1 J ⟨aX.sc,J⟩ J))
theorem TQ (a:(List aO)) (b:(List aO)):FT Try.prog (x9 a b) 108 [.c (xF aI a),.c (xF aI b)] [] (fun (t:Bool) => [.c (bC t)]) (fun (t:Bool) => []) []:=by
 refine FT.of [] Try.func108 Try.ntmps108 Q y2 ?_
 intro w0 U0 R0 g0
 unfold x9
 refine Ws (Wr ?_)
 refine aN (Bv false) aV (On (Ws (Ws (Wr ?_))))
 refine aK (Cc (xF aI a)) y4 (aT (LT.dn Q lN) Q Q Q (aK (Cc (xF aI b)) y4 (aT (LT.dn Q lN) Q Q Q (ah LT.neq y5 (On (aA.cond Q (fun hc1 => ?_) (fun hc1 => ?_)))))))
 ·refine Ws (Wr ?_)
  refine aN (Bv false) aV (On (bI z1 J ⟨aX.sc,J⟩ J))
 ·refine aA.skip (Ws (Ws (Wr ?_)))
  refine aN (Iv 0) aV (On (aA.block ?_))
  refine aA.kU (id:=0) (yA a b) (fun s2 => ([(0,Cc (xF aI a)),(1,Cc (xF aI b)),(5,Iv s2)],[])) (fun b13 => ([],[])) (dm Try.prog Try.f108.results.toList [] [] (fun (t:Bool) => [.c (bC t)]) (fun (t:Bool) => [])) ?_ (aU.of z3 J) Q (fun b13 _ => ?_) kT
  ·intro s2
   unfold yA
   refine Ws (Ws (Wr ?_))
   refine aK (Iv s2) y4 (aK (Cc (xF aI a)) y4 (aT (LT.dn Q lN) Q Q Q (ah LT.lss y5 (On (aA.cond Q (fun wZ => ?_) (fun wZ => ?_))))))
   ·refine aA.skip (Ws (aA.block (Ws (aA.draw mixed ?_))))
    refine dA (Cc (xF aI a)) y4 (dA (Iv s2) y4 (aP.bind fun x15 nR => (dP (LT.dW (enc:=aI) Q iw nR eG) Q Q Q Q (bT (gq Q lG jX eG) Q Q Q (dA (Cc (xF aI b)) y4 (dA (Iv s2) y4 (aP.bind fun x16 hx16 => (dP (LT.dW (enc:=aI) Q iw hx16 eG) Q Q Q Q (bT (gq Q lG jX eG) Q Q Q (aP.bind fun eu nO => (aP.pure (iF [.agg [iC x15.X,iC x15.Y],.agg [iC x16.X,iC x16.Y]] (TP x15 x16 eu nO) Ll (sN y4) J y3) z3 J Q Q ?_)))))))))))
    refine bT (LT.not Q) Q Q Q (fD (aA.cond Q (fun hc18 => ?_) (fun hc18 => ?_)))
    ·refine Ws (en [] [] J J (Wr (aN (Bv false) aV (On (aA.ret ⟨Q,jc z1 J ⟨aX.sc,J⟩ J⟩)))))
    ·refine aA.skip (aA.blk ?_)
     refine en [(0,Cc (xF aI a)),(1,Cc (xF aI b)),(5,Iv s2)] [] z3 J (Wr (aK (Iv s2) y4 (ah LT.add ak (aN (Iv (aJ (s2 + 1))) y4 (On (bK Q z3 J))))))
   ·refine ig y2 J J
  ·refine Ws (Wr ?_)
   refine aN (Bv true) aV (On (bI z1 J ⟨aX.sc,J⟩ J))
theorem KA (a:aH) (b:aH):FT Try.prog (uh a b) 35 [.agg (aj a),.agg (aj b)] [] (fun (t:Bool) => [.c (bC t)]) (fun (t:Bool) => []) []:=by
 refine FT.of [] Try.func35 Try.ntmps35 Q y2 ?_
 intro w0 U0 R0 g0
 unfold uh
 refine Ws (Wr ?_)
 refine eU 21 (.agg (aj a)) dI y5 (eU 22 (.agg (aj b)) dI y5 (aN (Bv false) aV (On (Ws (Ws (Wr ?_))))))
 refine aT (LT.dO Q gm) Q Q Q (eY (fB (bM a.Graph) Q kN jW gU) Q Q Q Q (aT (LT.dO Q gm) Q Q Q (eY (fB (bM b.Graph) Q kN jW gU) Q Q Q Q (ay fun r1 hr1 => (jC [.agg (bM a.Graph),.agg (bM b.Graph)] (TN a.Graph b.Graph r1 hr1) MF (sN y4) y5 z3 (aT (LT.not Q) Q Q Q (On (aA.cond Q (fun hc2 => ?_) (fun hc2 => ?_)))))))))
 ·refine Ws (en [] [] J J (Wr (aN (Bv false) aV (On (bI z1 J ⟨aX.sc,J⟩ J)))))
 ·refine aA.skip (Ws (Ws ?_))
  refine en [(2,Cc (.pl 21 0)),(3,Cc (.pl 22 0))] [(21,.row 29 [aj a]),(22,.row 29 [aj b])] z2 z2 (Wr (bg (xF aI a.Places) iG iJ bG (bg (xF aI b.Places) iG iJ bG (ay fun r3 hr3 => (jC [.c (xF aI a.Places),.c (xF aI b.Places)] (TQ a.Places b.Places r3 hr3) LK (mV y2) y5 z3 (aT (LT.not Q) Q Q Q (On (aA.cond Q (fun hc4 => ?_) (fun hc4 => ?_)))))))))
  ·refine Ws (Wr ?_)
   refine aN (Bv false) aV (On (bI z1 J ⟨aX.sc,J⟩ J))
  ·refine aA.skip (Ws (Wr ?_))
   refine aN (Bv true) aV (On (bI z1 J ⟨aX.sc,J⟩ J))
theorem Ew (a:(List aH)) (b:(List aH)):FT Try.prog (rY a b) 34 [.c (xF (bW false) a),.c (xF (bW false) b)] [] (fun (t:Bool) => [.c (bC t)]) (fun (t:Bool) => []) []:=by
 refine FT.of [] Try.func34 Try.ntmps34 Q y2 ?_
 intro w0 U0 R0 g0
 unfold rY
 refine Ws (Wr ?_)
 refine aN (Bv false) aV (On (Ws (Ws (Wr ?_))))
 refine aK (Cc (xF (bW false) a)) y4 (aT (LT.dn Q mr) Q Q Q (aK (Cc (xF (bW false) b)) y4 (aT (LT.dn Q mr) Q Q Q (ah LT.neq y5 (On (aA.cond Q (fun hc1 => ?_) (fun hc1 => ?_)))))))
 ·refine Ws (Wr ?_)
  refine aN (Bv false) aV (On (bI z1 J ⟨aX.sc,J⟩ J))
 ·refine aA.skip (Ws (Ws (Wr ?_)))
  refine aN (Iv 0) aV (On (aA.block ?_))
  refine aA.kU (id:=0) (xu a b) (fun s2 => ([(0,Cc (xF (bW false) a)),(1,Cc (xF (bW false) b)),(5,Iv s2)],[])) (fun b13 => ([],[])) (dm Try.prog Try.f34.results.toList [] [] (fun (t:Bool) => [.c (bC t)]) (fun (t:Bool) => [])) ?_ (aU.of z3 J) Q (fun b13 _ => ?_) kT
  ·intro s2
   unfold xu
   refine Ws (Ws (Wr ?_))
   refine aK (Iv s2) y4 (aK (Cc (xF (bW false) a)) y4 (aT (LT.dn Q mr) Q Q Q (ah LT.lss y5 (On (aA.cond Q (fun wZ => ?_) (fun wZ => ?_))))))
   ·refine aA.skip (Ws (aA.block (Ws (aA.draw mixed ?_))))
    refine dA (Cc (xF (bW false) a)) y4 (dA (Iv s2) y4 (aP.bind fun x15 nR => (dP (LT.dW (enc:=(bW false)) Q qK nR dI) Q Q Q Q (bT (gq Q gX fG dI) Q Q Q (dA (Cc (xF (bW false) b)) y4 (dA (Iv s2) y4 (aP.bind fun x16 hx16 => (dP (LT.dW (enc:=(bW false)) Q qK hx16 dI) Q Q Q Q (bT (gq Q gX fG dI) Q Q Q (aP.bind fun eu nO => (aP.pure (iF [.agg (aj x15),.agg (aj x16)] (KA x15 x16 eu nO) Fh (Rw y6) J y3) z3 J Q Q ?_)))))))))))
    refine bT (LT.not Q) Q Q Q (fD (aA.cond Q (fun hc18 => ?_) (fun hc18 => ?_)))
    ·refine Ws (en [] [] J J (Wr (aN (Bv false) aV (On (aA.ret ⟨Q,jc z1 J ⟨aX.sc,J⟩ J⟩)))))
    ·refine aA.skip (aA.blk ?_)
     refine en [(0,Cc (xF (bW false) a)),(1,Cc (xF (bW false) b)),(5,Iv s2)] [] z3 J (Wr (aK (Iv s2) y4 (ah LT.add ak (aN (Iv (aJ (s2 + 1))) y4 (On (bK Q z3 J))))))
   ·refine ig y2 J J
  ·refine Ws (Wr ?_)
   refine aN (Bv true) aV (On (bI z1 J ⟨aX.sc,J⟩ J))
theorem KE (a:(List aO)) (k:Int):FT Try.prog (vC a k) 109 [.c (lo 0 a.length),.c (iC k)] [(0,pR 82 aI a)] (fun (t:(Int × (List aO))) => [.c (iC t.1)]) (fun (t:(Int × (List aO))) => [(0,pR 82 aI t.2)]) []:=by
 refine FT.of [0] Try.func109 Try.ntmps109 Q y2 ?_
 intro w0 U0 R0 g0
 unfold vC
 refine Ws (Wr ?_)
 refine aN (Iv 0) aV (On (Ws (Ws (Wr ?_))))
 refine aN (Iv 0) aV (On (aA.block ?_))
 refine aA.mJ (id:=0) vH (fun s1 => ([(0,Cc (lo 0 s1.2.2.length)),(1,Iv s1.1),(5,Iv s1.2.1)],[(0,pR 82 aI s1.2.2)])) (fun b8 => ([(1,Iv b8.1)],[(0,pR 82 aI b8.2)])) ?_ (aU.of z3 z1) Q (fun b8 _ => ?_)
 ·intro s1
  unfold vH
  refine Ws (Ws (Wr ?_))
  refine aK (Iv s1.2.1) y4 (aK (Cc (lo 0 s1.2.2.length)) y4 (aT (LT.Dx Q lN) Q Q Q (ah LT.lss y5 (On (aA.cond Q (fun wo => ?_) (fun wo => ?_))))))
  ·refine aA.skip (Ws (aA.block (Ws (Wr ?_))))
   refine aK (Cc (lo 0 s1.2.2.length)) y4 (aK (Iv s1.2.1) y4 (aK (Iv s1.1) y4 (ay fun x10 lJ => (nH (LT.ql Q Q iw lJ) Q Q Q Q Q (aT (LT.dO Q lU) Q Q Q (gJ (sQ 0 (.c (iC s1.1)) (aO.mk s1.1 x10.Y) Q Q oD lM lJ) Q Q Q Q Q (On (Ws ?_))))))))
   refine en [(0,Cc (lo 0 s1.2.2.length)),(1,Iv s1.1),(5,Iv s1.2.1)] [(0,pR 82 aI (s1.2.2.set s1.2.1.toNat (aO.mk s1.1 x10.Y)))] z3 z1 (Wr (aK (Iv s1.1) y4 (ah LT.add ak (aN (Iv (aJ (s1.1 + 1))) y4 (On (Ws (Wr ?_)))))))
   refine aK (Cc (lo 0 s1.2.2.length)) y4 (aK (Iv s1.2.1) y4 (aK (Iv (aJ (s1.1 + 1))) y4 (ay fun x11 xJ => (nH (LT.ql (show s1.2.2.length = (s1.2.2.set s1.2.1.toNat (aO.mk s1.1 x10.Y)).length by simp only [List.length_set]) Q iw xJ) Q Q Q Q Q (aT (LT.dO Q lV) Q Q Q (gJ (sQ 1 (.c (iC (aJ (s1.1 + 1)))) (aO.mk x11.X (aJ (s1.1 + 1))) Q Q oD lM xJ) Q Q Q Q Q (On (en [(0,Cc (lo 0 s1.2.2.length)),(1,Iv (aJ (s1.1 + 1))),(5,Iv s1.2.1)] [(0,pR 82 aI ((s1.2.2.set s1.2.1.toNat (aO.mk s1.1 x10.Y)).set s1.2.1.toNat (aO.mk x11.X (aJ (s1.1 + 1)))))] z3 z1 (Wr (aK (Iv (aJ (s1.1 + 1))) y4 (ah LT.add ak ?_)))))))))))
   refine aN (Iv (aJ ((aJ (s1.1 + 1)) + 1))) y4 (On (aA.blk (Wr ?_)))
   refine aK (Iv s1.2.1) y4 (ah LT.add ak (aN (Iv (aJ (s1.2.1 + 1))) y4 (On (aA.nil ⟨Q,aU.of ⟨congrArg (fun l1 => (some (AV.s (.c (lo 0 l1))):Option AV)) (show s1.2.2.length = ((s1.2.2.set s1.2.1.toNat (aO.mk s1.1 x10.Y)).set s1.2.1.toNat (aO.mk x11.X (aJ (s1.1 + 1)))).length by simp only [List.length_set]),Q,Q,J⟩ z1⟩))))
  ·refine ig y2 z1 z1
 ·refine Ws (Wr ?_)
  refine aK (Iv b8.1) y4 (aN (Iv b8.1) y4 (On (bI z1 z1 ⟨aX.sc,J⟩ ⟨dB.gG jq,J⟩)))
theorem TT (a:aH) (k:Int):FT Try.prog (yD a k) 36 [.agg [iC a.Graph.aC,lo 0 a.Graph.aB.length,lo 1 a.Places.length],.c (iC k)] [(0,pR 96 aG a.Graph.aB),(1,pR 82 aI a.Places)] (fun (t:(Int × (List aQ) × (List aO))) => [.c (iC t.1)]) (fun (t:(Int × (List aQ) × (List aO))) => [(0,pR 96 aG t.2.1),(1,pR 82 aI t.2.2)]) []:=by
 refine FT.of [0,1] Try.func36 Try.ntmps36 Q y2 ?_
 intro w0 U0 R0 g0
 unfold yD
 refine Ws (Wr ?_)
 refine eU 21 (.agg [iC a.Graph.aC,lo 0 a.Graph.aB.length,lo 1 a.Places.length]) dI y5 (aN (Iv 0) aV (On (Ws (Wr ?_))))
 refine aT (LT.dO Q gm) Q Q Q (eY (fB [iC a.Graph.aC,lo 0 a.Graph.aB.length] Q kN jW gU) Q Q Q Q (aK (Iv k) y4 (ay fun r1 hr1 => (aS.step (iF [.agg [iC a.Graph.aC,lo 0 a.Graph.aB.length],.c (iC k)] (Fw.Fn.ren [(0,0)] (TU a.Graph k r1 hr1) Q) MG (Jj y3) z1 y3) z3 z1 Q Q (aN (Iv r1.1) y4 (On (Ws ?_)))))))
 refine en [(1,Iv r1.1),(2,Cc (.pl 21 0))] [(0,pR 96 aG r1.2),(1,pR 82 aI a.Places),(21,.row 29 [[iC a.Graph.aC,lo 0 a.Graph.aB.length,lo 1 a.Places.length]])] z2 z3 (Wr (bg (lo 1 a.Places.length) iG iJ bG (aK (Iv r1.1) y4 (ay fun r2 hr2 => (aS.step (iF [.c (lo 1 a.Places.length),.c (iC r1.1)] (Fw.Fn.ren [(0,1)] (KE a.Places r1.1 r2 hr2) Q) Fb (mV y2) z1 y3) z3 z1 Q Q (aN (Iv r2.1) y4 (On (Ws (Wr ?_)))))))))
 refine aK (Iv r2.1) y4 (aN (Iv r2.1) y4 (On (bI z1 z2 ⟨aX.sc,J⟩ ⟨dB.gG jR,dB.gG jq,J⟩)))
theorem TS (a:(List aO)) (k:Int):FT Try.prog (yC a k) 110 [.c (xF aI a),.c (iC k)] [] (fun (t:Int) => [.c (iC t)]) (fun (t:Int) => []) []:=by
 refine FT.of [] Try.func110 Try.ntmps110 Q y2 ?_
 intro w0 U0 R0 g0
 unfold yC
 refine Ws (Wr ?_)
 refine aN (Iv 0) aV (On (Ws (Ws (Wr ?_))))
 refine aN (Iv 0) aV (On (aA.block ?_))
 refine aA.kU (id:=0) (uq a) (fun s1 => ([(0,Cc (xF aI a)),(1,Iv s1.1),(5,Iv s1.2)],[])) (fun b12 => ([(1,Iv b12)],[])) (dm Try.prog Try.f110.results.toList [] [] (fun (t:Int) => [.c (iC t)]) (fun (t:Int) => [])) ?_ (aU.of z3 J) Q (fun b12 _ => ?_) kT
 ·intro s1
  unfold uq
  refine Ws (Ws (Wr ?_))
  refine aK (Iv s1.2) y4 (aK (Cc (xF aI a)) y4 (aT (LT.dn Q lN) Q Q Q (ah LT.lss y5 (On (aA.cond Q (fun hc13 => ?_) (fun hc13 => ?_))))))
  ·refine aA.skip (Ws (aA.block (Ws (Ws (Wr ?_)))))
   refine aK (Cc (xF aI a)) y4 (aK (Iv s1.2) y4 (ay fun x14 nP => (dF (LT.dW (enc:=aI) Q iw nP eG) Q Q Q Q (aT (LT.jw Q lU) Q Q Q (aT (LT.jk Q bD) Q Q Q (aK (Iv s1.1) y4 (ah LT.neq y5 (On (aA.cond Q (fun nN => ?_) (fun nN => ?_))))))))))
   ·refine Ws (en [] [] J J (Wr (aN (Iv (-1)) aV (On (aA.ret ⟨Q,jc z1 J ⟨aX.sc,J⟩ J⟩)))))
   ·refine aA.skip (Ws ?_)
    refine en [(0,Cc (xF aI a)),(1,Iv s1.1),(5,Iv s1.2)] [] z3 J (Wr (aK (Iv s1.1) y4 (ah LT.add ak (aN (Iv (aJ (s1.1 + 1))) y4 (On (Ws (Ws (Wr ?_))))))))
    refine aK (Cc (xF aI a)) y4 (aK (Iv s1.2) y4 (ay fun x16 hx16 => (dF (LT.dW (enc:=aI) Q iw hx16 eG) Q Q Q Q (aT (LT.jw Q lV) Q Q Q (aT (LT.jk Q bD) Q Q Q (aK (Iv (aJ (s1.1 + 1))) y4 (ah LT.neq y5 (On (aA.cond Q (fun hc17 => ?_) (fun hc17 => ?_))))))))))
    ·refine Ws (Wr ?_)
     refine aN (Iv (-1)) aV (On (aA.ret ⟨Q,jc z1 J ⟨aX.sc,J⟩ J⟩))
    ·refine aA.skip (Wr ?_)
     refine aK (Iv (aJ (s1.1 + 1))) y4 (ah LT.add ak (aN (Iv (aJ ((aJ (s1.1 + 1)) + 1))) y4 (On (aA.blk ?_))))
     refine en [(0,Cc (xF aI a)),(1,Iv (aJ ((aJ (s1.1 + 1)) + 1))),(5,Iv s1.2)] [] z3 J (Wr (aK (Iv s1.2) y4 (ah LT.add ak (aN (Iv (aJ (s1.2 + 1))) y4 (On (bK Q z3 J))))))
  ·refine ig y2 z1 J
 ·refine Ws (Wr ?_)
  refine aK (Iv b12) y4 (aN (Iv b12) y4 (On (bI z1 J ⟨aX.sc,J⟩ J)))
theorem KC (a:(List aH)) (k:Int):FT Try.prog (um a k) 38 [.c (xF (bW false) a),.c (iC k)] [] (fun (t:Int) => [.c (iC t)]) (fun (t:Int) => []) []:=by
 refine FT.of [] Try.func38 Try.ntmps38 Q y2 ?_
 intro w0 U0 R0 g0
 unfold um
 refine Ws (Wr ?_)
 refine aN (Iv 0) aV (On (Ws (Ws (Wr ?_))))
 refine aN (Iv 0) aV (On (aA.block ?_))
 refine aA.kU (id:=0) (uo a) (fun s1 => ([(0,Cc (xF (bW false) a)),(1,Iv s1.1),(5,Iv s1.2)],[])) (fun b20 => ([(1,Iv b20)],[])) (dm Try.prog Try.f38.results.toList [] [] (fun (t:Int) => [.c (iC t)]) (fun (t:Int) => [])) ?_ (aU.of z3 J) Q (fun b20 _ => ?_) kT
 ·intro s1
  unfold uo
  refine Ws (Ws (Wr ?_))
  refine aK (Iv s1.2) y4 (aK (Cc (xF (bW false) a)) y4 (aT (LT.dn Q mr) Q Q Q (ah LT.lss y5 (On (aA.cond Q (fun hc21 => ?_) (fun hc21 => ?_))))))
  ·refine aA.skip (Ws (aA.block (Ws (Ws (Wr ?_)))))
   refine aK (Cc (xF (bW false) a)) y4 (aK (Iv s1.2) y4 (ay fun nC Dl => (dF (LT.dW (enc:=(bW false)) Q qK Dl dI) Q Q Q Q (aT (LT.jw Q gm) Q Q Q (aT (LT.jw Q jD) Q Q Q (aT (LT.jk Q bD) Q Q Q (aK (Iv s1.1) y4 (ah LT.neq y5 (On (aA.cond Q (fun OE => ?_) (fun OE => ?_)))))))))))
   ·refine Ws (en [] [] J J (Wr (aN (Iv (-1)) aV (On (aA.ret ⟨Q,jc z1 J ⟨aX.sc,J⟩ J⟩)))))
   ·refine aA.skip (Ws ?_)
    refine en [(0,Cc (xF (bW false) a)),(1,Iv s1.1),(5,Iv s1.2)] [] z3 J (Wr (aK (Iv s1.1) y4 (ah LT.add ak (aN (Iv (aJ (s1.1 + 1))) y4 (On (Ws (Wr ?_)))))))
    refine aK (Cc (xF (bW false) a)) y4 (aK (Iv s1.2) y4 (ay fun x24 hx24 => (dF (LT.dW (enc:=(bW false)) Q qK hx24 dI) Q Q Q Q (aT (LT.jw Q gm) Q Q Q (aT (LT.jw Q fZ) Q Q Q (aT (LT.jk Q gK) Q Q Q (aK (Iv (aJ (s1.1 + 1))) y4 (ay fun r25 O1 => (jC [.c (xF aG x24.Graph.aB),.c (iC (aJ (s1.1 + 1)))] (TR x24.Graph.aB (aJ (s1.1 + 1)) r25 O1) MH (mV y2) y5 z3 (aN (Iv r25) y4 (On (Ws (Ws ?_)))))))))))))
    refine en [(0,Cc (xF (bW false) a)),(1,Iv r25),(5,Iv s1.2)] [] z3 J (Wr (aK (Iv r25) y4 (ah LT.lss ak (On (aA.cond Q (fun OG => ?_) (fun OG => ?_))))))
    ·refine Ws (Wr ?_)
     refine aN (Iv (-1)) aV (On (aA.ret ⟨Q,jc z1 J ⟨aX.sc,J⟩ J⟩))
    ·refine aA.skip (Ws (Wr ?_))
     refine aK (Cc (xF (bW false) a)) y4 (aK (Iv s1.2) y4 (ay fun x27 hx27 => (dF (LT.dW (enc:=(bW false)) Q qK hx27 dI) Q Q Q Q (aT (LT.jw Q iG) Q Q Q (aT (LT.jk Q iJ) Q Q Q (aK (Iv r25) y4 (ay fun r28 O4 => (jC [.c (xF aI x27.Places),.c (iC r25)] (TS x27.Places r25 r28 O4) LM (mV y2) y5 z3 (aN (Iv r28) y4 (On (Ws (Wr ?_))))))))))))
     refine aK (Iv r28) y4 (ah LT.lss ak (On (aA.cond Q (fun hc29 => ?_) (fun hc29 => ?_))))
     ·refine Ws (en [] [] J J (Wr (aN (Iv (-1)) aV (On (aA.ret ⟨Q,jc z1 J ⟨aX.sc,J⟩ J⟩)))))
     ·refine aA.skip (aA.blk ?_)
      refine en [(0,Cc (xF (bW false) a)),(1,Iv r28),(5,Iv s1.2)] [] z3 J (Wr (aK (Iv s1.2) y4 (ah LT.add ak (aN (Iv (aJ (s1.2 + 1))) y4 (On (bK Q z3 J))))))
  ·refine ig y2 z1 J
 ·refine Ws (Wr ?_)
  refine aK (Iv b20) y4 (aN (Iv b20) y4 (On (bI z1 J ⟨aX.sc,J⟩ J)))
def bQ (xs:List aH):List (Int × Nat × Nat):=xs.map fun f => (f.Graph.aC, f.Graph.aB.length, f.Places.length)
def cO (xs:List aH):List (List aQ):=xs.map fun f => f.Graph.aB
def dD (xs:List aH):List (List aO):=xs.map fun f => f.Places
theorem wU (xs:List aH):(bQ xs).length = xs.length:=by simp [bQ]
theorem FW (xs:List aH):(cO xs).length = (bQ xs).length:=by simp [bQ, cO]
theorem JM (xs:List aH):(dD xs).length = (bQ xs).length:=by simp [bQ, dD]
theorem Kz (xs:List aH) (f:aH):cO xs ++ [f.Graph.aB] = cO (xs ++ [f]):=by simp [cO]
theorem RN (xs:List aH) (f:aH):dD xs ++ [f.Places] = dD (xs ++ [f]):=by simp [dD]
theorem NM (xs:List aH) (f:aH):dU 8 9 (bQ xs) ++ [[(iC f.Graph.aC), .tl 8 (cO xs).length 0 f.Graph.aB.length, .tl 9 (dD xs).length 0 f.Places.length]] = dU 8 9 (bQ (xs ++ [f])):=by
  have:=NT 8 9 (bQ xs) f.Graph.aC f.Graph.aB.length f.Places.length _ _ (FW xs) (JM xs)
  rw [show bQ (xs ++ [f]) = bQ xs ++ [(f.Graph.aC, f.Graph.aB.length, f.Places.length)] by simp [bQ]]
  exact this
theorem Qw (oM:(aH → Int → aH → (List aH) → Option ((List aQ) × (List aO) × aH × (List aH)))) (hrec:∀ (x:aH) (v:Int) (dV:aH) (dX:(List aH)), ∀ t, oM x v dV dX = some t → Fw.Fn Try.prog 106 [(.agg [(iC x.Graph.aC), (lo 0 x.Graph.aB.length), (lo 1 x.Places.length)]), (.c (iC v)), (.c (.pl 2 0)), (.c (.pl 3 0)), (.c (.pl 4 0))] [(0, (pR 96 aG x.Graph.aB)), (1, (pR 82 aI x.Places)), (2, (.row 29 [[(iC dV.Graph.aC), (lo 5 dV.Graph.aB.length), (lo 6 dV.Places.length)]])), (3, (.row 55 [[(lo 7 dX.length)]])), (4, (.row 104 [[(.fn 106 [2, 3, 4])]])), (5, (pR 96 aG dV.Graph.aB)), (6, (pR 82 aI dV.Places)), (7, (.ax 29 8 9 (bQ dX))), (8, (.pool 96 (rowsOf aG (cO dX)))), (9, (.pool 82 (rowsOf aI (dD dX))))] (jv []) [(0, (pR 96 aG t.1)), (1, (pR 82 aI t.2.1)), (2, (.row 29 [[(iC t.2.2.1.Graph.aC), (lo 5 t.2.2.1.Graph.aB.length), (lo 6 t.2.2.1.Places.length)]])), (3, (.row 55 [[(lo 7 t.2.2.2.length)]])), (4, (.row 104 [[(.fn 106 [2, 3, 4])]])), (5, (pR 96 aG t.2.2.1.Graph.aB)), (6, (pR 82 aI t.2.2.1.Places)), (7, (.ax 29 8 9 (bQ t.2.2.2))), (8, (.pool 96 (rowsOf aG (cO t.2.2.2)))), (9, (.pool 82 (rowsOf aI (dD t.2.2.2))))] [0, 1, 2, 3, 4, 5, 6, 7, 8, 9] [7, 8, 9]) (x:aH) (v:Int) (dV:aH) (dX:(List aH)):∀ t, pU oM x v dV dX = some t → Fw.Fn Try.prog 106 [(.agg [(iC x.Graph.aC), (lo 0 x.Graph.aB.length), (lo 1 x.Places.length)]), (.c (iC v)), (.c (.pl 2 0)), (.c (.pl 3 0)), (.c (.pl 4 0))] [(0, (pR 96 aG x.Graph.aB)), (1, (pR 82 aI x.Places)), (2, (.row 29 [[(iC dV.Graph.aC), (lo 5 dV.Graph.aB.length), (lo 6 dV.Places.length)]])), (3, (.row 55 [[(lo 7 dX.length)]])), (4, (.row 104 [[(.fn 106 [2, 3, 4])]])), (5, (pR 96 aG dV.Graph.aB)), (6, (pR 82 aI dV.Places)), (7, (.ax 29 8 9 (bQ dX))), (8, (.pool 96 (rowsOf aG (cO dX)))), (9, (.pool 82 (rowsOf aI (dD dX))))] (jv []) [(0, (pR 96 aG t.1)), (1, (pR 82 aI t.2.1)), (2, (.row 29 [[(iC t.2.2.1.Graph.aC), (lo 5 t.2.2.1.Graph.aB.length), (lo 6 t.2.2.1.Places.length)]])), (3, (.row 55 [[(lo 7 t.2.2.2.length)]])), (4, (.row 104 [[(.fn 106 [2, 3, 4])]])), (5, (pR 96 aG t.2.2.1.Graph.aB)), (6, (pR 82 aI t.2.2.1.Places)), (7, (.ax 29 8 9 (bQ t.2.2.2))), (8, (.pool 96 (rowsOf aG (cO t.2.2.2)))), (9, (.pool 82 (rowsOf aI (dD t.2.2.2))))] [0, 1, 2, 3, 4, 5, 6, 7, 8, 9] [7, 8, 9]:=by
 refine Fw.Fn.of (P:=Try.prog) (X:=[7, 8, 9]) (pn:=[0, 1, 2, 5, 6, 3, 4]) (rs:=(fun (t:((List aQ) × (List aO) × aH × (List aH))) => [])) (dL:=(fun (t:((List aQ) × (List aO) × aH × (List aH))) => [(0, (pR 96 aG t.1)), (1, (pR 82 aI t.2.1)), (2, (.row 29 [[(iC t.2.2.1.Graph.aC), (lo 5 t.2.2.1.Graph.aB.length), (lo 6 t.2.2.1.Places.length)]])), (3, (.row 55 [[(lo 7 t.2.2.2.length)]])), (4, (.row 104 [[(.fn 106 [2, 3, 4])]])), (5, (pR 96 aG t.2.2.1.Graph.aB)), (6, (pR 82 aI t.2.2.1.Places)), (7, (.ax 29 8 9 (bQ t.2.2.2))), (8, (.pool 96 (rowsOf aG (cO t.2.2.2)))), (9, (.pool 82 (rowsOf aI (dD t.2.2.2))))])) Try.func106 rfl Try.ntmps106 (Nat.le_of_ble_eq_true rfl) rfl ?_
 intro w0 U0 R0 g0
 unfold pU
 refine Ws (Wr ?_)
 refine qw (LT.box (n:=21) (v:=(.agg [(iC x.Graph.aC), (lo 0 x.Graph.aB.length), (lo 1 x.Places.length)])) rfl dI (by exact rfl)) rfl rfl rfl ?_
 refine On (Ws (Ws (Wr ?_)))
 refine mv (Iv v) rfl rfl rfl rfl ?_
 refine aT (LT.dO rfl gm) rfl rfl rfl ?_
 refine aT (LT.dO rfl jD) rfl rfl rfl ?_
 refine eY (LT.l9 (c:=(iC x.Graph.aC)) rfl bD (by exact rfl)) rfl rfl rfl rfl ?_
 refine dF (LT.geq rfl) rfl rfl rfl rfl ?_
 refine On ?_
 refine aA.cond rfl (fun hc1 => ?_) (fun hc1 => ?_)
 ·refine Ws (Ws (Wr ?_))
  refine eY (LT.kV (out:=[(iC dV.Graph.aC), (lo 5 dV.Graph.aB.length), (lo 6 dV.Places.length)]) rfl gX (gB fG) dI (by exact rfl) (by exact rfl)) rfl rfl rfl rfl ?_
  refine eY (LT.kV (out:=[(iC x.Graph.aC), (lo 0 x.Graph.aB.length), (lo 1 x.Places.length)]) rfl gX (gB fG) dI (by exact rfl) (by exact rfl)) rfl rfl rfl rfl ?_
  refine ay fun r2 hr2 => ?_
  refine aS.pure (@LT.iR Try.prog _ _ 59 _ _ [(.agg [(iC dV.Graph.aC), (lo 5 dV.Graph.aB.length), (lo 6 dV.Places.length)]), (.agg [(iC x.Graph.aC), (lo 0 x.Graph.aB.length), (lo 1 x.Places.length)])] _ _ [(5, (pR 96 aG dV.Graph.aB)), (6, (pR 82 aI dV.Places)), (0, (pR 96 aG x.Graph.aB)), (1, (pR 82 aI x.Places))] _ _ _ _ (S9 dV x r2 hr2) rfl MI (.cons (.agg (.cons (.same rfl) (.cons (.iZ rfl rfl) (.cons (.iZ rfl rfl) .nil)))) (.cons (.agg (.cons (.same rfl) (.cons (.iZ rfl rfl) (.cons (.iZ rfl rfl) .nil)))) .nil)) rfl rfl trivial) ⟨rfl, rfl, rfl, trivial⟩ ⟨rfl, rfl, rfl, rfl, trivial⟩ rfl rfl ?_
  refine On ?_
  refine aA.iU (fun j6 => ([], [(0, (pR 96 aG x.Graph.aB)), (1, (pR 82 aI x.Places)), (2, (.row 29 [[(iC dV.Graph.aC), (lo 5 dV.Graph.aB.length), (lo 6 dV.Places.length)]])), (3, (.row 55 [[(lo 7 j6.length)]])), (4, (.row 104 [[(.fn 106 [2, 3, 4])]])), (5, (pR 96 aG dV.Graph.aB)), (6, (pR 82 aI dV.Places)), (7, (.ax 29 8 9 (bQ j6))), (8, (.pool 96 (rowsOf aG (cO j6)))), (9, (.pool 82 (rowsOf aI (dD j6))))])) ?_ (fun j6 _ => ?_)
  ·refine aA.cond rfl (fun OU => ?_) (fun OU => ?_)
   ·refine en [(3, (Cc (.pl 3 0))), (5, (Cc (.pl 21 0)))] [(0, (pR 96 aG x.Graph.aB)), (1, (pR 82 aI x.Places)), (2, (.row 29 [[(iC dV.Graph.aC), (lo 5 dV.Graph.aB.length), (lo 6 dV.Places.length)]])), (3, (.row 55 [[(lo 7 dX.length)]])), (4, (.row 104 [[(.fn 106 [2, 3, 4])]])), (5, (pR 96 aG dV.Graph.aB)), (6, (pR 82 aI dV.Places)), (7, (.ax 29 8 9 (bQ dX))), (8, (.pool 96 (rowsOf aG (cO dX)))), (9, (.pool 82 (rowsOf aI (dD dX)))), (21, (.row 29 [[(iC x.Graph.aC), (lo 0 x.Graph.aB.length), (lo 1 x.Places.length)]]))] ⟨rfl, rfl, trivial⟩ ⟨rfl, rfl, rfl, rfl, rfl, rfl, rfl, rfl, rfl, rfl, rfl, trivial⟩ ?_
    refine aA.draw mixed ?_
    refine gV (LT.l9 (c:=(lo 7 dX.length)) rfl FM (by exact rfl)) rfl rfl rfl rfl ?_
    refine gV (LT.kV (out:=[(iC x.Graph.aC), (lo 0 x.Graph.aB.length), (lo 1 x.Places.length)]) rfl gX (gB fG) dI (by exact rfl) (by exact rfl)) rfl rfl rfl rfl ?_
    refine aP.bind fun r8 DY => ?_
    refine aP.step (@LT.iR Try.prog _ _ 107 _ _ [(.agg [(iC x.Graph.aC), (lo 0 x.Graph.aB.length), (lo 1 x.Places.length)])] _ _ [(0, (pR 96 aG x.Graph.aB)), (1, (pR 82 aI x.Places))] _ _ _ _ ((show Fw.Fn Try.prog 107 [(.agg [(iC x.Graph.aC), (xF aG x.Graph.aB), (xF aI x.Places)])] [] (Ag  [(iC r8.Graph.aC), (lo 24 r8.Graph.aB.length), (lo 25 r8.Places.length)]) [(24, (pR 96 aG r8.Graph.aB)), (25, (pR 82 aI r8.Places))] [] [24, 25] from Fw.Fn.ren [(0, 24), (1, 25)] (J9 x r8 DY) rfl)) rfl Fa (.cons (.agg (.cons (.same rfl) (.cons (.iZ rfl rfl) (.cons (.iZ rfl rfl) .nil)))) .nil) rfl rfl trivial) ⟨rfl, rfl, trivial⟩ ⟨rfl, rfl, trivial⟩ rfl rfl ?_
    refine KQ (LT.buildSlice (n:=26) [(0, .tmp 19, (.agg [(iC r8.Graph.aC), (lo 24 r8.Graph.aB.length), (lo 25 r8.Places.length)]))] (els:=[[(iC r8.Graph.aC), (lo 24 r8.Graph.aB.length), (lo 25 r8.Places.length)]]) rfl rfl mr ku rfl rfl rfl rfl (by decide) rfl rfl) rfl rfl rfl ?_
    refine aP.bind fun u9 PW => ?_
    refine KR (LT.NP (p:=8) (q:=9) (fs:=bQ dX) (dM:=[[(iC r8.Graph.aC), (lo 24 r8.Graph.aB.length), (lo 25 r8.Places.length)]]) (wU dX).symm rfl rfl mr ku rfl (by decide) (by decide) rfl (by rw [wU]; exact qN PW)) rfl rfl rfl rfl rfl rfl ?_
    refine nD (LT.tX (v:=(.c (lo 7 (dX.length + 1)))) (out:=[(lo 7 (dX.length + 1))]) rfl rfl (gB Hu) Jr (by exact rfl) (by exact Nat.le_of_ble_eq_true rfl) (by exact rfl)) rfl rfl rfl rfl rfl ?_
    refine aP.nil (by kernel_rfl) ?_
    refine aA.ent (aU.Rj (n:=7) (cells2:=dU 8 9 (bQ dX) ++ [[(iC r8.Graph.aC), (lo 24 r8.Graph.aB.length), (lo 25 r8.Places.length)]]) (QS _) rfl) ?_
    refine aA.ent (aU.FC (n:=7) (m:=24) (p:=8) (e:=29) (e2:=96) (enc:=aG) (rows:=cO dX) (r:=r8.Graph.aB) (cells:=dU 8 9 (bQ dX)) (a:=[(iC r8.Graph.aC)]) (b:=[(lo 25 r8.Places.length)]) rfl rfl rfl rfl rfl (NQ (FW dX) rfl) (by intro y hy; simp only [List.cons_append, List.nil_append, List.mem_cons, List.not_mem_nil, or_false] at hy; rcases hy with rfl | rfl <;> rfl)) ?_
    refine aA.ent (aU.FC (n:=7) (m:=25) (p:=9) (e:=29) (e2:=82) (enc:=aI) (rows:=dD dX) (r:=r8.Places) (cells:=dU 8 9 (bQ dX)) (a:=[(iC r8.Graph.aC), (.tl 8 (cO dX).length 0 r8.Graph.aB.length)]) (b:=[]) rfl rfl rfl rfl rfl (NR (JM dX) rfl) (by intro y hy; simp only [List.append_nil, List.mem_cons, List.not_mem_nil, or_false] at hy; rcases hy with rfl | rfl <;> rfl)) ?_
    refine aA.ent (aU.ax (n:=7) (p:=8) (q:=9) (fs:=bQ (dX ++ [r8])) (NM dX r8) rfl) ?_
    refine aA.nil ⟨rfl, aU.of trivial ⟨rfl, rfl, rfl, (congrArg (fun l => (some (Ob.row 55 [[(lo 7 l)]]):Option Ob)) QY), rfl, rfl, rfl, rfl, (congrArg (fun z => (some (Ob.pool 96 (rowsOf aG z)):Option Ob)) (Kz dX r8)), (congrArg (fun z => (some (Ob.pool 82 (rowsOf aI z)):Option Ob)) (RN dX r8)), trivial⟩⟩
   ·refine aA.skip ?_
    refine aA.nil ⟨rfl, aU.of trivial ⟨rfl, rfl, rfl, rfl, rfl, rfl, rfl, rfl, rfl, rfl, trivial⟩⟩
  ·refine aA.ret (dm.mk (.inr rfl) trivial ⟨rfl, rfl, rfl, rfl, rfl, rfl, rfl, rfl, rfl, rfl, trivial⟩ rfl trivial ⟨dB.gG jR, dB.gG jq, dB.vY ⟨aX.sc, trivial, trivial, trivial⟩, dB.vY ⟨trivial, trivial⟩, dB.vY ⟨trivial, trivial⟩, dB.gG jR, dB.gG jq, trivial, dB.oJ jR _, dB.oJ jq _, trivial⟩)
 ·refine aA.skip (Ws (Wr ?_))
  refine mv (Iv 0) rfl ⟨rfl, rfl⟩ rfl rfl ?_
  refine On (aA.block ?_)
  refine aA.mJ (id:=0) (uV x v oM) (fun s10 => ([(1, (Iv v)), (4, (Cc (.pl 4 0))), (5, (Cc (.pl 21 0))), (22, (Iv s10.1))], [(0, (pR 96 aG s10.2.1)), (1, (pR 82 aI s10.2.2.1)), (2, (.row 29 [[(iC s10.2.2.2.1), (lo 5 s10.2.2.2.2.1.length), (lo 6 s10.2.2.2.2.2.1.length)]])), (3, (.row 55 [[(lo 7 s10.2.2.2.2.2.2.length)]])), (4, (.row 104 [[(.fn 106 [2, 3, 4])]])), (5, (pR 96 aG s10.2.2.2.2.1)), (6, (pR 82 aI s10.2.2.2.2.2.1)), (7, (.ax 29 8 9 (bQ s10.2.2.2.2.2.2))), (8, (.pool 96 (rowsOf aG (cO s10.2.2.2.2.2.2)))), (9, (.pool 82 (rowsOf aI (dD s10.2.2.2.2.2.2)))), (21, (.row 29 [[(iC x.Graph.aC), (lo 0 s10.2.1.length), (lo 1 s10.2.2.1.length)]]))])) (fun ji => ([], [(0, (pR 96 aG ji.1)), (1, (pR 82 aI ji.2.1)), (2, (.row 29 [[(iC ji.2.2.1), (lo 5 ji.2.2.2.1.length), (lo 6 ji.2.2.2.2.1.length)]])), (3, (.row 55 [[(lo 7 ji.2.2.2.2.2.length)]])), (4, (.row 104 [[(.fn 106 [2, 3, 4])]])), (5, (pR 96 aG ji.2.2.2.1)), (6, (pR 82 aI ji.2.2.2.2.1)), (7, (.ax 29 8 9 (bQ ji.2.2.2.2.2))), (8, (.pool 96 (rowsOf aG (cO ji.2.2.2.2.2)))), (9, (.pool 82 (rowsOf aI (dD ji.2.2.2.2.2))))])) ?_ (aU.of ⟨rfl, rfl, rfl, rfl, trivial⟩ ⟨rfl, rfl, rfl, rfl, rfl, rfl, rfl, rfl, rfl, rfl, rfl, trivial⟩) rfl (fun ji _ => ?_)
  ·intro s10
   unfold uV
   refine Ws (Wr ?_)
   refine dF (LT.lss rfl) rfl ⟨rfl, rfl⟩ rfl rfl ?_
   refine On (Ws ?_)
   refine aA.cond rfl (fun Cb => ?_) (fun Cb => ?_)
   ·refine aA.skip (Ws (aA.block (Ws (Wr ?_))))
    refine mv (Iv s10.1) rfl rfl rfl rfl ?_
    refine dw (Iv s10.1) rfl rfl rfl rfl ?_
    refine On (Ws (Wr ?_))
    refine mv (Iv 0) rfl ⟨rfl, rfl⟩ rfl rfl ?_
    refine On (aA.block ?_)
    refine aA.mJ (id:=2) (rW x v s10 oM) (fun af => ([(1, (Iv v)), (4, (Cc (.pl 4 0))), (5, (Cc (.pl 21 0))), (7, (Iv s10.1)), (22, (Iv s10.1)), (25, (Iv af.1))], [(0, (pR 96 aG af.2.1)), (1, (pR 82 aI af.2.2.1)), (2, (.row 29 [[(iC af.2.2.2.1), (lo 5 af.2.2.2.2.1.length), (lo 6 af.2.2.2.2.2.1.length)]])), (3, (.row 55 [[(lo 7 af.2.2.2.2.2.2.length)]])), (4, (.row 104 [[(.fn 106 [2, 3, 4])]])), (5, (pR 96 aG af.2.2.2.2.1)), (6, (pR 82 aI af.2.2.2.2.2.1)), (7, (.ax 29 8 9 (bQ af.2.2.2.2.2.2))), (8, (.pool 96 (rowsOf aG (cO af.2.2.2.2.2.2)))), (9, (.pool 82 (rowsOf aI (dD af.2.2.2.2.2.2)))), (21, (.row 29 [[(iC x.Graph.aC), (lo 0 af.2.1.length), (lo 1 af.2.2.1.length)]]))])) (fun fA => ([(1, (Iv v)), (4, (Cc (.pl 4 0))), (5, (Cc (.pl 21 0))), (22, (Iv fA.1))], [(0, (pR 96 aG fA.2.1)), (1, (pR 82 aI fA.2.2.1)), (2, (.row 29 [[(iC fA.2.2.2.1), (lo 5 fA.2.2.2.2.1.length), (lo 6 fA.2.2.2.2.2.1.length)]])), (3, (.row 55 [[(lo 7 fA.2.2.2.2.2.2.length)]])), (4, (.row 104 [[(.fn 106 [2, 3, 4])]])), (5, (pR 96 aG fA.2.2.2.2.1)), (6, (pR 82 aI fA.2.2.2.2.2.1)), (7, (.ax 29 8 9 (bQ fA.2.2.2.2.2.2))), (8, (.pool 96 (rowsOf aG (cO fA.2.2.2.2.2.2)))), (9, (.pool 82 (rowsOf aI (dD fA.2.2.2.2.2.2)))), (21, (.row 29 [[(iC x.Graph.aC), (lo 0 fA.2.1.length), (lo 1 fA.2.2.1.length)]]))])) ?_ (aU.of ⟨rfl, rfl, rfl, rfl, rfl, rfl, trivial⟩ ⟨rfl, rfl, rfl, rfl, rfl, rfl, rfl, rfl, rfl, rfl, rfl, trivial⟩) rfl (fun fA _ => ?_)
    ·intro af
     unfold rW
     refine Ws (Wr ?_)
     refine dF (LT.lss rfl) rfl ⟨rfl, rfl⟩ rfl rfl ?_
     refine On (Ws ?_)
     refine aA.cond rfl (fun hc39 => ?_) (fun hc39 => ?_)
     ·refine aA.skip (Ws (aA.block (Ws (Wr ?_))))
      refine mv (Iv af.1) rfl rfl rfl rfl ?_
      refine dw (Iv af.1) rfl rfl rfl rfl ?_
      refine On (Ws (Wr ?_))
      refine aT (LT.dO rfl iG) rfl rfl rfl ?_
      refine eY (LT.l9 (c:=(lo 1 af.2.2.1.length)) rfl iJ (by exact rfl)) rfl rfl rfl rfl ?_
      refine mv (Iv v) rfl rfl rfl rfl ?_
      refine mv (Iv af.1) rfl rfl rfl rfl ?_
      refine mv (Iv s10.1) rfl rfl rfl rfl ?_
      refine dF (LT.build [(0, .tmp 31, (.c (iC af.1))), (1, .tmp 32, (.c (iC s10.1)))] rfl rfl JK mY rfl rfl rfl) rfl rfl rfl rfl ?_
      refine ay fun x40 Ho => ?_
      refine nH (LT.ql rfl rfl iw Ho) rfl rfl rfl rfl rfl ?_
      refine gJ (LT.Jy (k:=0) (v:=(.agg [(iC af.1), (iC s10.1)])) (b':=(aO.mk af.1 s10.1)) rfl rfl (gB jX) eG (by exact rfl) Ho (by exact rfl) (by exact Nat.le_of_ble_eq_true rfl) (by exact rfl)) rfl rfl rfl rfl rfl ?_
      refine On ?_
      refine en [(1, (Iv v)), (4, (Cc (.pl 4 0))), (5, (Cc (.pl 21 0))), (7, (Iv s10.1)), (22, (Iv s10.1)), (25, (Iv af.1))] [(0, (pR 96 aG af.2.1)), (1, (pR 82 aI (af.2.2.1.set v.toNat (aO.mk af.1 s10.1)))), (2, (.row 29 [[(iC af.2.2.2.1), (lo 5 af.2.2.2.2.1.length), (lo 6 af.2.2.2.2.2.1.length)]])), (3, (.row 55 [[(lo 7 af.2.2.2.2.2.2.length)]])), (4, (.row 104 [[(.fn 106 [2, 3, 4])]])), (5, (pR 96 aG af.2.2.2.2.1)), (6, (pR 82 aI af.2.2.2.2.2.1)), (7, (.ax 29 8 9 (bQ af.2.2.2.2.2.2))), (8, (.pool 96 (rowsOf aG (cO af.2.2.2.2.2.2)))), (9, (.pool 82 (rowsOf aI (dD af.2.2.2.2.2.2)))), (21, (.row 29 [[(iC x.Graph.aC), (lo 0 af.2.1.length), (lo 1 af.2.2.1.length)]]))] ⟨rfl, rfl, rfl, rfl, rfl, rfl, trivial⟩ ⟨rfl, rfl, rfl, rfl, rfl, rfl, rfl, rfl, rfl, rfl, rfl, trivial⟩ ?_
      refine en [(1, (Iv v)), (4, (Cc (.pl 4 0))), (5, (Cc (.pl 21 0))), (7, (Iv s10.1)), (22, (Iv s10.1)), (25, (Iv af.1))] [(0, (pR 96 aG af.2.1)), (1, (pR 82 aI (af.2.2.1.set v.toNat (aO.mk af.1 s10.1)))), (2, (.row 29 [[(iC af.2.2.2.1), (lo 5 af.2.2.2.2.1.length), (lo 6 af.2.2.2.2.2.1.length)]])), (3, (.row 55 [[(lo 7 af.2.2.2.2.2.2.length)]])), (4, (.row 104 [[(.fn 106 [2, 3, 4])]])), (5, (pR 96 aG af.2.2.2.2.1)), (6, (pR 82 aI af.2.2.2.2.2.1)), (7, (.ax 29 8 9 (bQ af.2.2.2.2.2.2))), (8, (.pool 96 (rowsOf aG (cO af.2.2.2.2.2.2)))), (9, (.pool 82 (rowsOf aI (dD af.2.2.2.2.2.2)))), (21, (.row 29 [[(iC x.Graph.aC), (lo 0 af.2.1.length), (lo 1 ((af.2.2.1.set v.toNat (aO.mk af.1 s10.1)).length))]]))] ⟨rfl, rfl, rfl, rfl, rfl, rfl, trivial⟩ ⟨rfl, rfl, rfl, rfl, rfl, rfl, rfl, rfl, rfl, rfl, (congrArg (fun l1 => (some (Ob.row 29 [[(iC x.Graph.aC), (lo 0 af.2.1.length), (lo 1 l1)]]):Option Ob)) (show af.2.2.1.length = (af.2.2.1.set v.toNat (aO.mk af.1 s10.1)).length by simp only [List.length_set])), trivial⟩ ?_
      refine Wr ?_
      refine eY (LT.l9 (c:=(.fn 106 [2, 3, 4])) rfl FD (by exact rfl)) rfl rfl rfl rfl ?_
      refine eY (LT.kV (out:=[(iC x.Graph.aC), (lo 0 af.2.1.length), (lo 1 ((af.2.2.1.set v.toNat (aO.mk af.1 s10.1)).length))]) rfl gX (gB fG) dI (by exact rfl) (by exact rfl)) rfl rfl rfl rfl ?_
      refine mv (Iv v) rfl rfl rfl rfl ?_
      refine dF (LT.add rfl) rfl ⟨rfl, rfl⟩ rfl rfl ?_
      refine ay fun dh DU => ?_
      refine aS.step (LT.FY (P:=Try.prog) (f:=106) (xs:=[(.agg [(iC x.Graph.aC), (lo 0 af.2.1.length), (lo 1 ((af.2.2.1.set v.toNat (aO.mk af.1 s10.1)).length))]), (.c (iC (aJ (v + 1))))]) (sh:=[]) [2, 3, 4] [(.agg [(iC x.Graph.aC), (lo 0 af.2.1.length), (lo 1 ((af.2.2.1.set v.toNat (aO.mk af.1 s10.1)).length))]), (.c (iC (aJ (v + 1))))] ((show Fw.Fn Try.prog 106 [(.agg [(iC x.Graph.aC), (lo 0 af.2.1.length), (lo 1 ((af.2.2.1.set v.toNat (aO.mk af.1 s10.1)).length))]), (.c (iC (aJ (v + 1)))), (.c (.pl 2 0)), (.c (.pl 3 0)), (.c (.pl 4 0))] [(0, (pR 96 aG af.2.1)), (1, (pR 82 aI (af.2.2.1.set v.toNat (aO.mk af.1 s10.1)))), (2, (.row 29 [[(iC af.2.2.2.1), (lo 5 af.2.2.2.2.1.length), (lo 6 af.2.2.2.2.2.1.length)]])), (3, (.row 55 [[(lo 7 af.2.2.2.2.2.2.length)]])), (4, (.row 104 [[(.fn 106 [2, 3, 4])]])), (5, (pR 96 aG af.2.2.2.2.1)), (6, (pR 82 aI af.2.2.2.2.2.1)), (7, (.ax 29 8 9 (bQ af.2.2.2.2.2.2))), (8, (.pool 96 (rowsOf aG (cO af.2.2.2.2.2.2)))), (9, (.pool 82 (rowsOf aI (dD af.2.2.2.2.2.2))))] (.bV []) [(0, (pR 96 aG dh.1)), (1, (pR 82 aI dh.2.1)), (2, (.row 29 [[(iC dh.2.2.1.Graph.aC), (lo 5 dh.2.2.1.Graph.aB.length), (lo 6 dh.2.2.1.Places.length)]])), (3, (.row 55 [[(lo 7 dh.2.2.2.length)]])), (4, (.row 104 [[(.fn 106 [2, 3, 4])]])), (5, (pR 96 aG dh.2.2.1.Graph.aB)), (6, (pR 82 aI dh.2.2.1.Places)), (7, (.ax 29 8 9 (bQ dh.2.2.2))), (8, (.pool 96 (rowsOf aG (cO dh.2.2.2)))), (9, (.pool 82 (rowsOf aI (dD dh.2.2.2))))] [0, 1, 2, 3, 4, 5, 6, 7, 8, 9] [7, 8, 9] from Fw.Fn.ren [(0, 0), (1, 1), (2, 2), (3, 3), (4, 4), (5, 5), (6, 6), (7, 7), (8, 8), (9, 9)] (hrec (aH.mk (au.mk x.Graph.aC af.2.1) (af.2.2.1.set v.toNat (aO.mk af.1 s10.1))) (aJ (v + 1)) (aH.mk (au.mk af.2.2.2.1 af.2.2.2.2.1) af.2.2.2.2.2.1) af.2.2.2.2.2.2 dh DU) rfl)) rfl FZ (.cons (.agg (.cons (.same rfl) (.cons (.same rfl) (.cons (.same rfl) .nil)))) (.cons (.c (.same rfl)) .nil)) rfl rfl ⟨rfl, rfl, rfl, rfl, rfl, rfl, rfl, rfl, rfl, rfl, trivial⟩) ⟨rfl, rfl, rfl, trivial⟩ ⟨rfl, rfl, rfl, rfl, rfl, rfl, rfl, rfl, rfl, rfl, trivial⟩ rfl rfl ?_
      refine On (aA.blk (Wr ?_))
      refine dF (LT.add rfl) rfl ⟨rfl, rfl⟩ rfl rfl ?_
      refine mv (Iv (aJ (af.1 + 1))) rfl rfl rfl rfl ?_
      refine On ?_
      refine aA.bind fun u42 Di => ?_
      refine aA.bind fun Sj PS => ?_
      refine aA.nil ⟨rfl, aU.of ⟨rfl, rfl, rfl, rfl, rfl, rfl, trivial⟩ ⟨rfl, rfl, rfl, rfl, rfl, rfl, rfl, rfl, rfl, rfl, (congr (congrArg (fun l1 l2 => (some (Ob.row 29 [[(iC x.Graph.aC), (lo 0 l1), (lo 1 l2)]]):Option Ob)) (same_eq Di)) (same_eq PS)), trivial⟩⟩
     ·refine aA.qL rfl ⟨rfl, aU.of ⟨rfl, rfl, rfl, rfl, trivial⟩ ⟨rfl, rfl, rfl, rfl, rfl, rfl, rfl, rfl, rfl, rfl, rfl, trivial⟩⟩
    ·refine aA.blk (Wr ?_)
     refine dF (LT.add rfl) rfl ⟨rfl, rfl⟩ rfl rfl ?_
     refine mv (Iv (aJ (fA.1 + 1))) rfl rfl rfl rfl ?_
     refine On ?_
     refine aA.nil ⟨rfl, aU.of ⟨rfl, rfl, rfl, rfl, trivial⟩ ⟨rfl, rfl, rfl, rfl, rfl, rfl, rfl, rfl, rfl, rfl, rfl, trivial⟩⟩
   ·refine aA.qL rfl ⟨rfl, aU.of trivial ⟨rfl, rfl, rfl, rfl, rfl, rfl, rfl, rfl, rfl, rfl, trivial⟩⟩
  ·refine aA.nil (dm.mk (.inl rfl) trivial ⟨rfl, rfl, rfl, rfl, rfl, rfl, rfl, rfl, rfl, rfl, trivial⟩ rfl trivial ⟨dB.gG jR, dB.gG jq, dB.vY ⟨aX.sc, trivial, trivial, trivial⟩, dB.vY ⟨trivial, trivial⟩, dB.vY ⟨trivial, trivial⟩, dB.gG jR, dB.gG jq, trivial, dB.oJ jR _, dB.oJ jq _, trivial⟩)
theorem Ir:∀ (n:Nat) (x:aH) (v:Int) (dV:aH) (dX:(List aH)), ∀ t, mM n x v dV dX = some t → Fw.Fn Try.prog 106 [(.agg [(iC x.Graph.aC), (lo 0 x.Graph.aB.length), (lo 1 x.Places.length)]), (.c (iC v)), (.c (.pl 2 0)), (.c (.pl 3 0)), (.c (.pl 4 0))] [(0, (pR 96 aG x.Graph.aB)), (1, (pR 82 aI x.Places)), (2, (.row 29 [[(iC dV.Graph.aC), (lo 5 dV.Graph.aB.length), (lo 6 dV.Places.length)]])), (3, (.row 55 [[(lo 7 dX.length)]])), (4, (.row 104 [[(.fn 106 [2, 3, 4])]])), (5, (pR 96 aG dV.Graph.aB)), (6, (pR 82 aI dV.Places)), (7, (.ax 29 8 9 (bQ dX))), (8, (.pool 96 (rowsOf aG (cO dX)))), (9, (.pool 82 (rowsOf aI (dD dX))))] (jv []) [(0, (pR 96 aG t.1)), (1, (pR 82 aI t.2.1)), (2, (.row 29 [[(iC t.2.2.1.Graph.aC), (lo 5 t.2.2.1.Graph.aB.length), (lo 6 t.2.2.1.Places.length)]])), (3, (.row 55 [[(lo 7 t.2.2.2.length)]])), (4, (.row 104 [[(.fn 106 [2, 3, 4])]])), (5, (pR 96 aG t.2.2.1.Graph.aB)), (6, (pR 82 aI t.2.2.1.Places)), (7, (.ax 29 8 9 (bQ t.2.2.2))), (8, (.pool 96 (rowsOf aG (cO t.2.2.2)))), (9, (.pool 82 (rowsOf aI (dD t.2.2.2))))] [0, 1, 2, 3, 4, 5, 6, 7, 8, 9] [7, 8, 9]
  | 0, _, _, _, _ => fun _ h => by cases h
  | n + 1, x, v, dV, dX => Qw (mM n) (Ir n) x v dV dX
theorem Iq (f:aH):∀ t, uU f = some t → Fw.Fn Try.prog 33 [(.agg [(iC f.Graph.aC), (lo 0 f.Graph.aB.length), (lo 1 f.Places.length)])] [(0, (pR 96 aG f.Graph.aB)), (1, (pR 82 aI f.Places))] (jv [(.c (lo 2 t.1.length)), (.c (bC t.2.1))]) [(0, (pR 96 aG t.2.2.1)), (1, (pR 82 aI t.2.2.2)), (2, (.ax 29 3 4 (bQ t.1))), (3, (.pool 96 (rowsOf aG (cO t.1)))), (4, (.pool 82 (rowsOf aI (dD t.1))))] [0, 1] [2, 3, 4]:=by
 refine Fw.Fn.of (P:=Try.prog) (X:=[2, 3, 4]) (pn:=[0, 1]) (rs:=(fun (t:((List aH) × Bool × (List aQ) × (List aO))) => [(.c (lo 2 t.1.length)), (.c (bC t.2.1))])) (dL:=(fun (t:((List aH) × Bool × (List aQ) × (List aO))) => [(0, (pR 96 aG t.2.2.1)), (1, (pR 82 aI t.2.2.2)), (2, (.ax 29 3 4 (bQ t.1))), (3, (.pool 96 (rowsOf aG (cO t.1)))), (4, (.pool 82 (rowsOf aI (dD t.1))))])) Try.func33 rfl Try.ntmps33 (Nat.le_of_ble_eq_true rfl) rfl ?_
 intro w0 U0 R0 g0
 unfold uU
 refine Ws (Wr ?_)
 refine qw (LT.box (n:=21) (v:=(.agg [(iC f.Graph.aC), (lo 0 f.Graph.aB.length), (lo 1 f.Places.length)])) rfl dI (by exact rfl)) rfl rfl rfl ?_
 refine dw (Cc (sC fU)) rfl ⟨rfl, rfl⟩ rfl rfl ?_
 refine dw (Bv false) rfl ⟨rfl, rfl⟩ rfl rfl ?_
 refine On (Ws (Ws ?_))
 refine aA.iU (fun j3 => ([(1, (Cc (.pl 21 0))), (14, (Bv j3))], [(0, (pR 96 aG f.Graph.aB)), (1, (pR 82 aI f.Places)), (21, (.row 29 [[(iC f.Graph.aC), (lo 0 f.Graph.aB.length), (lo 1 f.Places.length)]]))])) ?_ (fun j3 _ => ?_)
 ·refine Wr ?_
  refine eY (LT.kV (out:=[(iC f.Graph.aC), (lo 0 f.Graph.aB.length), (lo 1 f.Places.length)]) rfl gX (gB fG) dI (by exact rfl) (by exact rfl)) rfl rfl rfl rfl ?_
  refine ay fun r4 hr4 => ?_
  refine aS.pure (@LT.iR Try.prog _ _ 54 _ _ [(.agg [(iC f.Graph.aC), (lo 0 f.Graph.aB.length), (lo 1 f.Places.length)])] _ _ [(0, (pR 96 aG f.Graph.aB)), (1, (pR 82 aI f.Places))] _ _ _ _ (BK f r4 hr4) rfl zT (.cons (.agg (.cons (.same rfl) (.cons (.iZ rfl rfl) (.cons (.iZ rfl rfl) .nil)))) .nil) rfl rfl trivial) ⟨rfl, rfl, trivial⟩ ⟨rfl, rfl, trivial⟩ rfl rfl ?_
  refine aT (LT.not rfl) rfl rfl rfl ?_
  refine mv (Bv (!r4)) rfl rfl rfl rfl ?_
  refine aS.split (fun hb5 => ?_) (fun hb5 => ?_)
  ·refine Ok rfl rfl rfl (by rw [hb5]; rfl) rfl ?_
   refine Ok rfl rfl rfl (by rw [hb5]; rfl) rfl ?_
   refine Ok rfl rfl rfl (by rw [hb5]; rfl) rfl ?_
   refine Ok rfl rfl rfl (by rw [hb5]; rfl) rfl ?_
   refine dF (LT.mQ (v:=(Bv true)) rfl hb5) rfl ⟨rfl, rfl⟩ rfl rfl ?_
   refine On ?_
   refine aA.nil ⟨rfl, aU.of ⟨rfl, rfl, trivial⟩ ⟨rfl, rfl, rfl, trivial⟩⟩
  ·refine aT (LT.dO rfl gm) rfl ⟨_, rfl, .inl ⟨_, rfl, (by rw [hb5]; rfl)⟩⟩ rfl ?_
   refine aT (LT.dO rfl jD) rfl ⟨_, rfl, .inl ⟨_, rfl, (by rw [hb5]; rfl)⟩⟩ rfl ?_
   refine eY (LT.l9 (c:=(iC f.Graph.aC)) rfl bD (by exact rfl)) rfl rfl ⟨_, rfl, .inl ⟨_, rfl, (by rw [hb5]; rfl)⟩⟩ rfl ?_
   refine dF (LT.gtr rfl) rfl ⟨rfl, rfl⟩ ⟨_, rfl, .inl ⟨_, rfl, (by rw [hb5]; rfl)⟩⟩ rfl ?_
   refine dF (LT.nT (v:=(Bv (decide (4 < f.Graph.aC)))) rfl hb5) rfl rfl rfl rfl ?_
   refine On ?_
   refine aA.nil ⟨rfl, aU.of ⟨rfl, rfl, trivial⟩ ⟨rfl, rfl, rfl, trivial⟩⟩
 ·refine aA.cond rfl (fun hc6 => ?_) (fun hc6 => ?_)
  ·refine Ws (Wr ?_)
   refine oP (LT.Eh (n:=23) (enc:=(bW true)) [] ([]:List aH) rfl rfl mr ku rfl rfl rfl rfl (by decide) (fun _ => rfl) rfl) rfl rfl ?_
   refine dw (Cc (lo 23 (([]:List aH).length))) rfl rfl rfl rfl ?_
   refine dw (Bv false) rfl ⟨rfl, rfl⟩ rfl rfl ?_
   refine On ?_
   refine en [(2, (Cc (lo 23 (([]:List aH).length)))), (3, (Bv false))] [(0, (pR 96 aG f.Graph.aB)), (1, (pR 82 aI f.Places)), (23, (pR 29 (bW true) ([]:List aH)))] ⟨rfl, rfl, trivial⟩ ⟨rfl, rfl, rfl, trivial⟩ ?_
   refine aA.ent (aU.mv 23 2 rfl rfl) ?_
   refine en [(2, (Cc (lo 2 (([]:List aH).length)))), (3, (Bv false))] [(0, (pR 96 aG f.Graph.aB)), (1, (pR 82 aI f.Places)), (2, (pR 29 (bW true) ([]:List aH)))] ⟨rfl, rfl, trivial⟩ ⟨rfl, rfl, rfl, trivial⟩ ?_
   refine aA.ent (aU.Ar 3 96 rfl) ?_
   refine aA.ent (aU.Ar 4 82 rfl) ?_
   refine aA.ent (aU.Gt (n:=2) (p:=3) (q:=4) (e:=29) rfl) ?_
   refine aA.ret (dm.mk (.inr rfl) ⟨rfl, rfl, trivial⟩ ⟨rfl, rfl, rfl, rfl, rfl, trivial⟩ rfl ⟨trivial, aX.sc, trivial⟩ ⟨dB.gG jR, dB.gG jq, trivial, dB.oJ jR _, dB.oJ jq _, trivial⟩)
  ·refine aA.skip (Ws (Wr ?_))
   refine oP (LT.Eh (n:=24) (enc:=(bW true)) [] ([]:List aH) rfl rfl mr ku rfl rfl rfl rfl (by decide) (fun _ => rfl) rfl) rfl rfl ?_
   refine oP (LT.alloc (n:=25) (cells:=[(sC fU)]) rfl SK rfl rfl rfl) rfl rfl ?_
   refine gJ (LT.tX (v:=(.c (lo 24 (([]:List aH).length)))) (out:=[(lo 24 (([]:List aH).length))]) rfl rfl (gB Hu) Jr (by exact rfl) (by exact Nat.le_of_ble_eq_true rfl) (by exact rfl)) rfl rfl rfl rfl rfl ?_
   refine On (Ws (Wr ?_))
   refine oP (LT.alloc (n:=26) (cells:=[(sC .nilFunc)]) rfl SI rfl rfl rfl) rfl rfl ?_
   refine On (Ws ?_)
   refine en [(1, (Cc (.pl 21 0))), (4, (Cc (.pl 25 0))), (5, (Cc (.pl 26 0)))] [(0, (pR 96 aG f.Graph.aB)), (1, (pR 82 aI f.Places)), (21, (.row 29 [[(iC f.Graph.aC), (lo 0 f.Graph.aB.length), (lo 1 f.Places.length)]])), (24, (pR 29 (bW true) ([]:List aH))), (25, (.row 55 [[(lo 24 (([]:List aH).length))]])), (26, (.row 104 [[(sC .nilFunc)]]))] ⟨rfl, rfl, rfl, trivial⟩ ⟨rfl, rfl, rfl, rfl, rfl, rfl, trivial⟩ ?_
   refine aA.ent (aU.Ar 30 96 rfl) ?_
   refine aA.ent (aU.Ar 31 82 rfl) ?_
   refine aA.ent (aU.Gt (n:=24) (p:=30) (q:=31) (e:=29) rfl) ?_
   refine en [(1, (Cc (.pl 21 0))), (4, (Cc (.pl 25 0))), (5, (Cc (.pl 26 0)))] [(0, (pR 96 aG f.Graph.aB)), (1, (pR 82 aI f.Places)), (21, (.row 29 [[(iC f.Graph.aC), (lo 0 f.Graph.aB.length), (lo 1 f.Places.length)]])), (24, (.ax 29 30 31 (bQ ([]:List aH)))), (30, (.pool 96 (rowsOf aG (cO ([]:List aH))))), (31, (.pool 82 (rowsOf aI (dD ([]:List aH))))), (25, (.row 55 [[(lo 24 (([]:List aH).length))]])), (26, (.row 104 [[(sC .nilFunc)]]))] ⟨rfl, rfl, rfl, trivial⟩ ⟨rfl, rfl, rfl, rfl, rfl, rfl, rfl, rfl, trivial⟩ ?_
   refine Wr ?_
   refine aS.pure (LT.Qb [21, 25, 26] rfl rfl) ⟨rfl, rfl, rfl, trivial⟩ trivial rfl rfl ?_
   refine gJ (LT.tX (v:=(.c (.fn 106 [21, 25, 26]))) (out:=[(.fn 106 [21, 25, 26])]) rfl rfl (gB P6) Rz (by exact rfl) (by exact Nat.le_of_ble_eq_true rfl) (by exact rfl)) rfl rfl rfl rfl rfl ?_
   refine On (Ws (aA.draw mixed ?_))
   refine gV (LT.l9 (c:=(.fn 106 [21, 25, 26])) rfl FD (by exact rfl)) rfl rfl rfl rfl ?_
   refine gV (LT.kV (out:=[(iC f.Graph.aC), (lo 0 f.Graph.aB.length), (lo 1 f.Places.length)]) rfl gX (gB fG) dI (by exact rfl) (by exact rfl)) rfl rfl rfl rfl ?_
   refine aP.bind fun r7 DX => ?_
   refine aP.step (@LT.iR Try.prog _ _ 107 _ _ [(.agg [(iC f.Graph.aC), (lo 0 f.Graph.aB.length), (lo 1 f.Places.length)])] _ _ [(0, (pR 96 aG f.Graph.aB)), (1, (pR 82 aI f.Places))] _ _ _ _ ((show Fw.Fn Try.prog 107 [(.agg [(iC f.Graph.aC), (xF aG f.Graph.aB), (xF aI f.Places)])] [] (Ag  [(iC r7.Graph.aC), (lo 28 r7.Graph.aB.length), (lo 29 r7.Places.length)]) [(28, (pR 96 aG r7.Graph.aB)), (29, (pR 82 aI r7.Places))] [] [28, 29] from Fw.Fn.ren [(0, 28), (1, 29)] (J9 f r7 DX) rfl)) rfl Fa (.cons (.agg (.cons (.same rfl) (.cons (.iZ rfl rfl) (.cons (.iZ rfl rfl) .nil)))) .nil) rfl rfl trivial) ⟨rfl, rfl, trivial⟩ ⟨rfl, rfl, trivial⟩ rfl rfl ?_
   refine aP.bind fun r8 DY => ?_
   refine aP.step (LT.FY (P:=Try.prog) (f:=106) (xs:=[(.agg [(iC r7.Graph.aC), (lo 28 r7.Graph.aB.length), (lo 29 r7.Places.length)]), (.c (iC 2))]) (sh:=[]) [21, 25, 26] [(.agg [(iC r7.Graph.aC), (lo 28 r7.Graph.aB.length), (lo 29 r7.Places.length)]), (.c (iC 2))] ((show Fw.Fn Try.prog 106 [(.agg [(iC r7.Graph.aC), (lo 28 r7.Graph.aB.length), (lo 29 r7.Places.length)]), (.c (iC 2)), (.c (.pl 21 0)), (.c (.pl 25 0)), (.c (.pl 26 0))] [(28, (pR 96 aG r7.Graph.aB)), (29, (pR 82 aI r7.Places)), (21, (.row 29 [[(iC f.Graph.aC), (lo 0 f.Graph.aB.length), (lo 1 f.Places.length)]])), (25, (.row 55 [[(lo 24 (([]:List aH).length))]])), (26, (.row 104 [[(.fn 106 [21, 25, 26])]])), (0, (pR 96 aG f.Graph.aB)), (1, (pR 82 aI f.Places)), (24, (.ax 29 30 31 (bQ ([]:List aH)))), (30, (.pool 96 (rowsOf aG (cO ([]:List aH))))), (31, (.pool 82 (rowsOf aI (dD ([]:List aH)))))] (.bV []) [(28, (pR 96 aG r8.1)), (29, (pR 82 aI r8.2.1)), (21, (.row 29 [[(iC r8.2.2.1.Graph.aC), (lo 0 r8.2.2.1.Graph.aB.length), (lo 1 r8.2.2.1.Places.length)]])), (25, (.row 55 [[(lo 24 r8.2.2.2.length)]])), (26, (.row 104 [[(.fn 106 [21, 25, 26])]])), (0, (pR 96 aG r8.2.2.1.Graph.aB)), (1, (pR 82 aI r8.2.2.1.Places)), (24, (.ax 29 30 31 (bQ r8.2.2.2))), (30, (.pool 96 (rowsOf aG (cO r8.2.2.2)))), (31, (.pool 82 (rowsOf aI (dD r8.2.2.2))))] [28, 29, 21, 25, 26, 0, 1, 24, 30, 31] [24, 30, 31] from Fw.Fn.ren [(0, 28), (1, 29), (2, 21), (3, 25), (4, 26), (5, 0), (6, 1), (7, 24), (8, 30), (9, 31)] (Ir 64 r7 2 f ([]:List aH) r8 DY) rfl)) rfl FZ (.cons (.agg (.cons (.same rfl) (.cons (.same rfl) (.cons (.same rfl) .nil)))) (.cons (.c (.same rfl)) .nil)) rfl rfl ⟨rfl, rfl, rfl, rfl, rfl, rfl, rfl, rfl, rfl, rfl, trivial⟩) ⟨rfl, rfl, ⟨rfl, rfl⟩, trivial⟩ ⟨rfl, rfl, rfl, rfl, rfl, rfl, rfl, rfl, rfl, rfl, trivial⟩ rfl rfl ?_
   refine aP.nil (by kernel_rfl) ?_
   refine Ws ?_
   refine en [(4, (Cc (.pl 25 0)))] [(0, (pR 96 aG r8.2.2.1.Graph.aB)), (1, (pR 82 aI r8.2.2.1.Places)), (24, (.ax 29 30 31 (bQ r8.2.2.2))), (30, (.pool 96 (rowsOf aG (cO r8.2.2.2)))), (31, (.pool 82 (rowsOf aI (dD r8.2.2.2)))), (25, (.row 55 [[(lo 24 r8.2.2.2.length)]]))] ⟨rfl, trivial⟩ ⟨rfl, rfl, rfl, rfl, rfl, rfl, trivial⟩ ?_
   refine Wr ?_
   refine eY (LT.l9 (c:=(lo 24 r8.2.2.2.length)) rfl FM (by exact rfl)) rfl rfl rfl rfl ?_
   refine dw (Cc (lo 24 r8.2.2.2.length)) rfl rfl rfl rfl ?_
   refine dw (Bv true) rfl ⟨rfl, rfl⟩ rfl rfl ?_
   refine On ?_
   refine en [(2, (Cc (lo 24 r8.2.2.2.length))), (3, (Bv true))] [(0, (pR 96 aG r8.2.2.1.Graph.aB)), (1, (pR 82 aI r8.2.2.1.Places)), (24, (.ax 29 30 31 (bQ r8.2.2.2))), (30, (.pool 96 (rowsOf aG (cO r8.2.2.2)))), (31, (.pool 82 (rowsOf aI (dD r8.2.2.2))))] ⟨rfl, rfl, trivial⟩ ⟨rfl, rfl, rfl, rfl, rfl, trivial⟩ ?_
   refine aA.ent (aU.mv 24 2 rfl rfl) ?_
   refine aA.ent (aU.mv 30 3 rfl rfl) ?_
   refine aA.ent (aU.mv 31 4 rfl rfl) ?_
   refine en [(2, (Cc (lo 2 r8.2.2.2.length))), (3, (Bv true))] [(0, (pR 96 aG r8.2.2.1.Graph.aB)), (1, (pR 82 aI r8.2.2.1.Places)), (2, (.ax 29 3 4 (bQ r8.2.2.2))), (3, (.pool 96 (rowsOf aG (cO r8.2.2.2)))), (4, (.pool 82 (rowsOf aI (dD r8.2.2.2))))] ⟨rfl, rfl, trivial⟩ ⟨rfl, rfl, rfl, rfl, rfl, trivial⟩ ?_
   refine aA.ret (dm.mk (.inr rfl) ⟨rfl, rfl, trivial⟩ ⟨rfl, rfl, rfl, rfl, rfl, trivial⟩ rfl ⟨trivial, aX.sc, trivial⟩ ⟨dB.gG jR, dB.gG jq, trivial, dB.oJ jR _, dB.oJ jq _, trivial⟩)
end Go.Proofs.Ytdmlaldifbmkpaa
end
