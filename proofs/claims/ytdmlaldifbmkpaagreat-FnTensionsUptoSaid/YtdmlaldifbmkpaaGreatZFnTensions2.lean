/- Parts of a proof that a law of the program holds: what the program computes, and why that is right. -/
import Derived.Test.YtdmlaldifbmkpaaGreatZFnTensions1
set_option linter.unusedVariables false
set_option linter.unusedSimpArgs false
set_option linter.unnecessarySimpa false
set_option maxRecDepth 100000
set_option maxHeartbeats 8000000
section
namespace Go.Fw
section
section
variable {P:Program} {C:Ctx} {σ:Slots} {mm:Mem} {α:Type} {enc:α → List PV}
theorem yV (rows:List (List α)):(bP rows).length = rows.length:=by simp [bP]
theorem Jf (enc:α → List PV) (rows:List (List α)):(rowsOf enc rows).length = rows.length:=by simp [rowsOf]
theorem Je {rows:List (List α)} {k:Nat} {r:List α} (h:rows[k]? = some r):(rowsOf enc rows)[k]? = some (r.map enc):=by simp [rowsOf,h]
theorem LT.Xr {o:Oper} {t e:TypeId} {x y:Operand} {n n2 p len LJ:Nat} {rows:List (List α)} {jK:List (List CV)} {z:Value} {s sS:Nat} (hl:len = rows.length) (hl2:LJ = jK.length) (ho:o.op = .call { callee:=.builtin .append,args:=#[x,y],argTypes:=#[t,t] }) (ht:P.underlying t = some (.slice e))
  (hz:TI P e z s sS) (hzs:z.cells.size = s) (hs:0 < s) (hb:sS ≤ 65536) (hc:(jK.all (fun cs => Nat.beq cs.length s && cs.all (jr [n])) && !Nat.beq p n) = true) (hlim:rows.length + jK.length ≤ wX) :
  LT P o [(x,Cc (.loc n 0 len)),(y,Cc (.loc n2 0 LJ))] [(n,.bf e p (bP rows)),(n2,.row e jK)] (Cc (.loc n 0 (len + LJ))) [(n,.row e (gG p (bP rows) ++ jK))] [n] [n]:=by
 subst hl
 subst hl2
 simp only [Bool.and_eq_true,Bool.not_eq_true'] at hc
 have hc1:∀ cs ∈ jK,cs.length = s ∧ ∀ x ∈ cs,jr [n] x = true:=fun cs hcs => by
  have:=List.all_eq_true.1 hc.1 cs hcs
  simp only [Bool.and_eq_true] at this
  exact ⟨Nat.eq_of_beq_eq_true this.1,fun x hx => List.all_eq_true.1 this.2 x hx⟩
 have hlen:(gG p (bP rows)).length = rows.length:=by rw [Cm,yV]
 have hpn:[n].elem p = false:=by
  have:=Nat.ne_of_beq_eq_false hc.2
  simp [this]
 have:=LT.append (P:=P) (o:=o) (ins:=[(x,Cc (.loc n 0 rows.length)),(y,Cc (.loc n2 0 jK.length))]) (us:=[(n,.bf e p (bP rows)),(n2,.row e jK)]) (n:=n) (els:=gG p (bP rows)) (jK:=jK) (W:=[n]) ho ht hz hzs hs hb
  (fun cs hcs => (hc1 cs hcs).1) (by rw [hlen]; exact hlim)
  (fun R B g w a hw hi hu => ⟨.inr ⟨by rw [hlen]; exact in1 hi,zZ (ob:=.bf e p (bP rows)) hu⟩,by
   have:=aFU (els:=jK) (by rw [hz.sz]; exact hs) (in2 hi) (us2 hu)
   rwa [hz.sz] at this,.inl rfl⟩)
 rw [hlen,List.map_append,XW hpn,OQ fun cs hcs => OQ fun x hx => V4 ((hc1 cs hcs).2 x hx)] at this
 exact this
theorem aY.XV {n m p len:Nat} {e e2:TypeId} {rows:List (List α)} {r:List α} {rest:List (List CV)} (hl:len = r.length) (hm:lk mm m = some (.dL e2 (r.map enc))) (hp:lk mm p = some (.pool e2 (rowsOf enc rows)))
  (hn:lk mm n = some (.row e (gG p (bP rows) ++ [.loc m 0 len] :: rest))) (hd:(!Nat.beq p m && !Nat.beq n p && !Nat.beq n m && !C.pn.elem m && !C.pn.elem p) = true) (hrest:rest.all (·.all (jr [m,p])) = true) :
  aY P C σ mm (kH [m,p] σ) ((p,.pool e2 (rowsOf enc (rows ++ [r]))) :: (n,.row e (gG p (bP (rows ++ [r])) ++ rest)) :: jL [m,p] mm):=by
 subst hl
 have hcells:gG p (bP (rows ++ [r])) = gG p (bP rows) ++ [[.tl p rows.length 0 r.length]]:=by
  have:bP (rows ++ [r]) = bP rows ++ [r.length]:=by simp [bP]
  rw [this,← aOV,yV]
 have hlen:(gG p (bP rows)).length = rows.length:=by rw [Cm,yV]
 refine aY.aBf (k:=rows.length) hm hp hn hd (fun bs ob hbl => ⟨bs ++ [ob],by simp [hbl,Jf],fun j => ?_⟩) (fun j jK hj => ?_) (by rw [hcells]; simp) (fun j cs2 hj => ?_)
 ·rw [Jf] at hbl
  by_cases h:j = rows.length
  ·rw [if_pos h,h,← hbl]
   simp only [GS.at,List.getElem?_append_right (Nat.le_refl _),Nat.sub_self,List.getElem?_cons_zero]
   cases ob <;> rfl
  ·rw [if_neg h]
   by_cases h2:j < bs.length
   ·simp only [GS.at,List.getElem?_append_left h2]
   ·have e1:(bs ++ [ob])[j]? = none:=List.getElem?_eq_none (by simp; omega)
    have e2:bs[j]? = none:=List.getElem?_eq_none (by omega)
    simp only [GS.at,e1,e2]
 ·simp only [rowsOf,List.map_append,List.map_cons,List.map_nil] at hj ⊢
  by_cases h:j < rows.length
  ·rw [List.getElem?_append_left (by simpa using h)] at hj
   exact .inr ⟨by omega,hj⟩
  ·have hjl:=(List.getElem?_eq_some_iff.1 hj).1
   simp at hjl
   have:j = rows.length:=by omega
   subst this
   rw [List.getElem?_append_right (by simp)] at hj
   simp at hj
   exact .inl ⟨rfl,hj.symm⟩
 ·rw [hcells,List.append_assoc] at hj
  by_cases h:j < rows.length
  ·rw [List.getElem?_append_left (by rw [hlen]; exact h)] at hj
   obtain ⟨l,hl,rfl⟩:=Tq hj
   refine ⟨_,by rw [List.getElem?_append_left (by rw [hlen]; exact h)]; exact hj,rfl,fun i x2 hi => ⟨x2,hi,.inr ⟨rfl,.inl ?_⟩⟩⟩
   cases i with
   | zero => exact ⟨j,0,l,by omega,by simpa using hi.symm⟩
   | succ i => simp at hi
  ·rw [List.getElem?_append_right (by rw [hlen]; omega),hlen] at hj
   by_cases h2:j = rows.length
   ·subst h2
    rw [Nat.sub_self] at hj
    have:cs2 = [.tl p rows.length 0 r.length]:=by simpa using hj.symm
    subst this
    refine ⟨[.loc m 0 r.length],by rw [List.getElem?_append_right (by rw [hlen]; exact Nat.le_refl _),hlen,Nat.sub_self]; rfl,rfl,fun i x2 hi => ?_⟩
    cases i with
    | zero => exact ⟨_,rfl,.inl ⟨0,r.length,rfl,by simpa using hi.symm⟩⟩
    | succ i => simp at hi
   ·obtain ⟨q,hq⟩:∃ q,j - rows.length = q + 1:=⟨j - rows.length - 1,by omega⟩
    rw [hq] at hj
    have hj':rest[q]? = some cs2:=by simpa using hj
    refine ⟨cs2,by rw [List.getElem?_append_right (by rw [hlen]; omega),hlen,hq]; simpa using hj',rfl,fun i x2 hi => ⟨x2,hi,.inr ⟨rfl,.inr ?_⟩⟩⟩
    exact List.all_eq_true.1 (List.all_eq_true.1 hrest cs2 (List.mem_of_getElem? hj')) x2 (List.mem_of_getElem? hi)
theorem aY.aFb {n m p len k:Nat} {e e2:TypeId} {rows:List (List α)} {r:List α} (hl:len = r.length) (hk:k < rows.length) (hm:lk mm m = some (.dL e2 (r.map enc))) (hp:lk mm p = some (.pool e2 (rowsOf enc rows)))
  (hn:lk mm n = some (.row e ((gG p (bP rows)).set k [.loc m 0 len]))) (hd:(!Nat.beq p m && !Nat.beq n p && !Nat.beq n m && !C.pn.elem m && !C.pn.elem p) = true) :
  aY P C σ mm (kH [m,p] σ) ((p,.pool e2 (rowsOf enc (rows.set k r))) :: (n,.row e (gG p (bP (rows.set k r)))) :: jL [m,p] mm):=by
 subst hl
 have hcells:gG p (bP (rows.set k r)) = (gG p (bP rows)).set k [.tl p k 0 r.length]:=by
  rw [aFg]
  simp [bP,List.map_set]
 have hlen:(gG p (bP rows)).length = rows.length:=by rw [Cm,yV]
 refine aY.aBf (k:=k) hm hp hn hd (fun bs ob hbl => ⟨bs.set k ob,by simp [hbl,Jf],fun j => ?_⟩) (fun j jK hj => ?_) (by rw [hcells]; simp) (fun j cs2 hj => ?_)
 ·rw [Jf] at hbl
  simp only [GS.at,List.getElem?_set]
  by_cases h:j = k
  ·subst h
   rw [if_pos rfl,if_pos rfl,if_pos (by omega)]
   cases ob <;> rfl
  ·rw [if_neg h,if_neg fun e => h e.symm]
 ·simp only [rowsOf,List.map_set,List.getElem?_set,List.length_map] at hj
  by_cases h:k = j
  ·subst h
   rw [if_pos rfl,if_pos hk] at hj
   injection hj with hj
   exact .inl ⟨rfl,hj.symm⟩
  ·rw [if_neg h] at hj
   exact .inr ⟨fun e => h e.symm,hj⟩
 ·rw [hcells,List.getElem?_set] at hj
  by_cases h:k = j
  ·subst h
   rw [if_pos rfl,if_pos (by rw [hlen]; exact hk)] at hj
   have:cs2 = [.tl p k 0 r.length]:=by simpa using hj.symm
   subst this
   refine ⟨[.loc m 0 r.length],by rw [List.getElem?_set,if_pos rfl,if_pos (by rw [hlen]; exact hk)],rfl,fun i x2 hi => ?_⟩
   cases i with
   | zero => exact ⟨_,rfl,.inl ⟨0,r.length,rfl,by simpa using hi.symm⟩⟩
   | succ i => simp at hi
  ·rw [if_neg h] at hj
   obtain ⟨l,hl,rfl⟩:=Tq hj
   refine ⟨_,by rw [List.getElem?_set,if_neg h]; exact hj,rfl,fun i x2 hi => ⟨x2,hi,.inr ⟨rfl,.inl ?_⟩⟩⟩
   cases i with
   | zero => exact ⟨j,0,l,fun e => h e.symm,by simpa using hi.symm⟩
   | succ i => simp at hi
theorem aY.bf {n p:Nat} {e:TypeId} {lens:List Nat} {cells:List (List CV)} (hc:cells = gG p lens) (h:lk mm n = some (.row e cells)):aY P C σ mm σ ((n,.bf e p lens) :: mm):=fun R B g a w hs => by
 subst hc
 exact ⟨R,B,g,hs.obj (o:=.bf e p lens) h (show gq P w R B g n e (gG p lens) from hs.ob n (.row e (gG p lens)) h)⟩
def swp (i q j:Nat):Nat:=if j = q then i else if j = i then q else j
theorem aOR {i q j k:Nat} (h:swp i q j = swp i q k):j = k:=by
 unfold swp at h
 split at h <;> split at h <;> (try split at h) <;> (try split at h) <;> omega
theorem aA0 {β:Type} {l:List β} {i q:Nat} {x y:β} (hi:l[i]? = some x) (hq:l[q]? = some y) (j:Nat):((l.set i y).set q x)[j]? = l[swp i q j]?:=by
 have hil:=(List.getElem?_eq_some_iff.1 hi).1
 have KT:=(List.getElem?_eq_some_iff.1 hq).1
 rw [List.getElem?_set,List.getElem?_set]
 by_cases h1:q = j
 ·subst h1
  have:swp i q q = i:=if_pos rfl
  simp [KT,hi,this]
 ·rw [if_neg h1]
  by_cases h2:i = j
  ·subst h2
   have:swp i q i = q:=by unfold swp; rw [if_neg fun e => h1 e.symm,if_pos rfl]
   simp [hil,hq,this]
  ·have:swp i q j = j:=by unfold swp; rw [if_neg fun e => h1 e.symm,if_neg fun e => h2 e.symm]
   rw [if_neg h2,this]
theorem aY.aOg {n p i q:Nat} {e e2:TypeId} {rows:List (List α)} {ri rq:List α} (hi:rows[i]? = some ri) (hq:rows[q]? = some rq) (hp:lk mm p = some (.pool e2 (rowsOf enc rows)))
  (hn:lk mm n = some (.row e (((gG p (bP rows)).set i [.tl p q 0 rq.length]).set q [.tl p i 0 ri.length]))) (hd:(!Nat.beq n p && !C.pn.elem p) = true) :
  aY P C σ mm (kH [p] σ) ((p,.pool e2 (rowsOf enc ((rows.set i rq).set q ri))) :: (n,.bf e p (bP ((rows.set i rq).set q ri))) :: jL [p] mm):=fun R B g a w hs => by
 simp only [Bool.and_eq_true,Bool.not_eq_true'] at hd
 have hnp:=Nat.ne_of_beq_eq_false hd.1
 have hp1:=lg hd.2
 have hw:=hs.wf
 obtain ⟨⟨bs,uq,hbl⟩,hrows⟩:=hs.ob p _ hp
 rw [Jf] at hbl
 have hrn:gq P w R B g n e (((gG p (bP rows)).set i [.tl p q 0 rq.length]).set q [.tl p i 0 ri.length]):=hs.ob n _ hn
 have hil:=(List.getElem?_eq_some_iff.1 hi).1
 have KT:=(List.getElem?_eq_some_iff.1 hq).1
 have hbi:bs[i]? = some (bs[i]'(by omega)):=List.getElem?_eq_getElem (by omega)
 have hbq:bs[q]? = some (bs[q]'(by omega)):=List.getElem?_eq_getElem (by omega)
 let qi:=(bs.set i (bs[q]'(by omega))).set q (bs[i]'(by omega))
 have hat:∀ j,(GS.pool qi).at j = (g p).at (swp i q j):=fun j => by
  rw [uq]
  show (match qi[j]? with | some (some b) => GS.blk b | some none => .nil | none => .dead) = _
  rw [aA0 hbi hbq]
  rfl
 have hhas:∀ b,(GS.pool qi).has b → (g p).has b:=fun b hb => by
  obtain ⟨j,hj⟩:=GS.WG rfl hb
  rw [hat j] at hj
  exact GS.qm hj
 have Ba:upd g p (.pool qi) p = .pool qi:=upd_same ..
 have hg2:∀ k,k ≠ p → upd g p (.pool qi) k = g k:=fun k hk => upd_ne g _ hk
 have QK:WF R B (upd g p (.pool qi)) w:=hw.upd p _ (Nat.le_refl _) (fun b hb => ⟨(hw.jV p b (hhas b hb)).1,(hw.jV p b (hhas b hb)).2,fun k hk hk2 => hk (hw.kG k p b hk2 (hhas b hb))⟩) (fun j k b hj hk => by
  rw [hat j] at hj
  rw [hat k] at hk
  exact aOR (hw.nd p _ _ b hj hk))
 have had:iZ R B g w [p,n] [p] R B (upd g p (.pool qi)) w:=by
  refine ⟨QK,fun _ h => h,fun _ h => h,rfl,rfl,rfl,Nat.le_refl _,fun _ _ _ => rfl,fun k hk => hg2 k (by simpa using hk),fun k hk b hb => ?_,fun k hk hkX b cur e' hg hh => ⟨cur,hh,rfl⟩⟩
  have:k = p:=by simpa using hk
  subst this
  rw [Ba] at hb
  exact .inr ⟨k,by simp,hhas b hb⟩
 have aQP:bP ((rows.set i rq).set q ri) = ((bP rows).set i rq.length).set q ri.length:=by simp [bP,List.map_set]
 have hst:=hs.step (us:=[(p,.pool e2 (rowsOf enc rows)),(n,.row e (((gG p (bP rows)).set i [.tl p q 0 rq.length]).set q [.tl p i 0 ri.length]))]) (df:=[(p,.pool e2 (rowsOf enc ((rows.set i rq).set q ri))),(n,.bf e p (bP ((rows.set i rq).set q ri)))]) (W:=[p,n]) (X:=[p]) (d:=none) (v:=.eH []) (u:=undef) ⟨hp,hn,trivial⟩
  (fun k hk => by
   have:k = p ∨ k = n:=by simpa using hk
   rcases this with rfl | rfl
   ·exact ⟨.inl (by simp),_,List.mem_cons_self⟩
   ·exact ⟨.inr (by simp),_,List.mem_cons_of_mem _ List.mem_cons_self⟩)
  (fun k hk => by
   have:k = (p,.pool e2 (rowsOf enc ((rows.set i rq).set q ri))) ∨ k = (n,.bf e p (bP ((rows.set i rq).set q ri))):=by simpa using hk
   rcases this with rfl | rfl
   ·exact .inl (by simp)
   ·exact .inr (by simp)) rfl (fun k hk => by
   have:k = p:=by simpa using hk
   subst this
   exact hp1) had (fun b hb => .inl hb) (fun h => by cases h) (fun k hk => by
   have:k = (p,.pool e2 (rowsOf enc ((rows.set i rq).set q ri))) ∨ k = (n,.bf e p (bP ((rows.set i rq).set q ri))):=by simpa using hk
   rcases this with rfl | rfl
   ·refine ⟨⟨qi,Ba,by simp [qi,hbl,Jf]⟩,fun j jK hj => ?_⟩
    show sO P w R B ((upd g p (.pool qi) p).at j) e2 jK
    rw [Ba,hat j]
    refine hrows _ jK ?_
    rw [rowsOf,List.getElem?_map,aA0 hi hq] at hj
    rw [rowsOf,List.getElem?_map]
    exact hj
   ·show gq P w R B (upd g p (.pool qi)) n e (gG p (bP ((rows.set i rq).set q ri)))
    have hgn:upd g p (.pool qi) n = g n:=hg2 n hnp
    have hlen:(gG p (bP ((rows.set i rq).set q ri))).length = (((gG p (bP rows)).set i [.tl p q 0 rq.length]).set q [.tl p i 0 ri.length]).length:=by simp [Cm,yV]
    have hcell:∀ j cs2,(gG p (bP ((rows.set i rq).set q ri)))[j]? = some cs2 → ∃ l,cs2 = [CV.tl p j 0 l] ∧ (((gG p (bP rows)).set i [CV.tl p q 0 rq.length]).set q [CV.tl p i 0 ri.length])[j]? = some [CV.tl p (swp i q j) 0 l]:=fun j cs2 hj => by
     obtain ⟨l,hl,rfl⟩:=Tq hj
     refine ⟨l,rfl,?_⟩
     have hl0:(bP rows)[swp i q j]? = some l:=by
      rw [← hl,bP,bP,List.getElem?_map,List.getElem?_map,aA0 hi hq]
     have hjl:j < (gG p (bP rows)).length:=by
      have:=(List.getElem?_eq_some_iff.1 hj).1
      simpa [Cm,yV] using this
     rw [List.getElem?_set,List.getElem?_set]
     by_cases h1:q = j
     ·subst h1
      have h7:swp i q q = i:=if_pos rfl
      rw [h7] at hl0 ⊢
      have:ri.length = l:=by
       rw [bP,List.getElem?_map,hi] at hl0
       simpa using hl0
      simp only [if_true,List.length_set,hjl,this]
     ·rw [if_neg h1]
      by_cases h2:i = j
      ·subst h2
       have h7:swp i q i = q:=by unfold swp; rw [if_neg fun e => h1 e.symm,if_pos rfl]
       rw [h7] at hl0 ⊢
       have:rq.length = l:=by
        rw [bP,List.getElem?_map,hq] at hl0
        simpa using hl0
       simp only [if_true,hjl,this]
      ·have h7:swp i q j = j:=by unfold swp; rw [if_neg fun e => h1 e.symm,if_neg fun e => h2 e.symm]
       rw [h7] at hl0 ⊢
       rw [if_neg h2]
       exact Tn hl0
    rcases hrn with ⟨h1,h2⟩ | ⟨b,cur,h1,h2,h3,h4,h5⟩
    ·exact .inl ⟨hgn.trans h1,List.eq_nil_of_length_eq_zero (by rw [hlen,h2]; rfl)⟩
    ·refine .inr ⟨b,cur,hgn.trans h1,h2,fun cs2 hcs2 => ?_,by rw [hlen]; exact h4,fun j k cs2 x2 hj hk => ?_⟩
     ·obtain ⟨j,hj⟩:=List.mem_iff_getElem?.1 hcs2
      obtain ⟨l,rfl,h6⟩:=hcell j cs2 hj
      have:=h3 _ (List.mem_of_getElem? h6)
      exact this
     ·obtain ⟨l,rfl,h6⟩:=hcell j cs2 hj
      cases k with
      | succ k => simp at hk
      | zero =>
       have:x2 = .tl p j 0 l:=by simpa using hk.symm
       subst this
       obtain ⟨u,hu,hr⟩:=h5 j 0 _ _ h6 rfl
       refine ⟨u,hu,hr.1,?_⟩
       have hk2:(upd g p (.pool qi) p).at j = (g p).at (swp i q j):=by rw [Ba,hat j]
       rcases hr.2 with ⟨z1,z2⟩ | z1 | ⟨b2,cap,zG,e3,z1,z2⟩
       ·exact .inl ⟨hk2.trans z1,z2⟩
       ·exact .inr (.inl z1)
       ·exact .inr (.inr ⟨b2,cap,zG,e3,hk2.trans z1,z2⟩))
 exact ⟨R,B,_,hst⟩
end
end
section
section
variable {P:Program} {o:Oper} {α:Type} {enc:α → List PV}
theorem sO.blk {w:World} {R B:Nat → Prop} {s:GS} {e:TypeId} {els:List (List PV)} (h:sO P w R B s e els) {b:Nat} (hb:s = .blk b) {cur:Array Value} {e':TypeId} (hh:w.heap[b]? = some (.cells cur e' (0,0))) :
  e' = e ∧ (∀ cs ∈ els,cs.length = cO P e) ∧ els.length * cO P e ≤ cur.size ∧ ∀ (j k:Nat) cs x,els[j]? = some cs → cs[k]? = some x → ∃ u,cur[j * cO P e + k]? = some u ∧ jg w R B x u:=by
 rcases h with ⟨h1,_⟩ | ⟨b',cur',h1,h2,h3,h4,h5⟩
 ·rw [hb] at h1; cases h1
 ·rw [hb] at h1
  injection h1 with h1
  subst h1
  rw [hh] at h2
  injection h2 with h2
  injection h2 with h2 h6 h7
  subst h2
  subst h6
  exact ⟨rfl,h3,h4,h5⟩
theorem LT.EZ {x y:Operand} {t e:TypeId} {i:Int} {p k len:Nat} {rows:List (List α)} {r:List α} {b:α} (hl:len = r.length) (ho:o.op = .indexAddr t x y) (h:wG P t = some e) (hk:rows[k]? = some r) (hi:idx r i = some b) :
  LT P o [(x,Cc (.tl p k 0 len)),(y,Iv i)] [(p,.pool e (rowsOf enc rows))] (Cc (.tpl p k (i.toNat * cO P e))) [] [] []:=.calm fun R B g w a _ hin hu => by
 subst hl
 have h0:=Kv hi
 have h1:=Vk hi
 have hy:=rU (in2 hin)
 have hrow:=(zZ (ob:=.pool e (rowsOf enc rows)) hu).2 k _ (Je hk)
 obtain ⟨_,h2⟩:=in1 hin
 rcases h2 with ⟨_,_,h2,_⟩ | ⟨h2,_⟩ | ⟨b,cap,cur,e',k1,k2,k3,k4,k5,k6⟩
 ·omega
 ·omega
 ·have he:=(hrow.blk k1 k2).1
  subst he
  simp only [Nat.zero_mul] at k6
  exact ⟨.pointer (some ⟨b,i.toNat * cO P e',none⟩),by simp [execOp,ho,k6,hy,run_indexAt h ⟨b,0,none⟩ r.length cap .i64 i h0 h1,add_lit],rfl,b,k1,rfl⟩
theorem LT.Jh {x:Operand} {t e:TypeId} {p k off j:Nat} {i:Int} {rows:List (List α)} {r:List α} {b:α} {q:PV} (ho:o.op = .load t x) (h:lY P t = some false) (hk:rows[k]? = some r) (hi:idx r i = some b) (hj:(enc b)[j]? = some q)
  (ha:off = i.toNat * cO P e + j):LT P o [(x,Cc (.tpl p k off))] [(p,.pool e (rowsOf enc rows))] (Cc (.pv q)) [] [] []:=.calm fun R B g w a _ hin hu => by
 obtain ⟨_,bl,h2,h3⟩:=in1 hin
 rcases (zZ (ob:=.pool e (rowsOf enc rows)) hu).2 k _ (Je hk) with ⟨h4,_⟩ | ⟨b',cur,h4,h5,_,_,h8⟩
 ·rw [h2] at h4; cases h4
 ·rw [h2] at h4
  injection h4 with h4
  subst h4
  obtain ⟨u,hu1,hu2⟩:=h8 i.toNat j (enc b) q (by rw [List.getElem?_map,lI hi]; rfl) hj
  subst ha
  have hc:w.cell? ⟨bl,i.toNat * cO P e + j,none⟩ = some u:=(EX h5 _).trans hu1
  exact ⟨u,by simp [execOp,ho,h3,aAl h hc],hu2.oneCell,hu2⟩
theorem LT.aFj {t e:TypeId} {p k off j s:Nat} (m:Nat) {x y:Operand} {i:Int} {rows:List (List α)} {r:List α} {b b':α} {v:Value} {it:TypeInfo} (ho:o.op = .store t x y) (hd:o.dst = none) (hit:P.info? t = some it) (hs:cO P t = s) (hl:1 = s) (hk:rows[k]? = some r) (hi:idx r i = some b)
  (ha:off = i.toNat * cO P e + j) (hjl:j + s ≤ (enc b).length) (hb:ow ((enc b).map CV.pv) j [CV.pv (.sc v)] = (enc b').map CV.pv) (hpm:Nat.beq p m = false) :
  LT P o [(x,Cc (.tpl p k off)),(y,Cc (.pv (.sc v)))] [(p,.pool e (rowsOf enc rows))] (.eH []) [(p,.pool e (rowsOf enc (rows.set k (r.set i.toNat b'))))] [p] [m]:=by
 have h0:=LT.aFp (P:=P) (o:=o) (n:=m) (e:=e) (v:=.c (.pv (.sc v))) ho hd hit hs (by simpa [mD] using hl) hi ha hjl hb
 have h1:=LT.focus (p:=p) (k:=k) (xU:=[]) (zy:=[]) (rows:=rowsOf enc rows) h0 (Je hk) (by simp [Yb,hpm,Hz,Pj,Dq,jr,Nat.beq_refl,Nat.ne_of_beq_eq_false hpm])
 have e1:(rowsOf enc rows).set k ((r.set i.toNat b').map enc) = rowsOf enc (rows.set k (r.set i.toNat b')):=by simp [rowsOf,List.map_set]
 have e2:Nat.beq m m = true:=Nat.beq_refl m
 simp only [List.map_cons,List.map_nil,Dl,KC,BM,e2,cond_true,zX,e1] at h1
 exact h1
end
end
section
section
variable {P:Program} {C:Ctx} {σ:Slots} {mm:Mem} {α:Type} {enc:α → List PV}
theorem aD0 {rows:List (List α)} {k:Nat} {r r':List α} (hk:rows[k]? = some r) (h:r'.length = r.length):bP rows = bP (rows.set k r'):=by
 refine List.ext_getElem? fun j => ?_
 have hl:=(List.getElem?_eq_some_iff.1 hk).1
 simp only [bP,List.getElem?_map,List.getElem?_set]
 by_cases hj:k = j
 ·subst hj
  rw [if_pos rfl,if_pos hl,hk,Option.map_some,Option.map_some,h]
 ·rw [if_neg hj]
theorem cZ.Aq (h:∀ a,xw (enc a)) {e:TypeId} (rows:List (List α)):cZ (.pool e (rowsOf enc rows)):=fun els hels cs hcs p hp => by
 obtain ⟨r,_,rfl⟩:=List.mem_map.1 hels
 obtain ⟨a,_,rfl⟩:=List.mem_map.1 hcs
 exact (h a).spec p hp
theorem aY.lens {n p:Nat} {e:TypeId} {lens lens':List Nat} (he:lens = lens') (h:lk mm n = some (.bf e p lens)):aY P C σ mm σ ((n,.bf e p lens') :: mm):=fun R B g a w hs => by
 subst he
 exact ⟨R,B,g,hs.obj h (hs.ob n _ h)⟩
theorem rF.ttl {sh:Mem} {p k len:Nat} {e2:TypeId} {rows:List (List α)} {r:List α} (hl:len = r.length) (h:lk sh p = some (.pool e2 (rowsOf enc rows))) (hk:rows[k]? = some r):rF sh (.tl p k 0 len) (.pv (.xs false (r.map enc))):=by
 subst hl
 have:=rF.tl (k:=k) h (Je hk)
 rwa [List.length_map] at this
theorem rF.Tv {sh:Mem} {n p len:Nat} {e e2:TypeId} {rows:List (List α)} {Dn:List α → List PV} (hl:len = rows.length) (h1:lk sh n = some (.bf e p (bP rows))) (h2:lk sh p = some (.pool e2 (rowsOf enc rows))) (hE:∀ r,Dn r = [.xs false (r.map enc)]):rF sh (.loc n 0 len) (.pv (.xs false (rows.map Dn))):=by
 subst hl
 have:=rF.bf h1 h2 (by simp [bP,rowsOf,Function.comp_def])
 rw [yV] at this
 have e1:(rowsOf enc rows).map (fun r => [PV.xs false r]) = rows.map Dn:=by
  rw [rowsOf,List.map_map]
  exact List.map_congr_left fun r _ => (hE r).symm
 rwa [e1] at this
theorem aY.Oa (p:Nat) (e2:TypeId) (hd:C.pn.elem p = false):aY P C σ mm (kH [p] σ) ((p,.pool e2 []) :: jL [p] mm):=fun R B g a w hs => by
 have hp1:=lg hd
 have had:iZ R B g w [] [p] R B (upd g p (.pool [])) w:=by
  refine ⟨hs.wf.upd p _ (Nat.le_refl _) (fun b hb => by cases hb) (fun i j b hi => by simp [GS.at] at hi),fun _ h => h,fun _ h => h,rfl,rfl,rfl,Nat.le_refl _,fun _ _ _ => rfl,fun q hq => upd_ne g _ (by simpa using hq),fun q hq b hb => ?_,fun q hq => by cases hq⟩
  have:q = p:=by simpa using hq
  subst this
  rw [upd_same] at hb
  cases hb
 exact ⟨R,B,_,hs.step (us:=[]) (df:=[(p,.pool e2 [])]) (W:=[]) (X:=[p]) (d:=none) (v:=.eH []) (u:=undef) trivial (fun _ h => by cases h) (fun q hq => by
   have:q = (p,.pool e2 []):=by simpa using hq
   subst this; exact .inl (by simp)) rfl (fun q hq => by
   have:q = p:=by simpa using hq
   subst this; exact hp1) had (fun b hb => .inl hb) (fun h => by cases h) (OW ⟨⟨[],upd_same ..,rfl⟩,fun k els hk => by simp at hk⟩)⟩
theorem aY.aNT {n p c:Nat} {e e2:TypeId} (hn:lk mm n = some (.row e (List.replicate c [.pv (.sc aX)]))) (hd:(!Nat.beq n p && !C.pn.elem p) = true) :
  aY P C σ mm (kH [p] σ) ((p,.pool e2 (rowsOf enc (List.replicate c ([]:List α)))) :: (n,.bf e p (bP (List.replicate c ([]:List α)))) :: jL [p] mm):=fun R B g a w hs => by
 simp only [Bool.and_eq_true,Bool.not_eq_true'] at hd
 have hnp:=Nat.ne_of_beq_eq_false hd.1
 have hp1:=lg hd.2
 have hrn:gq P w R B g n e (List.replicate c [.pv (.sc aX)]):=hs.ob n _ hn
 have hat:∀ j,j < c → (GS.pool (List.replicate c none)).at j = .nil:=fun j hj => by simp [GS.at,hj]
 have hnb:∀ b,¬ (GS.pool (List.replicate c none)).has b:=fun b hb => by
  have:=List.eq_of_mem_replicate (show some b ∈ List.replicate c none from hb)
  cases this
 have had:iZ R B g w [n] [p] R B (upd g p (.pool (List.replicate c none))) w:=by
  refine ⟨hs.wf.upd p _ (Nat.le_refl _) (fun b hb => (hnb b hb).elim) (fun i j b hi => (hnb b (GS.qm hi)).elim),fun _ h => h,fun _ h => h,rfl,rfl,rfl,Nat.le_refl _,fun _ _ _ => rfl,fun q hq => upd_ne g _ (by simpa using hq),fun q hq b hb => ?_,fun q hq ZF b cur e' hg hh => ⟨cur,hh,rfl⟩⟩
  have:q = p:=by simpa using hq
  subst this
  rw [upd_same] at hb
  exact (hnb b hb).elim
 have hgn:upd g p (.pool (List.replicate c none)) n = g n:=upd_ne g _ hnp
 have hcells:∀ j cs,(gG p (bP (List.replicate c ([]:List α))))[j]? = some cs → j < c ∧ cs = [.tl p j 0 0]:=fun j cs hj => by
  obtain ⟨l,hl,rfl⟩:=Tq hj
  simp only [bP,List.map_replicate,List.length_nil,List.getElem?_replicate] at hl
  split at hl
  ·rename_i h1
   injection hl with hl
   subst hl
   exact ⟨h1,rfl⟩
  ·cases hl
 exact ⟨R,B,_,hs.step (us:=[(n,.row e (List.replicate c [.pv (.sc aX)]))]) (df:=[(p,.pool e2 (rowsOf enc (List.replicate c ([]:List α)))),(n,.bf e p (bP (List.replicate c ([]:List α))))]) (W:=[n]) (X:=[p]) (d:=none) (v:=.eH []) (u:=undef) ⟨hn,trivial⟩
  (fun q hq => by
   have:q = n:=by simpa using hq
   subst this
   exact ⟨.inr (by simp),_,List.mem_cons_self⟩)
  (fun q hq => by
   have:q = (p,.pool e2 (rowsOf enc (List.replicate c ([]:List α)))) ∨ q = (n,.bf e p (bP (List.replicate c ([]:List α)))):=by simpa using hq
   rcases this with rfl | rfl
   ·exact .inl (by simp)
   ·exact .inr (by simp)) rfl (fun q hq => by
   have:q = p:=by simpa using hq
   subst this; exact hp1) had (fun b hb => .inl hb) (fun h => by cases h) (fun q hq => by
   have:q = (p,.pool e2 (rowsOf enc (List.replicate c ([]:List α)))) ∨ q = (n,.bf e p (bP (List.replicate c ([]:List α)))):=by simpa using hq
   rcases this with rfl | rfl
   ·refine ⟨⟨List.replicate c none,upd_same ..,by simp [rowsOf]⟩,fun k els hk => ?_⟩
    show sO P w R B ((upd g p (.pool (List.replicate c none)) p).at k) e2 els
    rw [upd_same]
    simp only [rowsOf,List.map_replicate,List.map_nil,List.getElem?_replicate] at hk
    split at hk
    ·rename_i h1
     injection hk with hk
     exact .inl ⟨hat k h1,hk.symm⟩
    ·cases hk
   ·show gq P w R B (upd g p (.pool (List.replicate c none))) n e (gG p (bP (List.replicate c ([]:List α))))
    rcases hrn with ⟨h1,h2⟩ | ⟨b,cur,h1,h2,h3,h4,h5⟩
    ·have hc0:c = 0:=by simpa using h2
     subst hc0
     exact .inl ⟨hgn.trans h1,rfl⟩
    ·refine .inr ⟨b,cur,hgn.trans h1,h2,fun cs hcs => ?_,by simpa [Cm,yV] using h4,fun j k cs x hj hk => ?_⟩
     ·obtain ⟨j,hj⟩:=List.mem_iff_getElem?.1 hcs
      obtain ⟨hjc,rfl⟩:=hcells j cs hj
      have:=h3 [.pv (.sc aX)] (List.mem_replicate.2 ⟨by omega,rfl⟩)
      exact this
     ·obtain ⟨hjc,rfl⟩:=hcells j cs hj
      cases k with
      | succ k => simp at hk
      | zero =>
       have:x = .tl p j 0 0:=by simpa using hk.symm
       subst this
       obtain ⟨u,hu,hr⟩:=h5 j 0 [.pv (.sc aX)] (.pv (.sc aX)) (by simp [hjc]) rfl
       refine ⟨u,hu,hr.1,.inl ⟨?_,rfl,rfl,rU hr⟩⟩
       rw [upd_same]
       exact hat j hjc)⟩
end
end
section
section
variable {P:Program} {o:Oper} {α:Type} {enc:α → List PV}
theorem aFd {p:Nat} {lens:List Nat} {j:Nat} (h:j < lens.length):∃ c,(gG p lens)[j]? = some [c]:=by
 obtain ⟨l,hl⟩:∃ l,lens[j]? = some l:=⟨lens[j],List.getElem?_eq_getElem h⟩
 exact ⟨_,Tn hl⟩
theorem LT.aGm {x y:Operand} {t e:TypeId} {n p off:Nat} {i:Int} {rows:List (List α)} {r:List α} {c:CV} {it:TypeInfo} (ho:o.op = .store t x y) (hd:o.dst = none) (hit:P.info? t = some it) (hs:cO P t = 1) (hi:idx rows i = some r) (ha:off = i.toNat * cO P e) :
  LT P o [(x,Cc (.pl n off)),(y,Cc c)] [(n,.bf e p (bP rows))] (.eH []) [(n,.row e ((gG p (bP rows)).set i.toNat [c]))] [n] []:=by
 obtain ⟨c0,h0⟩:=aFd (p:=p) (lens:=bP rows) (j:=i.toNat) (by rw [yV]; exact (List.getElem?_eq_some_iff.1 (lI hi)).1)
 have:=LT.store (P:=P) (o:=o) (n:=n) (off:=off) (e:=e) (els:=gG p (bP rows)) (k:=0) (v:=.c c) ho hd hit hs rfl h0 (by rw [ha,Nat.add_zero]) (Nat.le_refl _)
 exact LT.usT this
theorem LT.aQE {x y:Operand} {t e:TypeId} {n p off:Nat} {i:Int} {rows:List (List α)} {r:List α} {c c1:CV} {it:TypeInfo} (ho:o.op = .store t x y) (hd:o.dst = none) (hit:P.info? t = some it) (hs:cO P t = 1) (hi:idx rows i = some r) (ha:off = i.toNat * cO P e) :
  LT P o [(x,Cc (.pl n off)),(y,Cc c)] [(n,.row e ((gG p (bP rows)).set i.toNat [c1]))] (.eH []) [(n,.row e ((gG p (bP rows)).set i.toNat [c]))] [n] []:=by
 have hl:i.toNat < (gG p (bP rows)).length:=by rw [Cm,yV]; exact (List.getElem?_eq_some_iff.1 (lI hi)).1
 have:=LT.store (P:=P) (o:=o) (n:=n) (off:=off) (e:=e) (els:=(gG p (bP rows)).set i.toNat [c1]) (j:=i.toNat) (cs:=[c1]) (k:=0) (v:=.c c) ho hd hit hs rfl (by rw [List.getElem?_set,if_pos rfl,if_pos hl]) (by rw [ha,Nat.add_zero]) (Nat.le_refl _)
 rw [List.set_set] at this
 exact this
theorem LT.aQD {x y:Operand} {t e:TypeId} {n p off k:Nat} {i:Int} {rows:List (List α)} {r:List α} {c c1:CV} {it:TypeInfo} (ho:o.op = .store t x y) (hd:o.dst = none) (hit:P.info? t = some it) (hs:cO P t = 1) (hi:idx rows i = some r) (ha:off = i.toNat * cO P e) :
  LT P o [(x,Cc (.pl n off)),(y,Cc c)] [(n,.row e ((gG p (bP rows)).set k [c1]))] (.eH []) [(n,.row e (((gG p (bP rows)).set k [c1]).set i.toNat [c]))] [n] []:=by
 have hl:i.toNat < (bP rows).length:=by rw [yV]; exact (List.getElem?_eq_some_iff.1 (lI hi)).1
 obtain ⟨c0,h0⟩:=aFd (p:=p) hl
 obtain ⟨c2,h2⟩:∃ c2,((gG p (bP rows)).set k [c1])[i.toNat]? = some [c2]:=by
  rw [List.getElem?_set]
  by_cases hk:k = i.toNat
  ·rw [if_pos hk,if_pos (by rw [hk,Cm]; exact hl)]; exact ⟨c1,rfl⟩
  ·rw [if_neg hk]; exact ⟨c0,h0⟩
 exact LT.store (P:=P) (o:=o) (n:=n) (off:=off) (e:=e) (k:=0) (v:=.c c) ho hd hit hs rfl h2 (by rw [ha,Nat.add_zero]) (Nat.le_refl _)
theorem LT.aGl {x y:Operand} {t e:TypeId} {i:Int} {n len:Nat} {els:List (List CV)} {rows:List (List α)} {r:List α} (hl:len = rows.length) (ho:o.op = .indexAddr t x y) (h:wG P t = some e) (hi:idx rows i = some r) :
  LT P o [(x,Cc (.loc n 0 len)),(y,Iv i)] [(n,.row e els)] (Cc (.pl n (i.toNat * cO P e))) [] [] []:=by
 subst hl
 exact LT.Zx ho h (Kv hi) (Vk hi)
theorem LT.aOh {p k m n:Nat} {ins:List (Operand × AV)} {xU:Mem} {v:AV} {e e2:TypeId} {r r':List α} {rows:List (List α)}
  (h:LT P o ins ((m,.dL e2 (r.map enc)) :: xU) v [(m,.dL e2 (r'.map enc))] [m] [m]) (hk:rows[k]? = some r)
  (hc:(!Nat.beq p m && !Nat.beq n p && !Nat.beq n m && ins.all (fun q => Hz p m q.2) && xU.all (fun q => ![m,p].elem q.1 && qV [m,p] q.2)) = true) :
  LT P o (ins.map fun q => (q.1,Dl p k m q.2)) ((p,.pool e2 (rowsOf enc rows)) :: (n,.bf e p (bP rows)) :: xU) v [(m,.dL e2 (r'.map enc)),(p,.pool e2 (rowsOf enc (rows.set k []))),(n,.row e ((gG p (bP (rows.set k []))).set k [.junk]))] [p,n] [p,m]:=by
 have:=LT.aO1 (p:=p) (k:=k) (m:=m) (n:=n) (e:=e) (rows:=rowsOf enc rows) (lens:=bP rows) (zy:=[]) h (Je hk) (by rw [hc]; rfl)
 have e1:(rowsOf enc rows).set k [] = rowsOf enc (rows.set k []):=by simp [rowsOf,List.map_set]
 have e2:(gG p (bP (rows.set k []))).set k [CV.junk] = (gG p (bP rows)).set k [CV.junk]:=by
  have:bP (rows.set k []) = (bP rows).set k 0:=by simp [bP,List.map_set]
  rw [this,← aFg,List.set_set]
 rw [e1] at this
 rw [e2]
 exact this
theorem LT.aQC {t e:TypeId} {n:Nat} {x y:Operand} {len:Int} {b:Nat} (ho:o.op = .makeSlice t x y) (he:P.underlying t = some (.slice e)) (hz:TI P e aX 1 b) (hb:b ≤ 65536) (hl:0 ≤ len ∧ len ≤ wX) :
  LT P o [(x,Iv len),(y,Iv len)] [] (Cc (.loc n 0 len.toNat)) [(n,.row e (List.replicate len.toNat [.pv (.sc aX)]))] [] [n]:=by
 have:=LT.makeSlice (P:=P) (o:=o) (n:=n) (x:=x) (y:=y) (zc:=[.pv (.sc aX)]) ho he hz rfl rfl rfl (by decide) hb hl
 rw [List.length_replicate] at this
 have e1:(List.replicate len.toNat [CV.pv (.sc aX)]).map (·.map (dF [n])) = List.replicate len.toNat [CV.pv (.sc aX)]:=by simp [List.map_replicate,dF]
 rw [e1] at this
 exact this
theorem V5 {β:Type} {l:List β} {x:β}:l.length + 1 = (l ++ [x]).length:=by simp
end
end
section
section
variable {P:Program} {C:Ctx} {σ:Slots} {mm:Mem} {α:Type} {enc:α → List PV}
theorem aY.aA2 (t p k m:Nat) {e2:TypeId} {rows:List (List α)} {r:List α} {len:Nat} (hl:len = r.length) (h:lk σ t = some (Cc (.tl p k 0 len))) (hp:lk mm p = some (.pool e2 (rowsOf enc rows))) (hk:rows[k]? = some r)
  (hd:(!Nat.beq p m && !C.pn.elem m && !C.pn.elem p) = true) :
  aY P C σ mm ((t,Cc (.loc m 0 len)) :: kH [m,p] σ) ((m,.dL e2 (r.map enc)) :: (p,.pool e2 (rowsOf enc (rows.set k []))) :: jL [m,p] mm):=fun R B g a w hs => by
 subst hl
 simp only [Bool.and_eq_true,Bool.not_eq_true'] at hd
 obtain ⟨⟨hpm,hm1⟩,hp1⟩:=hd
 have hpm:=Nat.ne_of_beq_eq_false hpm
 have hm1:=lg hm1
 have hp1:=lg hp1
 have hw:=hs.wf
 obtain ⟨⟨bs,uq,hbl⟩,hrows⟩:=hs.ob p _ hp
 have hrm:=hrows k _ (Je hk)
 have had:iZ R B g w [p] [m,p] R B (uh p k m g) w:=by
  refine ⟨KI hw uq hpm,fun _ h => h,fun _ h => h,rfl,rfl,rfl,Nat.le_refl _,fun _ _ _ => rfl,fun q hq => yE hq,fun q hq b hb => ?_,fun q hq ZF => ?_⟩
  ·have:q = m ∨ q = p:=by simpa using hq
   rcases this with rfl | rfl
   ·rw [wH] at hb
    exact .inr ⟨p,by simp,GS.qm (GS.Ua hb)⟩
   ·rw [BQ hpm] at hb
    exact .inr ⟨q,by simp,(GS.ZA uq hb).1⟩
  ·have:q = p:=by simpa using hq
   subst this
   exact absurd (by simp) ZF
 have hst:=hs.step (us:=[(p,.pool e2 (rowsOf enc rows))]) (df:=[(m,.dL e2 (r.map enc)),(p,.pool e2 (rowsOf enc (rows.set k [])))]) (W:=[p]) (X:=[m,p]) (d:=none) (v:=.eH []) (u:=undef) ⟨hp,trivial⟩
  (fun q hq => by
   have:q = p:=by simpa using hq
   subst this
   exact ⟨.inl (by simp),_,List.mem_cons_self⟩)
  (fun q hq => by
   have:q = (m,.dL e2 (r.map enc)) ∨ q = (p,.pool e2 (rowsOf enc (rows.set k []))):=by simpa using hq
   rcases this with rfl | rfl
   ·exact .inl (by simp)
   ·exact .inl (by simp)) rfl (fun q hq => by
   have:q = m ∨ q = p:=by simpa using hq
   rcases this with rfl | rfl
   ·exact hm1
   ·exact hp1) had (fun b hb => .inl hb) (fun h => by cases h) (fun q hq => by
   have:q = (m,.dL e2 (r.map enc)) ∨ q = (p,.pool e2 (rowsOf enc (rows.set k []))):=by simpa using hq
   rcases this with rfl | rfl
   ·exact hrm.row wH
   ·refine ⟨⟨bs.set k none,by rw [BQ hpm,uq]; rfl,by simpa [Jf] using hbl⟩,fun j jK hj => ?_⟩
    show sO P w R B ((uh p k m g p).at j) e2 jK
    rw [BQ hpm]
    have e1:rowsOf enc (rows.set k []) = (rowsOf enc rows).set k []:=by simp [rowsOf,List.map_set]
    rw [e1,List.getElem?_set] at hj
    by_cases hjk:k = j
    ·subst hjk
     rw [if_pos rfl] at hj
     split at hj
     ·injection hj with hj
      subst hj
      rename_i hl
      refine .inl ⟨?_,rfl⟩
      rw [uq]
      simp only [GS.hole,GS.at,List.getElem?_set,if_true]
      rw [if_pos (by omega)]
     ·cases hj
    ·rw [if_neg hjk] at hj
     rw [GS.D8 fun e => hjk e.symm]
     exact hrows j jK hj)
 have hr:RC P w R B g (.tl p k 0 r.length) (a.tmps.getD t undef):=hs.sl t _ h
 refine ⟨R,B,uh p k m g,hst.slot (v:=Cc (.loc m 0 r.length)) ⟨hr.1,?_⟩⟩
 rcases hr.2 with ⟨z1,z2⟩ | z1 | ⟨b2,cap,zG,e3,z1,z2⟩
 ·exact .inl ⟨wH.trans z1,z2⟩
 ·exact .inr (.inl z1)
 ·exact .inr (.inr ⟨b2,cap,zG,e3,wH.trans z1,z2⟩)
theorem St.giveUp {R B:Nat → Prop} {g:Nat → GS} {a:Act} {w:World} (hs:St P C σ mm R B g a w) {n:Nat} {o:Ob} (ho:lk mm n = some o) (hn:n ∉ C.pn) (hU:∀ b,C.U0 b → ∃ k ∈ C.pn,(C.g0 k).has b) :
  iZ R B g w [] [n] (fun b => R b ∨ (g n).has b) (fun b => B b ∨ (g n).has b) (upd g n .dead) w ∧ St P C (kH [n] σ) (jL [n] mm) (fun b => R b ∨ (g n).has b) (fun b => B b ∨ (g n).has b) (upd g n .dead) a w:=by
 have hw:=hs.wf
 have hne:∀ k,k ≠ n → upd g n .dead k = g k:=fun k hk => upd_ne g _ hk
 have hwf:WF (fun b => R b ∨ (g n).has b) (fun b => B b ∨ (g n).has b) (upd g n .dead) w:=by
  have h0:=hw.upd n .dead (w':=w) (Nat.le_refl _) (fun b hb => hb.elim) (fun i j b hi => by cases hi)
  refine ⟨fun b hb => hb.imp (hw.rb b) id,fun b hb => hb.elim (hw.lt b) fun h => (hw.jV n b h).2,fun k b hk => ⟨fun hB => ?_,(h0.jV k b hk).2⟩,h0.kG,h0.nd⟩
  rcases hB with hB | hB
  ·exact (h0.jV k b hk).1 hB
  ·by_cases hkn:k = n
   ·subst hkn; rw [upd_same] at hk; exact hk.elim
   ·rw [hne k hkn] at hk
    exact hkn (hw.kG k n b hk hB)
 have had:iZ R B g w [] [n] (fun b => R b ∨ (g n).has b) (fun b => B b ∨ (g n).has b) (upd g n .dead) w:=by
  refine ⟨hwf,fun _ h => .inl h,fun _ h => .inl h,rfl,rfl,rfl,Nat.le_refl _,fun _ _ _ => rfl,fun k hk => hne k (by simpa using hk),fun k hk b hb => ?_,fun k hk => by cases hk⟩
  have:k = n:=by simpa using hk
  subst this
  rw [upd_same] at hb
  exact hb.elim
 refine ⟨had,?_⟩
 refine { hs with wf:=hwf,sl:=?_,ob:=?_,ow:=?_,perm:=?_,r0:=?_,pin:=?_ }
 ·intro t v hl
  rw [FY] at hl
  cases hv:lk σ t with
  | none => rw [hv] at hl; cases hl
  | some u =>
   rw [hv] at hl
   injection hl with hl
   subst hl
   exact had.ra hw (hs.sl t u hv)
 ·intro k o hl
  obtain ⟨hk,o0,h0,rfl⟩:=FX [n] mm k o hl
  exact had.ro hw hk (by simp) (hs.ob k o0 h0)
 ·intro k o b hl hg
  obtain ⟨hk,o0,h0,_⟩:=FX [n] mm k o hl
  rw [hne k (by simpa using hk)] at hg
  exact hs.ow k o0 b h0 hg
 ·intro b hb
  rcases hb with hb | hb
  ·exact hs.perm b hb
  ·rcases hs.ow n _ b ho hb with h | h
   ·exact .inr h
   ·obtain ⟨k,hk,hg⟩:=hU b h
    have:=hw.kG k n b (by rw [hs.pin k hk]; exact hg) hb
    subst this
    exact absurd hk hn
 ·intro b hb
  exact .inl (hs.r0 b hb)
 ·intro k hk
  rw [hne k (fun h => hn (h ▸ hk))]
  exact hs.pin k hk
theorem aY.aIt (n p:Nat) {e e2:TypeId} {rows:List (List α)} (hU:∀ b,C.U0 b → ∃ k ∈ C.pn,(C.g0 k).has b) (hd:(!Nat.beq n p && !C.pn.elem p) = true) (hn:lk mm n = some (.bf e p (bP rows))) (hp:lk mm p = some (.pool e2 (rowsOf enc rows))) :
  aY P C σ mm (kH [p] σ) ((n,.dL e (rows.map fun r => [PV.xs true (r.map enc)])) :: jL [p] mm):=fun R B g a w hs => by
 simp only [Bool.and_eq_true,Bool.not_eq_true'] at hd
 have hnp:=Nat.ne_of_beq_eq_false hd.1
 have hp1:=lg hd.2
 have hw:=hs.wf
 obtain ⟨⟨bs,uq,hbl⟩,hrows⟩:=hs.ob p _ hp
 have hrn:gq P w R B g n e (gG p (bP rows)):=hs.ob n _ hn
 obtain ⟨had,hs'⟩:=hs.giveUp hp hp1 hU
 have hgn:upd g p .dead n = g n:=upd_ne g _ hnp
 refine ⟨_,_,_,hs'.obj (n:=n) (o:=.dL e (rows.map fun r => [PV.xs true (r.map enc)])) (o0:=nV [p] (.bf e p (bP rows))) ?_ ?_⟩
 ·rw [Qj,if_neg (by simpa using hnp),hn]; rfl
 ·show gq P w _ _ _ n e (iP (rows.map fun r => [PV.xs true (r.map enc)]))
  rcases hrn with ⟨h1,h2⟩ | ⟨b,cur,h1,h2,h3,h4,h5⟩
  ·refine .inl ⟨hgn.trans h1,?_⟩
   have:(gG p (bP rows)).length = 0:=by rw [h2]; rfl
   rw [Cm,yV] at this
   rw [List.eq_nil_of_length_eq_zero this]; rfl
  ·have hsz:∀ (j:Nat) (r:List α),rows[j]? = some r → cO P e = 1:=fun j r hj => by
    have:=h3 _ (List.mem_of_getElem? (Tn (p:=p) (lens:=bP rows) (j:=j) (l:=r.length) (by rw [bP,List.getElem?_map,hj]; rfl)))
    simpa using this.symm
   refine .inr ⟨b,cur,hgn.trans h1,h2,fun cs hcs => ?_,by simpa [iP,Cm,yV] using h4,fun j k cs x hj hk => ?_⟩
   ·obtain ⟨j,hj⟩:=List.mem_iff_getElem?.1 hcs
    simp only [iP,List.getElem?_map] at hj
    cases hr:rows[j]? with
    | none => rw [hr] at hj; cases hj
    | some r =>
     rw [hr] at hj
     injection hj with hj
     subst hj
     rw [hsz j r hr]; rfl
   ·simp only [iP,List.getElem?_map] at hj
    cases hr:rows[j]? with
    | none => rw [hr] at hj; cases hj
    | some r =>
     rw [hr] at hj
     injection hj with hj
     subst hj
     cases k with
     | succ k => simp at hk
     | zero =>
      have:x = .pv (.xs true (r.map enc)):=by simpa using hk.symm
      subst this
      obtain ⟨u,hu,zI⟩:=h5 j 0 _ (.tl p j 0 r.length) (Tn (by rw [bP,List.getElem?_map,hr]; rfl)) rfl
      refine ⟨u,hu,zI.1,?_⟩
      have hrow:=hrows j _ (Je hr)
      show jg w _ _ (.xs true (r.map enc)) u
      rcases zI.2 with ⟨z1,z2,z3,z4⟩ | ⟨_,z2,_⟩ | ⟨b2,cap,zG,e3,z1,z2,z3,z4,z5,z6⟩
      ·have:r = []:=List.eq_nil_of_length_eq_zero z3
       subst this
       subst z4
       exact .emp
      ·exact absurd rfl z2
      ·rcases hrow with ⟨y1,_⟩ | ⟨b3,aQK,y1,y2,y3,y4,y5⟩
       ·rw [z1] at y1; cases y1
       ·rw [z1] at y1
        injection y1 with y1
        subst y1
        rw [z2] at y2
        injection y2 with y2
        injection y2 with y2 y6 y7
        subst y2
        subst y6
        subst z6
        refine .xs (s:=cO P e3) (fun j k => zG.getD (j * cO P e3 + k) undef) (by simp) (.inr (GS.qm z1)) (by simpa using z3) y3 (fun j k cs q hj hk => ?_) (fun j k cs q hj hk => ?_)
        ·obtain ⟨u2,hu2,_⟩:=y5 j k cs q hj hk
         rw [Nat.zero_mul,add_lit,Nat.zero_add,EX z2,hu2]
         simp [Array.getD_eq_getD_getElem?,hu2]
        ·obtain ⟨u2,hu2,hr2⟩:=y5 j k cs q hj hk
         have:zG.getD (j * cO P e3 + k) undef = u2:=by simp [Array.getD_eq_getD_getElem?,hu2]
         rw [this]
         exact had.pv hw hr2
theorem aY.aIu (t n p:Nat) {e e2:TypeId} {rows:List (List α)} {Dn:List α → List PV} {len:Nat} (hU:∀ b,C.U0 b → ∃ k ∈ C.pn,(C.g0 k).has b) (hd:(!Nat.beq n p && !C.pn.elem p && !C.pn.elem n) = true) (hE:∀ r,Dn r = [.xs true (r.map enc)])
  (hl:len = rows.length) (h:lk σ t = some (Cc (.loc n 0 len))) (hn:lk mm n = some (.bf e p (bP rows))) (hp:lk mm p = some (.pool e2 (rowsOf enc rows))) :
  aY P C σ mm ((t,Cc (.pv (.xs true (rows.map Dn)))) :: kH [n] (kH [p] σ)) (jL [n] ((n,.dL e (rows.map Dn)) :: jL [p] mm)):=by
 simp only [Bool.and_eq_true] at hd
 have he:(fun r:List α => [PV.xs true (r.map enc)]) = Dn:=funext fun r => (hE r).symm
 have h1:=aY.aIt (P:=P) (C:=C) (σ:=σ) n p hU (by rw [hd.1.1,hd.1.2]; rfl) hn hp
 rw [he] at h1
 refine h1.trans (aY.H6 (e:=e) t n hU (by simpa using hd.2) hl ?_ ?_)
 ·rw [FY,h]
  show some (qU [p] (Cc (.loc n 0 len))) = _
  have:[p].elem n = false:=by
   have:=Nat.ne_of_beq_eq_false (by simpa using hd.1.1:Nat.beq n p = false)
   simp [this]
  show some (AV.s (.c (bif [p].elem n then CV.junk else .loc n 0 len))) = _
  rw [this]; rfl
 ·show (bif Nat.beq n n then _ else _) = _
  rw [Nat.beq_refl]; rfl
end
end
section
section
variable {P:Program} {o:Oper}
theorem LT.aEH {f:FuncId} {ops:Array Operand} (caps:List Nat) (ho:o.op = .makeFunc (.func f) #[] ops) (hlen:ops.size = caps.length):LT P o (Ej ops.toList (caps.map OZ)) [] (Cc (.fn f caps)) [] [] []:=.calm fun R B g w a _ hin _ => by
 have hget:∀ (k n:Nat),caps[k]? = some n → ∃ b,g n = .blk b ∧ (ops.toList.map a.eval)[k]? = some (Value.pointer (some ⟨b,0,none⟩)):=fun k n hk => by
  have hkl:k < ops.toList.length:=by rw [Array.length_toList,hlen]; exact (List.getElem?_eq_some_iff.1 hk).1
  have hm:(ops.toList[k],AV.s (OZ n)) ∈ Ej ops.toList (caps.map OZ):=by
   refine List.mem_map.2 ⟨(ops.toList[k],OZ n),?_,rfl⟩
   refine List.mem_of_getElem? (i:=k) ?_
   rw [List.getElem?_zip_eq_some]
   exact ⟨List.getElem?_eq_getElem hkl,by rw [List.getElem?_map,hk]; rfl⟩
  obtain ⟨_,b,h1,h2⟩:=hin _ hm
  exact ⟨b,h1,by rw [List.getElem?_map,List.getElem?_eq_getElem hkl]; exact congrArg some h2⟩
 refine ⟨.func (.func f) #[] (ops.map a.eval),by simp [execOp,ho,Instr.makeFunc],rfl,ops.toList.map a.eval,?_,by rw [List.length_map,Array.length_toList,hlen],hget⟩
 congr 1
 apply Array.ext'
 simp
theorem LT.Ud {cf:Operand} {f:FuncId} {ops:Array Operand} {ts:Array TypeId} (caps:List Nat) {xs:List SV} (ys:List SV) {us sh df:Mem} {v:AV} {W X:List Nat} (hf:Fn P f (ys ++ caps.map OZ) us v df W X)
  (ho:o.op = .call { callee:=.value cf,args:=ops,argTypes:=ts }) (hb:dM P f = true) (hsh:qO sh xs ys) (hlen:ops.size = xs.length)
  (hside:(nG (keys sh) (W ++ X ++ keys us ++ keys df ++ caps) && fJ W (keys us)) = true) (hus:Eo (keys sh) us):LT P o ((cf,Cc (.fn f caps)) :: Ej ops.toList xs) (us ++ sh) v df W X :=
 LT.call hf ho hb hlen hsh hside hus.spec
end
end
section
inductive En (n:Nat) (els:List (List PV)):CV → CV → Prop
 | same {x y:CV} (h:dF [n] x = y):En n els x y
 | fr {l:Nat} (h:l = els.length):En n els (.loc n 0 l) (.pv (.xs true els))
inductive zi (n:Nat) (els:List (List PV)):List CV → List CV → Prop
 | nil:zi n els [] []
 | cons {x y:CV} {xs ys:List CV} (h:En n els x y) (t:zi n els xs ys):zi n els (x :: xs) (y :: ys)
inductive Em (n:Nat) (els:List (List PV)):AV → AV → Prop
 | same {x y:AV} (h:qU [n] x = y):Em n els x y
 | c {x y:CV} (h:En n els x y):Em n els (.s (.c x)) (.s (.c y))
 | agg {xs ys:List CV} (h:zi n els xs ys):Em n els (.s (.agg xs)) (.s (.agg ys))
inductive J3 (n:Nat) (els:List (List PV)):Ob → Ob → Prop
 | same {x y:Ob} (h:nV [n] x = y):J3 n els x y
 | row {e:TypeId} {xs ys:List CV} (h:zi n els xs ys):J3 n els (.row e [xs]) (.row e [ys])
def O6 (n:Nat) (els:List (List PV)) (σ:Slots):Slots → Prop
 | [] => True
 | (t,v) :: r => (∃ x,lk σ t = some x ∧ Em n els x v) ∧ O6 n els σ r
def G6 (n:Nat) (els:List (List PV)) (m:Mem):Mem → Prop
 | [] => True
 | (k,o) :: r => (Nat.beq k n = false ∧ ∃ x,lk m k = some x ∧ J3 n els x o) ∧ G6 n els m r
section
variable {P:Program} {C:Ctx} {σ σ':Slots} {m m':Mem} {n:Nat} {els:List (List PV)}
theorem O6.get:∀ {σ':Slots},O6 n els σ σ' → ∀ t v,lk σ' t = some v → ∃ x,lk σ t = some x ∧ Em n els x v
 | [],_,t,v,h => by cases h
 | (k,v') :: r,h,t,v,hl => by
  change (bif Nat.beq k t then some v' else lk r t) = some v at hl
  cases hb:Nat.beq k t with
  | true =>
   rw [hb,cond_true] at hl
   injection hl with hl
   subst hl
   have:=Nat.eq_of_beq_eq_true hb
   subst this
   exact h.1
  | false =>
   rw [hb,cond_false] at hl
   exact O6.get h.2 t v hl
theorem G6.get:∀ {m':Mem},G6 n els m m' → ∀ k o,lk m' k = some o → k ≠ n ∧ ∃ x,lk m k = some x ∧ J3 n els x o
 | [],_,t,v,h => by cases h
 | (k,v') :: r,h,t,v,hl => by
  change (bif Nat.beq k t then some v' else lk r t) = some v at hl
  cases hb:Nat.beq k t with
  | true =>
   rw [hb,cond_true] at hl
   injection hl with hl
   subst hl
   have:=Nat.eq_of_beq_eq_true hb
   subst this
   exact ⟨Nat.ne_of_beq_eq_false h.1.1,h.1.2⟩
  | false =>
   rw [hb,cond_false] at hl
   exact G6.get h.2 t v hl
theorem zi.get {xs ys:List CV} (h:zi n els xs ys):xs.length = ys.length ∧ ∀ (k:Nat) y,ys[k]? = some y → ∃ x,xs[k]? = some x ∧ En n els x y:=by
 induction h with
 | nil => exact ⟨rfl,fun k y h => by simp at h⟩
 | cons h _ ih =>
  refine ⟨by simp [ih.1],fun k y hk => ?_⟩
  cases k with
  | zero => simp at hk; subst hk; exact ⟨_,rfl,h⟩
  | succ k => exact ih.2 k y (by simpa using hk)
section
variable {w:World} {R B R' B':Nat → Prop} {g g':Nat → GS}
theorem En.rc (had:iZ R B g w [] [n] R' B' g' w) (hw:WF R B g w) (hv:∀ v,RC P w R B g (.loc n 0 els.length) v → jg w R' B' (.xs true els) v) {x y:CV} {v:Value} (h:En n els x y) (hx:RC P w R B g x v):RC P w R' B' g' y v:=by
 cases h with
 | same h => subst h; exact had.rc hw hx
 | fr h => subst h; exact ⟨hx.1,hv v hx⟩
theorem zi.rl (had:iZ R B g w [] [n] R' B' g' w) (hw:WF R B g w) (hv:∀ v,RC P w R B g (.loc n 0 els.length) v → jg w R' B' (.xs true els) v) {xs ys:List CV} (h:zi n els xs ys) {us:Nat → Option Value} (hx:∀ (k:Nat) x,xs[k]? = some x → ∃ u,us k = some u ∧ RC P w R B g x u) :
  ∀ (k:Nat) y,ys[k]? = some y → ∃ u,us k = some u ∧ RC P w R' B' g' y u:=fun k y hk => by
 obtain ⟨x,h1,h2⟩:=h.get.2 k y hk
 obtain ⟨u,h3,h4⟩:=hx k x h1
 exact ⟨u,h3,h2.rc had hw hv h4⟩
theorem Em.ra (had:iZ R B g w [] [n] R' B' g' w) (hw:WF R B g w) (hv:∀ v,RC P w R B g (.loc n 0 els.length) v → jg w R' B' (.xs true els) v) {x y:AV} {v:Value} (h:Em n els x y) (hx:RA P w R B g x v):RA P w R' B' g' y v:=by
 cases h with
 | same h => subst h; exact had.ra hw hx
 | c h => exact En.rc had hw hv h hx
 | agg h =>
  obtain ⟨vs,h1,h2,h3⟩:=hx
  exact ⟨vs,h1,h2.trans h.get.1,zi.rl had hw hv h h3⟩
theorem J3.ro (had:iZ R B g w [] [n] R' B' g' w) (hw:WF R B g w) (hv:∀ v,RC P w R B g (.loc n 0 els.length) v → jg w R' B' (.xs true els) v) {k:Nat} (hk:k ≠ n) {x y:Ob} (h:J3 n els x y) (hx:RO P w R B g k x):RO P w R' B' g' k y:=by
 cases h with
 | same h => subst h; exact had.ro hw (by simpa using hk) (by simp) hx
 | @row e xs ys h =>
  have hg:g' k = g k:=had.names k (by simpa using hk)
  rcases hx with ⟨h1,h2⟩ | ⟨b,cur,h1,h2,h3,h4,h5⟩
  ·cases h2
  ·refine .inr ⟨b,cur,hg.trans h1,h2,fun cs hcs => ?_,h4,fun j i cs y hj hi => ?_⟩
   ·have:cs = ys:=by simpa using hcs
    subst this
    rw [← h.get.1]
    exact h3 xs (by simp)
   ·cases j with
    | succ j => simp at hj
    | zero =>
     have:ys = cs:=by simpa using hj
     subst this
     exact zi.rl had hw hv h (us:=fun i => cur[0 * cO P e + i]?) (fun i x hi => h5 0 i xs x rfl hi) i y hi
end
variable {α:Type} {enc:α → List PV}
theorem aY.AB (n:Nat) {e:TypeId} {xs:List α} (hU:∀ b,C.U0 b → ∃ k ∈ C.pn,(C.g0 k).has b) (hn:C.pn.elem n = false) (ho:lk m n = some (.dL e (xs.map enc)))
  (h1:O6 n (xs.map enc) σ σ') (h2:G6 n (xs.map enc) m m'):aY P C σ m σ' m':=fun R B g a w hs => by
 obtain ⟨R',B',g',had,hs',hv⟩:=hs.freeze ho (fun h => by rw [List.elem_eq_true_of_mem h] at hn; cases hn) hU
 refine ⟨R',B',g',{ hs' with sl:=fun t v hl => ?_,ob:=fun k o hl => ?_,ow:=fun k o b hl hg => ?_ }⟩
 ·obtain ⟨x,h3,h4⟩:=h1.get t v hl
  exact h4.ra had hs.wf hv (hs.sl t x h3)
 ·obtain ⟨hk,x,h3,h4⟩:=h2.get k o hl
  exact h4.ro had hs.wf hv hk (hs.ob k x h3)
 ·obtain ⟨hk,x,h3,h4⟩:=h2.get k o hl
  rw [had.names k (by simpa using hk)] at hg
  exact hs.ow k x b h3 hg
end
end
section
section
variable {P:Program} {w:World} {R B:Nat → Prop} {g:Nat → GS}
theorem aIv (hw:WF R B g w) {n:Nat} {e:TypeId} {els:List (List PV)} (hro:gq P w R B g n e (iP els)) :
  ∃ R' B' g',iZ R B g w [] [n] R' B' g' w ∧ (∀ b,R' b → R b ∨ (g n).has b) ∧ ∀ v,RC P w R B g (.loc n 0 els.length) v → jg w R' B' (.xs true els) v:=by
 let R':Nat → Prop:=fun b => R b ∨ (g n).has b
 let B':Nat → Prop:=fun b => B b ∨ (g n).has b
 have hne:∀ k,k ≠ n → upd g n .dead k = g k:=fun k hk => upd_ne g _ hk
 have hwf:WF R' B' (upd g n .dead) w:=by
  have h0:=hw.upd n .dead (w':=w) (Nat.le_refl _) (fun b hb => hb.elim) (fun i j b hi => by cases hi)
  refine ⟨fun b hb => hb.imp (hw.rb b) id,fun b hb => hb.elim (hw.lt b) fun h => (hw.jV n b h).2,fun k b hk => ⟨fun hB => ?_,(h0.jV k b hk).2⟩,h0.kG,h0.nd⟩
  rcases hB with hB | hB
  ·exact (h0.jV k b hk).1 hB
  ·by_cases hkn:k = n
   ·subst hkn; rw [upd_same] at hk; exact hk.elim
   ·rw [hne k hkn] at hk
    exact hkn (hw.kG k n b hk hB)
 have had:iZ R B g w [] [n] R' B' (upd g n .dead) w:=by
  refine ⟨hwf,fun _ h => .inl h,fun _ h => .inl h,rfl,rfl,rfl,Nat.le_refl _,fun _ _ _ => rfl,fun k hk => hne k (by simpa using hk),fun k hk b hb => ?_,fun k hk => by cases hk⟩
  have:k = n:=by simpa using hk
  subst this
  rw [upd_same] at hb
  exact hb.elim
 refine ⟨R',B',upd g n .dead,had,fun b hb => hb,fun v hv => ?_⟩
 obtain ⟨_,hv⟩:=hv
 rcases hv with ⟨h1,_,h3,h4⟩ | ⟨_,h2,_⟩ | ⟨b,cap,cur,e',k1,k2,k3,k4,k5,k6⟩
 ·have:els = []:=List.eq_nil_of_length_eq_zero h3
  subst this
  subst h4
  exact .emp
 ·exact absurd rfl h2
 ·rcases hro with ⟨h1,_⟩ | ⟨b',cur',h1,h2,h3,h4,h5⟩
  ·rw [k1] at h1; cases h1
  ·rw [k1] at h1
   injection h1 with h1
   subst h1
   rw [k2] at h2
   injection h2 with h2
   injection h2 with h2 h6 h7
   subst h2
   subst h6
   subst k6
   have hval:∀ j k cs p,els[j]? = some cs → cs[k]? = some p → ∃ u,cur[j * cO P e' + k]? = some u ∧ RC P w R B g (.pv p) u:=fun j k cs p hj hk => by
    have:=h5 j k (cs.map .pv) (.pv p) (by simp [iP,hj]) (by simp [hk])
    exact this
   refine .xs (s:=cO P e') (fun j k => cur.getD (j * cO P e' + k) undef) rfl (.inr (GS.xE k1)) k3 (fun cs hcs => ?_) (fun j k cs p hj hk => ?_) (fun j k cs p hj hk => ?_)
   ·have:=h3 (cs.map .pv) (List.mem_map.2 ⟨cs,hcs,rfl⟩)
    simpa using this
   ·obtain ⟨u,hu,_⟩:=hval j k cs p hj hk
    rw [Nat.zero_mul,add_lit,Nat.zero_add,EX k2,hu]
    simp [Array.getD_eq_getD_getElem?,hu]
   ·obtain ⟨u,hu,hr⟩:=hval j k cs p hj hk
    have:cur.getD (j * cO P e' + k) undef = u:=by simp [Array.getD_eq_getD_getElem?,hu]
    rw [this]
    exact (had.rc hw (x:=.pv p) hr).2
variable {o:Oper} {α:Type} {enc:α → List PV}
theorem LT.aC6 (n:Nat) {e:TypeId} {xs:List α} {ins:List (Operand × AV)} {us df zH:Mem} {v v':AV} {X:List Nat} (h:LT P o ins us v df [] X) (hn:X.elem n = true) (hdn:lk df n = some (.dL e (xs.map enc)))
  (hv:Em n (xs.map enc) v v') (hdf:G6 n (xs.map enc) df zH):LT P o ins us v' zH [] X:=fun R B g w a hw hin hu K Q hK => by
 refine h R B g w a hw hin hu K Q fun u R' B' g' w' had hR zI hrd => ?_
 have uw:n ∈ X:=List.mem_of_elem_eq_true hn
 obtain ⟨R2,B2,g2,fz,hR2,KU⟩:=aIv had.wf (hrd _ (Bo hdn))
 have aJC:iZ R B g w [] X R2 B2 g2 w':=by
  refine ⟨fz.wf,fun b hb => fz.r b (had.r b hb),fun b hb => fz.b b (had.b b hb),had.os,had.tape,had.output,had.size,had.heap,fun k hk => ?_,fun k hk b hb => ?_,fun k hk => by cases hk⟩
  ·have:k ≠ n:=fun e => hk (e ▸ uw)
   rw [fz.names k (by simpa using this)]
   exact had.names k hk
  ·by_cases hkn:k = n
   ·subst hkn
    rcases fz.fresh k (by simp) b hb with h1 | ⟨m,hm,_⟩
    ·exact .inl (Nat.le_trans had.size h1)
    ·cases hm
   ·rw [fz.names k (by simpa using hkn)] at hb
    exact had.fresh k hk b hb
 refine hK u R2 B2 g2 w' aJC (fun b hb => ?_) (fun hd => hv.ra fz had.wf KU (zI hd)) (fun p hp => ?_)
 ·rcases hR2 b hb with h1 | h1
  ·exact hR b h1
  ·rcases had.fresh n uw b h1 with h2 | ⟨m,hm,_⟩
   ·exact .inr h2
   ·cases hm
 ·have hall:∀ {zH:Mem},G6 n (xs.map enc) df zH → ∀ p ∈ zH,RO P w' R2 B2 g2 p.1 p.2:=by
   intro zH
   induction zH with
   | nil => intro _ p hp; cases hp
   | cons q r ih =>
    intro hf p hp
    cases hp with
    | head =>
     obtain ⟨⟨h1,x,h2,h3⟩,_⟩:=hf
     exact h3.ro fz had.wf KU (Nat.ne_of_beq_eq_false h1) (hrd _ (Bo h2))
    | tail _ hp => exact ih hf.2 p hp
  exact hall hdf p hp
end
end
section
abbrev xF {α:Type} (enc:α → List PV) (l:List α):CV:=.pv (.xs false (l.map enc))
abbrev xT {α:Type} (enc:α → List PV) (l:List α):CV:=.pv (.xs true (l.map enc))
abbrev lo (n len:Nat):CV:=.loc n 0 len
abbrev pR {α:Type} (e:TypeId) (enc:α → List PV) (l:List α):Ob:=.dL e (l.map enc)
section
variable {P:Program} {C:Ctx} {σ:Slots} {m:Mem} {is:List It} {τ υ:Type} {M:Option τ} {K:τ → Post} {ops:Array Oper} {l:List Oper} {done:List Ct} {rest:List Oper} {o:Oper}
theorem On (h:aB P C is σ m M K):aT P C ops [] is σ m M K:=aT.nil h
theorem aS {x:Option υ} {f:υ → Option τ} (h:∀ u,x = some u → aT P C ops rest is σ m (f u) K):aT P C ops rest is σ m (x.bind f) K:=aT.bind h
theorem Ws {x y:Code} (h:aB P C (.code x :: .code y :: is) σ m M K):aB P C (.code (.seq x y) :: is) σ m M K:=aB.seq h
theorem Wr {id:Nat} {l:List Oper} (h:aT P C l.toArray l is σ m M K):aB P C (.code (.region id l.toArray false) :: is) σ m M K:=aB.region h
theorem Ok {j:Nat} {want:Bool} {d:Tmp} {c:Bool} (hg:o.guard = some (j,want)) (h1:(ops[j]?).bind (·.dst) = some d) (h2:lk σ d = some (Bv c)) (h3:(c == want) = false) (hd:iW C.N o.dst = true) (h:aT P C ops rest is (gU σ o.dst (.eH [])) m M K):aT P C ops (o :: rest) is σ m M K :=
 aT.skip (by unfold ig; rw [hg]; exact ⟨d,h1,.inl ⟨c,h2,h3.symm⟩⟩) hd h
theorem Oj {j:Nat} {want:Bool} {d:Tmp} (hg:o.guard = some (j,want)) (h1:(ops[j]?).bind (·.dst) = some d) (h2:lk σ d = some (.eH [])) (hd:iW C.N o.dst = true) (h:aT P C ops rest is (gU σ o.dst (.eH [])) m M K):aT P C ops (o :: rest) is σ m M K :=
 aT.skip (by unfold ig; rw [hg]; exact ⟨d,h1,.inr ⟨h2,rfl⟩⟩) hd h
theorem aGr   {v:AV} (hlt:LT P o [] [] v [] [] [])   (hg:ig ops σ o true) (hd:iW C.N o.dst = true) (h:aT P C ops rest is (gU σ o.dst v) m M K):aT P C ops (o :: rest) is σ m M K:=aT.pure hlt trivial trivial hg hd h
theorem jo   {v:AV} {df:Mem} {W X:List Nat} (hlt:LT P o [] [] v df W X)   (hg:ig ops σ o true) (hs:(iW C.N o.dst && fJ W (X ++ keys df) && fJ W (keys ([]:Mem)) && fJ (keys df) (X ++ W) && nG X C.pn) = true) (h:aT P C ops rest is (gU (kH X σ) o.dst v) (df ++ jL X m) M K):aT P C ops (o :: rest) is σ m M K:=aT.step hlt trivial trivial hg hs h
theorem zB   {v:AV} {df:Mem} {W X:List Nat} (hlt:LT P o [] [] v df W X)   (hg:ig l.toArray σ o true) (hs:(iW C.N o.dst && fJ W (X ++ keys df) && fJ W (keys ([]:Mem)) && fJ (keys df) (X ++ W) && nG X C.pn) = true) (h:aQ P C l (⟨[],[],v,df,W,X,true⟩ :: done) rest is (gU (kH X σ) o.dst v) (df ++ jL X m) M K):aQ P C l done (o :: rest) is σ m M K:=aQ.step hlt trivial trivial hg hs h
theorem aW {x0:Operand} {v0:AV}  {v:AV} (hlt:LT P o [(x0,v0)] [] v [] [] []) (e0:gI σ x0 v0)  (hg:ig ops σ o true) (hd:iW C.N o.dst = true) (h:aT P C ops rest is (gU σ o.dst v) m M K):aT P C ops (o :: rest) is σ m M K:=aT.pure hlt ⟨e0,trivial⟩ trivial hg hd h
theorem pV {x0:Operand} {v0:AV}  {v:AV} {df:Mem} {W X:List Nat} (hlt:LT P o [(x0,v0)] [] v df W X) (e0:gI σ x0 v0)  (hg:ig ops σ o true) (hs:(iW C.N o.dst && fJ W (X ++ keys df) && fJ W (keys ([]:Mem)) && fJ (keys df) (X ++ W) && nG X C.pn) = true) (h:aT P C ops rest is (gU (kH X σ) o.dst v) (df ++ jL X m) M K):aT P C ops (o :: rest) is σ m M K:=aT.step hlt ⟨e0,trivial⟩ trivial hg hs h
theorem ax {x0:Operand} {v0:AV}  {v:AV} (hlt:LT P o [(x0,v0)] [] v [] [] []) (e0:gI σ x0 v0)  (hg:ig l.toArray σ o true) (hd:iW C.N o.dst = true) (h:aQ P C l (⟨[(x0,v0)],[],v,[],[],[],true⟩ :: done) rest is (gU σ o.dst v) m M K):aQ P C l done (o :: rest) is σ m M K:=aQ.pure hlt ⟨e0,trivial⟩ trivial hg hd h
theorem G5 {x0:Operand} {v0:AV}  {v:AV} {df:Mem} {W X:List Nat} (hlt:LT P o [(x0,v0)] [] v df W X) (e0:gI σ x0 v0)  (hg:ig l.toArray σ o true) (hs:(iW C.N o.dst && fJ W (X ++ keys df) && fJ W (keys ([]:Mem)) && fJ (keys df) (X ++ W) && nG X C.pn) = true) (h:aQ P C l (⟨[(x0,v0)],[],v,df,W,X,true⟩ :: done) rest is (gU (kH X σ) o.dst v) (df ++ jL X m) M K):aQ P C l done (o :: rest) is σ m M K:=aQ.step hlt ⟨e0,trivial⟩ trivial hg hs h
theorem bV {x0:Operand} {v0:AV} {n0:Nat} {o0:Ob} {v:AV} (hlt:LT P o [(x0,v0)] [(n0,o0)] v [] [] []) (e0:gI σ x0 v0) (l0:lk m n0 = some o0) (hg:ig ops σ o true) (hd:iW C.N o.dst = true) (h:aT P C ops rest is (gU σ o.dst v) m M K):aT P C ops (o :: rest) is σ m M K:=aT.pure hlt ⟨e0,trivial⟩ ⟨l0,trivial⟩ hg hd h
theorem fM {x0:Operand} {v0:AV} {n0:Nat} {o0:Ob} {v:AV} (hlt:LT P o [(x0,v0)] [(n0,o0)] v [] [] []) (e0:gI σ x0 v0) (l0:lk m n0 = some o0) (hg:ig l.toArray σ o true) (hd:iW C.N o.dst = true) (h:aQ P C l (⟨[(x0,v0)],[(n0,o0)],v,[],[],[],true⟩ :: done) rest is (gU σ o.dst v) m M K):aQ P C l done (o :: rest) is σ m M K:=aQ.pure hlt ⟨e0,trivial⟩ ⟨l0,trivial⟩ hg hd h
theorem bg {x0:Operand} {v0:AV} {x1:Operand} {v1:AV}  {v:AV} (hlt:LT P o [(x0,v0),(x1,v1)] [] v [] [] []) (e0:gI σ x0 v0) (e1:gI σ x1 v1)  (hg:ig ops σ o true) (hd:iW C.N o.dst = true) (h:aT P C ops rest is (gU σ o.dst v) m M K):aT P C ops (o :: rest) is σ m M K:=aT.pure hlt ⟨e0,e1,trivial⟩ trivial hg hd h
theorem G7 {x0:Operand} {v0:AV} {x1:Operand} {v1:AV}  {v:AV} {df:Mem} {W X:List Nat} (hlt:LT P o [(x0,v0),(x1,v1)] [] v df W X) (e0:gI σ x0 v0) (e1:gI σ x1 v1)  (hg:ig ops σ o true) (hs:(iW C.N o.dst && fJ W (X ++ keys df) && fJ W (keys ([]:Mem)) && fJ (keys df) (X ++ W) && nG X C.pn) = true) (h:aT P C ops rest is (gU (kH X σ) o.dst v) (df ++ jL X m) M K):aT P C ops (o :: rest) is σ m M K:=aT.step hlt ⟨e0,e1,trivial⟩ trivial hg hs h
theorem bZ {x0:Operand} {v0:AV} {x1:Operand} {v1:AV}  {v:AV} (hlt:LT P o [(x0,v0),(x1,v1)] [] v [] [] []) (e0:gI σ x0 v0) (e1:gI σ x1 v1)  (hg:ig l.toArray σ o true) (hd:iW C.N o.dst = true) (h:aQ P C l (⟨[(x0,v0),(x1,v1)],[],v,[],[],[],true⟩ :: done) rest is (gU σ o.dst v) m M K):aQ P C l done (o :: rest) is σ m M K:=aQ.pure hlt ⟨e0,e1,trivial⟩ trivial hg hd h
theorem aBY {x0:Operand} {v0:AV} {x1:Operand} {v1:AV}  {v:AV} {df:Mem} {W X:List Nat} (hlt:LT P o [(x0,v0),(x1,v1)] [] v df W X) (e0:gI σ x0 v0) (e1:gI σ x1 v1)  (hg:ig l.toArray σ o true) (hs:(iW C.N o.dst && fJ W (X ++ keys df) && fJ W (keys ([]:Mem)) && fJ (keys df) (X ++ W) && nG X C.pn) = true) (h:aQ P C l (⟨[(x0,v0),(x1,v1)],[],v,df,W,X,true⟩ :: done) rest is (gU (kH X σ) o.dst v) (df ++ jL X m) M K):aQ P C l done (o :: rest) is σ m M K:=aQ.step hlt ⟨e0,e1,trivial⟩ trivial hg hs h
theorem jf {x0:Operand} {v0:AV} {x1:Operand} {v1:AV} {n0:Nat} {o0:Ob} {v:AV} (hlt:LT P o [(x0,v0),(x1,v1)] [(n0,o0)] v [] [] []) (e0:gI σ x0 v0) (e1:gI σ x1 v1) (l0:lk m n0 = some o0) (hg:ig ops σ o true) (hd:iW C.N o.dst = true) (h:aT P C ops rest is (gU σ o.dst v) m M K):aT P C ops (o :: rest) is σ m M K:=aT.pure hlt ⟨e0,e1,trivial⟩ ⟨l0,trivial⟩ hg hd h
theorem dZ {x0:Operand} {v0:AV} {x1:Operand} {v1:AV} {n0:Nat} {o0:Ob} {v:AV} {df:Mem} {W X:List Nat} (hlt:LT P o [(x0,v0),(x1,v1)] [(n0,o0)] v df W X) (e0:gI σ x0 v0) (e1:gI σ x1 v1) (l0:lk m n0 = some o0) (hg:ig ops σ o true) (hs:(iW C.N o.dst && fJ W (X ++ keys df) && fJ W (keys [(n0,o0)]) && fJ (keys df) (X ++ W) && nG X C.pn) = true) (h:aT P C ops rest is (gU (kH X σ) o.dst v) (df ++ jL X m) M K):aT P C ops (o :: rest) is σ m M K:=aT.step hlt ⟨e0,e1,trivial⟩ ⟨l0,trivial⟩ hg hs h
theorem mF {x0:Operand} {v0:AV} {x1:Operand} {v1:AV} {n0:Nat} {o0:Ob} {v:AV} (hlt:LT P o [(x0,v0),(x1,v1)] [(n0,o0)] v [] [] []) (e0:gI σ x0 v0) (e1:gI σ x1 v1) (l0:lk m n0 = some o0) (hg:ig l.toArray σ o true) (hd:iW C.N o.dst = true) (h:aQ P C l (⟨[(x0,v0),(x1,v1)],[(n0,o0)],v,[],[],[],true⟩ :: done) rest is (gU σ o.dst v) m M K):aQ P C l done (o :: rest) is σ m M K:=aQ.pure hlt ⟨e0,e1,trivial⟩ ⟨l0,trivial⟩ hg hd h
theorem lQ {x0:Operand} {v0:AV} {x1:Operand} {v1:AV} {n0:Nat} {o0:Ob} {v:AV} {df:Mem} {W X:List Nat} (hlt:LT P o [(x0,v0),(x1,v1)] [(n0,o0)] v df W X) (e0:gI σ x0 v0) (e1:gI σ x1 v1) (l0:lk m n0 = some o0) (hg:ig l.toArray σ o true) (hs:(iW C.N o.dst && fJ W (X ++ keys df) && fJ W (keys [(n0,o0)]) && fJ (keys df) (X ++ W) && nG X C.pn) = true) (h:aQ P C l (⟨[(x0,v0),(x1,v1)],[(n0,o0)],v,df,W,X,true⟩ :: done) rest is (gU (kH X σ) o.dst v) (df ++ jL X m) M K):aQ P C l done (o :: rest) is σ m M K:=aQ.step hlt ⟨e0,e1,trivial⟩ ⟨l0,trivial⟩ hg hs h
theorem qM {x0:Operand} {v0:AV} {x1:Operand} {v1:AV} {n0:Nat} {o0:Ob} {n1:Nat} {o1:Ob} {v:AV} {df:Mem} {W X:List Nat} (hlt:LT P o [(x0,v0),(x1,v1)] [(n0,o0),(n1,o1)] v df W X) (e0:gI σ x0 v0) (e1:gI σ x1 v1) (l0:lk m n0 = some o0) (l1:lk m n1 = some o1) (hg:ig ops σ o true) (hs:(iW C.N o.dst && fJ W (X ++ keys df) && fJ W (keys [(n0,o0),(n1,o1)]) && fJ (keys df) (X ++ W) && nG X C.pn) = true) (h:aT P C ops rest is (gU (kH X σ) o.dst v) (df ++ jL X m) M K):aT P C ops (o :: rest) is σ m M K:=aT.step hlt ⟨e0,e1,trivial⟩ ⟨l0,l1,trivial⟩ hg hs h
theorem Jz {x0:Operand} {v0:AV} {x1:Operand} {v1:AV} {n0:Nat} {o0:Ob} {n1:Nat} {o1:Ob} {v:AV} {df:Mem} {W X:List Nat} (hlt:LT P o [(x0,v0),(x1,v1)] [(n0,o0),(n1,o1)] v df W X) (e0:gI σ x0 v0) (e1:gI σ x1 v1) (l0:lk m n0 = some o0) (l1:lk m n1 = some o1) (hg:ig l.toArray σ o true) (hs:(iW C.N o.dst && fJ W (X ++ keys df) && fJ W (keys [(n0,o0),(n1,o1)]) && fJ (keys df) (X ++ W) && nG X C.pn) = true) (h:aQ P C l (⟨[(x0,v0),(x1,v1)],[(n0,o0),(n1,o1)],v,df,W,X,true⟩ :: done) rest is (gU (kH X σ) o.dst v) (df ++ jL X m) M K):aQ P C l done (o :: rest) is σ m M K:=aQ.step hlt ⟨e0,e1,trivial⟩ ⟨l0,l1,trivial⟩ hg hs h
theorem aGq {x0:Operand} {v0:AV} {x1:Operand} {v1:AV} {x2:Operand} {v2:AV}  {v:AV} {df:Mem} {W X:List Nat} (hlt:LT P o [(x0,v0),(x1,v1),(x2,v2)] [] v df W X) (e0:gI σ x0 v0) (e1:gI σ x1 v1) (e2:gI σ x2 v2)  (hg:ig l.toArray σ o true) (hs:(iW C.N o.dst && fJ W (X ++ keys df) && fJ W (keys ([]:Mem)) && fJ (keys df) (X ++ W) && nG X C.pn) = true) (h:aQ P C l (⟨[(x0,v0),(x1,v1),(x2,v2)],[],v,df,W,X,true⟩ :: done) rest is (gU (kH X σ) o.dst v) (df ++ jL X m) M K):aQ P C l done (o :: rest) is σ m M K:=aQ.step hlt ⟨e0,e1,e2,trivial⟩ trivial hg hs h
theorem aGs {x0:Operand} {v0:AV} {x1:Operand} {v1:AV} {x2:Operand} {v2:AV} {x3:Operand} {v3:AV}  {v:AV} {df:Mem} {W X:List Nat} (hlt:LT P o [(x0,v0),(x1,v1),(x2,v2),(x3,v3)] [] v df W X) (e0:gI σ x0 v0) (e1:gI σ x1 v1) (e2:gI σ x2 v2) (e3:gI σ x3 v3)  (hg:ig ops σ o true) (hs:(iW C.N o.dst && fJ W (X ++ keys df) && fJ W (keys ([]:Mem)) && fJ (keys df) (X ++ W) && nG X C.pn) = true) (h:aT P C ops rest is (gU (kH X σ) o.dst v) (df ++ jL X m) M K):aT P C ops (o :: rest) is σ m M K:=aT.step hlt ⟨e0,e1,e2,e3,trivial⟩ trivial hg hs h
theorem aGt {x0:Operand} {v0:AV} {x1:Operand} {v1:AV} {x2:Operand} {v2:AV} {x3:Operand} {v3:AV} {x4:Operand} {v4:AV} {x5:Operand} {v5:AV}  {v:AV} {df:Mem} {W X:List Nat} (hlt:LT P o [(x0,v0),(x1,v1),(x2,v2),(x3,v3),(x4,v4),(x5,v5)] [] v df W X) (e0:gI σ x0 v0) (e1:gI σ x1 v1) (e2:gI σ x2 v2) (e3:gI σ x3 v3) (e4:gI σ x4 v4) (e5:gI σ x5 v5)  (hg:ig ops σ o true) (hs:(iW C.N o.dst && fJ W (X ++ keys df) && fJ W (keys ([]:Mem)) && fJ (keys df) (X ++ W) && nG X C.pn) = true) (h:aT P C ops rest is (gU (kH X σ) o.dst v) (df ++ jL X m) M K):aT P C ops (o :: rest) is σ m M K:=aT.step hlt ⟨e0,e1,e2,e3,e4,e5,trivial⟩ trivial hg hs h
theorem mv (v:AV) {x:Operand} (ho:o.op = .move x) (e:gI σ x v) (hg:ig ops σ o true) (hd:iW C.N o.dst = true) (h:aT P C ops rest is (gU σ o.dst v) m M K):aT P C ops (o :: rest) is σ m M K:=aT.pure (LT.move ho) ⟨e,trivial⟩ trivial hg hd h
theorem asg (v:AV) {x:Operand} (ho:o.op = .assign x) (e:gI σ x v) (hg:ig ops σ o true) (hd:iW C.N o.dst = true) (h:aT P C ops rest is (gU σ o.dst v) m M K):aT P C ops (o :: rest) is σ m M K:=aT.pure (LT.assign ho) ⟨e,trivial⟩ trivial hg hd h
theorem en (σ':Slots) (m':Mem) (h1:DY σ' σ) (h2:DX m' m) (k:aB P C is σ' m' M K):aB P C is σ m M K:=aB.ent (aY.of h1 h2) k
end
end
end Go.Fw
end
section
open Go Go.Fw
namespace Go.Proofs.YtdmlaldifbmkpaaGreat
structure bD where
  mk ::
  A:Int
  B:Int
structure bW where
  mk ::
  aI:Int
  aF:(List bD)
structure dW where
  mk ::
  b:(List Int)
  i:Int
  h:Int
structure rX where
  mk ::
  Free:(List Int)
  Hf:(List Int)
  DW:(List Int)
structure eG where
  mk ::
  X:Int
  Y:Int
structure ah where
  mk ::
  Graph:bW
  Places:(List eG)
structure bI where
  mk ::
  aG:ah
  aN:(List Int)
def dI (a:Int):List PV:=[.sc (.int .u8 a)]
theorem tH (a:Int):xw (dI a):=⟨.sc, trivial⟩
theorem aNb (a:Int):BJ (dI a) (dI a):=⟨.sc, trivial⟩
def aP (a:bD):List PV:=[.sc (.int .i64 a.A), .sc (.int .i64 a.B)]
theorem lF (a:bD):xw (aP a):=⟨.sc, .sc, trivial⟩
theorem xM (a:bD):BJ (aP a) (aP a):=⟨.sc, .sc, trivial⟩
def aC (a:Int):List PV:=[.sc (.int .i64 a)]
theorem gQ (a:Int):xw (aC a):=⟨.sc, trivial⟩
theorem pz (a:Int):BJ (aC a) (aC a):=⟨.sc, trivial⟩
def aO (a:eG):List PV:=[.sc (.int .i64 a.X), .sc (.int .i64 a.Y)]
theorem pq (a:eG):xw (aO a):=⟨.sc, .sc, trivial⟩
theorem kW (a:eG):BJ (aO a) (aO a):=⟨.sc, .sc, trivial⟩
def bG (q:Bool) (a:(List Int)):List PV:=[.xs q (a.map aC)]
theorem Am (a:(List Int)):xw (bG true a):=⟨aNO gQ _, trivial⟩
theorem aAc (a:(List Int)):BJ (bG true a) (bG false a):=⟨QW.fO pz (fun h => by cases h) _, trivial⟩
def WB (code:List Int):Option Bool:=some (decide (1048576 < (code.length:Int)))
def JJ (code:List Int) (s1:Int × Int):Option ((Int × Int) ⊕ Int):=((bif decide (s1.2 < (code.length:Int)) then some (decide (s1.2 < 4000)) else some false):Option Bool).bind fun j14 => bif j14 then (idx code s1.2).bind (fun x17 => some (.inl ((bits .and .i64 (aA ((aA ((aA (s1.1 * 131)) + (aA x17))) + 7)) 1073741823),(aA (s1.2 + 1))))) else some (.inr s1.1)
def F9 (code:List Int):Option dW:=(bH (JJ code) BIG ((aA (10101 + (code.length:Int))),0)).bind fun b12 => some (dW.mk code 0 b12)
def EP (c:dW):Option (Int × dW):=((bif decide (c.i < (c.b.length:Int)) then (idx c.b c.i).bind (fun x5 => some ((bits .and .i64 (aA ((bits .and .i64 (bits .xor .i64 (tN (aA ((aA (c.h * 6364136223846793005)) + 1442695040888963407)) 33) (tN (aA ((aA (c.h * 6364136223846793005)) + 1442695040888963407)) 45)) 255) + (aA x5))) 255),(aA (c.i + 1)))) else some ((bits .and .i64 (bits .xor .i64 (tN (aA ((aA (c.h * 6364136223846793005)) + 1442695040888963407)) 33) (tN (aA ((aA (c.h * 6364136223846793005)) + 1442695040888963407)) 45)) 255),c.i)):Option (Int × Int)).bind fun j3 => some (j3.1,(dW.mk c.b j3.2 (aA ((aA (c.h * 6364136223846793005)) + 1442695040888963407))))
def pG (c:dW) (n:Int):Option (Int × dW):=bif decide (n ≤ 0) then some (0,c) else bif decide (n ≤ 256) then (EP c).bind (fun r3 =>(nz n).bind fun u4 => some ((Int.tmod r3.1 n),r3.2)) else (EP c).bind fun r5 =>(EP r5.2).bind fun r6 =>(EP r6.2).bind fun r7 =>(EP r7.2).bind fun r8 =>(nz n).bind fun u9 => some ((Int.tmod (aA ((aA ((aA ((aA (r5.1 * 16777216)) + (aA (r6.1 * 65536)))) + (aA (r7.1 * 256)))) + r8.1)) n),r8.2)
def N7 (n:Int) (odd:Int) (s1:Int × (List Int) × Int × Int × (List bD)) (kK:Int × (List Int) × Int × Int × (List bD)):Option ((Int × (List Int) × Int × Int × (List bD)) ⊕ (Int × (List Int) × Int × Int × (List bD))):=bif decide (kK.1 < n) then ((((pG (dW.mk kK.2.1 kK.2.2.1 kK.2.2.2.1) 10).bind fun CZ => bif decide (CZ.1 < odd) then some ((decide ((kK.2.2.2.2.length:Int) < 24)),CZ.2.b,CZ.2.i,CZ.2.h) else some (false,CZ.2.b,CZ.2.i,CZ.2.h)):Option (Bool × (List Int) × Int × Int)).bind fun j81 =>((bif j81.1 then (lim (kK.2.2.2.2.length + [(bD.mk s1.1 kK.1)].length)).bind (fun u88 => some (kK.2.2.2.2 ++ [(bD.mk s1.1 kK.1)])) else some kK.2.2.2.2):Option (List bD)).bind fun j86 => some (.inl ((aA (kK.1 + 1)),j81.2.1,j81.2.2.1,j81.2.2.2,j86))) else some (.inr (s1.1,kK.2.1,kK.2.2.1,kK.2.2.2.1,kK.2.2.2.2))
def SL (n:Int) (odd:Int) (s1:Int × (List Int) × Int × Int × (List bD)):Option ((Int × (List Int) × Int × Int × (List bD)) ⊕ ((List Int) × Int × Int × (List bD))):=bif decide (s1.1 < n) then ((bH (N7 n odd s1) BIG ((aA (s1.1 + 1)),s1.2.1,s1.2.2.1,s1.2.2.2.1,s1.2.2.2.2)).bind fun wC => some (.inl ((aA (wC.1 + 1)),wC.2.1,wC.2.2.1,wC.2.2.2.1,wC.2.2.2.2))) else some (.inr (s1.2.1,s1.2.2.1,s1.2.2.2.1,s1.2.2.2.2))
def SK (c:dW) (n:Int) (odd:Int):Option (bW × dW):=(bH (SL n odd) BIG (0,c.b,c.i,c.h,([]:List bD))).bind fun jP => some ((bW.mk n jP.2.2.2),(dW.mk jP.1 jP.2.1 jP.2.2.1))
def xI (x:Int) (low:Int) (high:Int):Option Bool:=((bif decide (low ≤ x) then some (decide (x ≤ high)) else some false):Option Bool).bind fun j2 => some j2
def JK (a:bD) (b:bD):Option Bool:=((bif decide (a.A < b.A) then some true else bif a.A == b.A then some (decide (a.B ≤ b.B)) else some false):Option Bool).bind fun j3 => some j3
def Rq (g:bW) (s7:Int):Option (Int ⊕ (Unit ⊕ Bool)):=bif decide (s7 < (g.aF.length:Int)) then (idx g.aF s7).bind (fun jI =>((bif decide (jI.A < 0) then some true else bif decide (jI.B ≤ jI.A) then some true else bif decide (g.aI ≤ jI.B) then some true else bif decide (0 < s7) then (idx g.aF (aA (s7 - 1))).bind (fun x54 =>(JK x54 jI).bind fun Aw => some (!Aw)) else some false):Option Bool).bind fun j49 => bif j49 then some (.inr (.inr false)) else some (.inl (aA (s7 + 1)))) else some (.inr (.inl ()))
def I9 (g:bW):Option Bool:=(((xI g.aI 1 8).bind fun r4 => bif !r4 then some true else some (decide (24 < (g.aF.length:Int)))):Option Bool).bind fun j3 => bif j3 then some false else (bH (Rq g) BIG 0).bind (Sum.elim (fun Eu =>(some true)) (fun r => some r))
def Nw (g:bW):Option bW:=(lim (([]:List bD).length + g.aF.length)).bind fun u1 => some (bW.mk g.aI (([]:List bD) ++ g.aF))
def EQ (g:bW) (x:bD) (s1:Bool × Int × (List bD)):Option ((Bool × Int × (List bD)) ⊕ (Bool × (List bD))):=bif decide (s1.2.1 < (g.aF.length:Int)) then (((bif !s1.1 then (idx g.aF s1.2.1).bind (fun UI =>(JK UI x).bind fun Wu => some (!Wu)) else some false):Option Bool).bind fun j34 =>((bif j34 then (lim (s1.2.2.length + [x].length)).bind (fun u42 => some (true,(s1.2.2 ++ [x]))) else some (s1.1,s1.2.2)):Option (Bool × (List bD))).bind fun j40 =>(idx g.aF s1.2.1).bind fun x43 =>(lim (j40.2.length + [x43].length)).bind fun u44 => some (.inl (j40.1,(aA (s1.2.1 + 1)),(j40.2 ++ [x43])))) else some (.inr (s1.1,s1.2.2))
def Aj (g:bW) (x:bD):Option bW:=(bH (EQ g x) BIG (false,0,([]:List bD))).bind fun yC =>((bif !yC.1 then (lim (yC.2.length + [x].length)).bind (fun u49 => some (yC.2 ++ [x])) else some yC.2):Option (List bD)).bind fun j47 => some (bW.mk g.aI j47)
def RH (g:bW) (a:Int) (b:Int):Option (bW × Bool):=(((I9 g).bind fun r9 => bif !r9 then some true else bif decide (a < 0) then some true else bif decide (b < 0) then some true else bif decide (g.aI ≤ a) then some true else bif decide (g.aI ≤ b) then some true else bif a == b then some true else some (decide (24 ≤ (g.aF.length:Int)))):Option Bool).bind fun j8 => bif j8 then (Nw g).bind (fun Au => some (Au,false)) else (Aj g (bD.mk (if b < a then b else a) (if a < b then b else a))).bind fun jk => some (jk,true)
def Nv (c:dW) (list:List Int):Option (Int × dW):=(pG c (list.length:Int)).bind fun r1 =>(idx list r1.1).bind fun x2 => some (x2,r1.2)
def Ai (c:dW) (n:Int):Option (Bool × dW):=(pG c n).bind fun r1 => some ((r1.1 == 0),r1.2)
def SQ (c:dW) (n:Int) (x:bD) (other:Int):Option (Int × dW):=(pG c n).bind fun r1 =>((bif r1.1 == x.A then some true else some (r1.1 == x.B)):Option Bool).bind fun j3 => bif j3 then some (other,r1.2) else some (r1.1,r1.2)
def Fz (g:bW) (k:Int):Option (bW × Bool):=(((I9 g).bind fun r5 => bif !r5 then some true else bif decide (k < 0) then some true else some (decide ((g.aF.length:Int) ≤ k))):Option Bool).bind fun j4 => bif j4 then (Nw g).bind (fun r9 => some (r9,false)) else (slc g.aF 0 k).bind fun v10 =>(lim (([]:List bD).length + ((g.aF.take k.toNat).drop 0).length)).bind fun u11 =>(slc g.aF (aA (k + 1)) (g.aF.length:Int)).bind fun v12 =>(lim ((([]:List bD) ++ ((g.aF.take k.toNat).drop 0)).length + ((g.aF.take g.aF.length).drop ((aA (k + 1)).toNat)).length)).bind fun u13 => some ((bW.mk g.aI ((([]:List bD) ++ ((g.aF.take k.toNat).drop 0)) ++ ((g.aF.take g.aF.length).drop ((aA (k + 1)).toNat)))),true)
def SN (s3:Int × (List Int) × Int × Int × Int × (List bD)) (uQ:Int × dW) (rE:bD) (xP:Int):Option (Int ⊕ (Int × Int × Int × (List Int) × Int × Int × Int × (List bD) × Int × Int)):=((bif xP == rE.A then some true else some (xP == rE.B)):Option Bool).bind fun Vs => bif Vs then some (.inl (aA (xP + 1))) else some (.inr (s3.1,uQ.1,xP,uQ.2.b,uQ.2.i,uQ.2.h,s3.2.2.2.2.1,s3.2.2.2.2.2,rE.A,rE.B))
def N9 (n:Int) (s3:Int × (List Int) × Int × Int × Int × (List bD)):Option ((Int × (List Int) × Int × Int × Int × (List bD)) ⊕ ((List Int) × Int × Int × Int × (List bD))):=bif decide (s3.1 < n) then (pG (dW.mk s3.2.1 s3.2.2.1 s3.2.2.2.1) s3.1).bind (fun sJ =>(pG sJ.2 (aA (s3.1 - 1))).bind fun uJ =>(nz s3.1).bind fun aOo =>(((Ai uJ.2 2).bind fun CU => bif CU.1 then some ((decide (2 < s3.1)),CU.2.b,CU.2.i,CU.2.h) else some (false,CU.2.b,CU.2.i,CU.2.h)):Option (Bool × (List Int) × Int × Int)).bind fun j110 =>((bif j110.1 then (pG (dW.mk j110.2.1 j110.2.2.1 j110.2.2.2) (s3.2.2.2.2.2.length:Int)).bind (fun uQ =>(idx s3.2.2.2.2.2 uQ.1).bind fun rE =>(bH (SN s3 uQ rE) BIG 0).bind fun gm =>(SQ (dW.mk gm.2.2.2.1 gm.2.2.2.2.1 gm.2.2.2.2.2.1) gm.1 (bD.mk gm.2.2.2.2.2.2.2.2.1 gm.2.2.2.2.2.2.2.2.2) gm.2.2.1).bind fun yg =>(Fz (bW.mk gm.2.2.2.2.2.2.1 gm.2.2.2.2.2.2.2.1) gm.2.1).bind fun tJ =>(Aj tJ.1 (bD.mk gm.2.2.2.2.2.2.2.2.1 gm.1)).bind fun Jb =>(Aj Jb (bD.mk gm.2.2.2.2.2.2.2.2.2 gm.1)).bind fun tK =>(Aj tK (bD.mk yg.1 gm.1)).bind fun Og => some (gm.1,yg.2.b,yg.2.i,yg.2.h,Og.aI,Og.aF)) else (Aj (bW.mk s3.2.2.2.2.1 s3.2.2.2.2.2) (bD.mk sJ.1 s3.1)).bind fun yh =>(Aj yh (bD.mk (Int.tmod (aA ((aA (sJ.1 + 1)) + uJ.1)) s3.1) s3.1)).bind fun ET => some (s3.1,j110.2.1,j110.2.2.1,j110.2.2.2,ET.aI,ET.aF)):Option (Int × (List Int) × Int × Int × Int × (List bD))).bind fun j133 => some (.inl ((aA (j133.1 + 1)),j133.2.1,j133.2.2.1,j133.2.2.2.1,j133.2.2.2.2.1,j133.2.2.2.2.2))) else some (.inr (s3.2.1,s3.2.2.1,s3.2.2.2.1,s3.2.2.2.2.1,s3.2.2.2.2.2))
def N8 (c:dW) (n:Int):Option (bW × dW):=bif decide (n < 2) then some ((bW.mk n ([]:List bD)),c) else (Aj (bW.mk n ([]:List bD)) (bD.mk 0 1)).bind fun r2 =>(bH (N9 n) BIG (2,c.b,c.i,c.h,r2.aI,r2.aF)).bind fun oK => some ((bW.mk oK.2.2.2.1 oK.2.2.2.2),(dW.mk oK.1 oK.2.1 oK.2.2.1))
def Ah (x:Int) (LM:Int) (hi:Int):Option Bool:=((bif decide (LM ≤ x) then some (decide (x ≤ hi)) else some false):Option Bool).bind fun j2 => some j2
def MH (a:Int) (b:Int):Option Int:=bif decide (a < b) then some (-1) else bif decide (b < a) then some 1 else some 0
def MG (x:bD) (y:bD):Option Int:=(MH x.A y.A).bind fun r1 => bif r1 != 0 then some r1 else (MH x.B y.B).bind fun r3 => some r3
def Fb (g:bW) (s7:Int):Option (Int ⊕ (Unit ⊕ Bool)):=bif decide (s7 < (g.aF.length:Int)) then (idx g.aF s7).bind (fun jI =>((bif decide (jI.A < 0) then some true else bif decide (jI.B ≤ jI.A) then some true else bif decide (g.aI ≤ jI.B) then some true else bif decide (0 < s7) then (idx g.aF (aA (s7 - 1))).bind (fun x54 =>(MG x54 jI).bind fun Aw => some (decide (0 < Aw))) else some false):Option Bool).bind fun j49 => bif j49 then some (.inr (.inr false)) else some (.inl (aA (s7 + 1)))) else some (.inr (.inl ()))
def Iq (g:bW):Option Bool:=(((Ah g.aI 1 8).bind fun r4 => bif !r4 then some true else some (decide (24 < (g.aF.length:Int)))):Option Bool).bind fun j3 => bif j3 then some false else (bH (Fb g) BIG 0).bind (Sum.elim (fun Eu =>(some true)) (fun r => some r))
def Bq (l:List Int):Option (List Int):=(lim (([]:List Int).length + l.length)).bind fun u1 => some (([]:List Int) ++ l)
def Qk (x:bD) (v:Int):Option Int:=bif x.A == v then some x.B else some x.A
def aM0 (p:rX) (a:Int) (pJ:Int × (List (Int × Int)) × (List Int)) (vC:Int) (UH:Int) (aBU:Int) (EY:Int × (List Int)):Option ((Int × (List Int)) ⊕ ((List Int) × (List Int))):=bif EY.1 != a then (idx EY.2 (WI (OU pJ.2.1 vC pJ.1) EY.1)).bind (fun aP8 =>(idx EY.2 (WI (OU pJ.2.1 vC pJ.1) EY.1)).bind fun aQV => some (.inl (aP8,(EY.2.set (WI (OU pJ.2.1 vC pJ.1) EY.1).toNat EY.1)))) else some (.inr (((p.Free.set vC.toNat (aA (UH - 1))).set a.toNat (aA (aBU + 1))),EY.2))
def aMz (bars:List bD) (p:rX) (a:Int) (b:Int) (s1:Int × (List (Int × Int)) × (List Int)) (pJ:Int × (List (Int × Int)) × (List Int)):Option ((Int × (List (Int × Int)) × (List Int)) ⊕ ((Int × (List (Int × Int)) × (List Int)) ⊕ (Bool × rX))):=bif decide (pJ.1 < (p.DW.length:Int)) then (idx p.DW pJ.1).bind (fun Js =>(idx p.Hf pJ.1).bind fun pO =>(idx pJ.2.2 s1.1).bind fun pU => bif pO != pU then some (.inl ((aA (pJ.1 + 1)),pJ.2.1,pJ.2.2)) else (idx bars Js).bind fun xY =>(idx pJ.2.2 s1.1).bind fun vP =>(Qk xY vP).bind fun vC => bif aEK pJ.2.1 vC then some (.inl ((aA (pJ.1 + 1)),pJ.2.1,pJ.2.2)) else ((bif vC == b then some true else (idx p.Free vC).bind fun aP7 => some (aP7 == 0)):Option Bool).bind fun LD => bif LD then (lim (pJ.2.2.length + ([vC]:List Int).length)).bind (fun aQS => some (.inl ((aA (pJ.1 + 1)),(OU pJ.2.1 vC pJ.1),(pJ.2.2 ++ ([vC]:List Int))))) else (idx p.Free vC).bind fun UH =>(idx p.Free vC).bind fun aQT =>(idx (p.Free.set vC.toNat (aA (UH - 1))) a).bind fun aBU =>(idx (p.Free.set vC.toNat (aA (UH - 1))) a).bind fun aQU =>(bH (aM0 p a pJ vC UH aBU) BIG (vC,p.Hf)).bind fun aBq => some (.inr (.inr (true,(rX.mk aBq.1 aBq.2 p.DW))))) else some (.inr (.inl (s1.1,pJ.2.1,pJ.2.2)))
def aM1 (bars:List bD) (p:rX) (a:Int) (b:Int) (s1:Int × (List (Int × Int)) × (List Int)):Option ((Int × (List (Int × Int)) × (List Int)) ⊕ (Unit ⊕ (Bool × rX))):=bif decide (s1.1 < (s1.2.2.length:Int)) then ((bH (aMz bars p a b s1) BIG (0,s1.2.1,s1.2.2)).bind (Sum.elim (fun lZ =>(some (.inl ((aA (lZ.1 + 1)),lZ.2.1,lZ.2.2)))) (fun r => some (.inr (.inr r))))) else some (.inr (.inl ()))
def aEG (bars:List bD) (p:rX) (a:Int) (b:Int):Option (Bool × rX):=(bH (aM1 bars p a b) BIG (0,(OU ([]:List (Int × Int)) a (-1)),([a]:List Int))).bind (Sum.elim (fun aQH =>(some (false,p))) (fun r => some r))
def aMy (bars:List bD) (a:Int) (b:Int) (want:Int) (s1:(List Int) × (List Int) × (List Int)):Option (((List Int) × (List Int) × (List Int)) ⊕ (((List Int) × (List Int) × (List Int)) ⊕ (Bool × rX))):=(idx s1.1 a).bind fun x25 =>(idx s1.1 b).bind fun jF => bif decide ((aA (x25 + jF)) < want) then ((((aEG bars (rX.mk s1.1 s1.2.1 s1.2.2) a b).bind fun r32 => bif !r32.1 then (aEG bars r32.2 b a).bind (fun CW => some ((!CW.1),CW.2.Free,CW.2.Hf,CW.2.DW)) else some (false,r32.2.Free,r32.2.Hf,r32.2.DW)):Option (Bool × (List Int) × (List Int) × (List Int))).bind fun j31 => bif j31.1 then some (.inr (.inr (false,(rX.mk j31.2.1 j31.2.2.1 j31.2.2.2)))) else some (.inl (j31.2.1,j31.2.2.1,j31.2.2.2))) else some (.inr (.inl (s1.1,s1.2.1,s1.2.2)))
def aMx (bars:List bD) (p:rX) (a:Int) (b:Int) (want:Int):Option (Bool × rX):=(bH (aMy bars a b want) BIG (p.Free,p.Hf,p.DW)).bind (Sum.elim (fun fV =>(some (true,(rX.mk fV.1 fV.2.1 fV.2.2)))) (fun r => some r))
def aM2 (bars:List bD) (l:Int) (p:rX) (e:Int):Option (Bool × rX):=(idx bars e).bind fun x1 =>(aMx bars p x1.A x1.B (aA (l + 1))).bind fun r2 => bif !r2.1 then some (false,r2.2) else (idx r2.2.Free x1.A).bind fun x4 =>((bif x4 == 0 then some x1.B else some x1.A):Option Int).bind fun j6 =>(idx r2.2.Free j6).bind fun x8 =>(idx r2.2.Free j6).bind fun x9 =>(lim (r2.2.Hf.length + ([j6]:List Int).length)).bind fun u10 =>(lim (r2.2.DW.length + ([e]:List Int).length)).bind fun u11 => some (true,(rX.mk (r2.2.Free.set j6.toNat (aA (x8 - 1))) (r2.2.Hf ++ ([j6]:List Int)) (r2.2.DW ++ ([e]:List Int))))
def MI (g:bW):Option bW:=(lim (([]:List bD).length + g.aF.length)).bind fun u1 => some (bW.mk g.aI (([]:List bD) ++ g.aF))
def aEF (g:bW) (k:Int):Option (bW × Bool):=(MI g).bind fun r1 =>(((Iq g).bind fun r6 => bif !r6 then some true else (Ah k 0 (aA ((g.aF.length:Int) - 1))).bind fun r8 => some (!r8)):Option Bool).bind fun j5 => bif j5 then some (r1,false) else (slc r1.aF 0 k).bind fun v10 =>(slc r1.aF (aA (k + 1)) (r1.aF.length:Int)).bind fun v11 =>(lim ((k.toNat - 0) + (r1.aF.length - (aA (k + 1)).toNat))).bind fun u12 =>(same ((aA (k + 1)).toNat + (r1.aF.length - (aA (k + 1)).toNat) - r1.aF.length) 0).bind fun u13 =>(same ((k.toNat - 0) - r1.aF.length) 0).bind fun u14 => some ((bW.mk r1.aI (r1.aF.take (k.toNat - 0) ++ (r1.aF.drop ((aA (k + 1)).toNat)).take (r1.aF.length - (aA (k + 1)).toNat))),true)
def MZ (s:List Int) (v:Int) (s1:Int):Option (Int ⊕ (Unit ⊕ Int)):=bif decide (s1 < (s.length:Int)) then (idx s s1).bind (fun x10 => bif v == x10 then some (.inr (.inr s1)) else some (.inl (aA (s1 + 1)))) else some (.inr (.inl ()))
def RG (s:List Int) (v:Int):Option Int:=(bH (MZ s v) BIG 0).bind (Sum.elim (fun b8 =>(some (-1))) (fun r => some r))
def RF (s:List Int) (v:Int):Option Bool:=(RG s v).bind fun r1 => some (decide (0 ≤ r1))
def WE (b:bD) (v:Int):Option Int:=some (aA ((aA (b.A + b.B)) - v))
def Nz (l:List Int) (x:Int) (s1:Int):Option (Int ⊕ (Unit ⊕ Bool)):=bif decide (s1 < (l.length:Int)) then (idx l s1).bind (fun x10 => bif x10 == x then some (.inr (.inr true)) else some (.inl (aA (s1 + 1)))) else some (.inr (.inl ()))
def Ny (l:List Int) (x:Int):Option Bool:=(bH (Nz l x) BIG 0).bind (Sum.elim (fun b8 =>(some false)) (fun r => some r))
def EN (a:List Int) (b:List Int) (s2:Int):Option (Int ⊕ (Unit ⊕ Bool)):=bif decide (s2 < (a.length:Int)) then (idx a s2).bind (fun kZ =>(idx b s2).bind fun x14 => bif kZ != x14 then some (.inr (.inr false)) else some (.inl (aA (s2 + 1)))) else some (.inr (.inl ()))
def Bz (a:List Int) (b:List Int):Option Bool:=bif (a.length:Int) != (b.length:Int) then some false else (bH (EN a b) BIG 0).bind (Sum.elim (fun b11 =>(some true)) (fun r => some r))
def Ls (g:bW) (keep:List Int) (s1:Int × (List bD)):Option ((Int × (List bD)) ⊕ (List bD)):=bif decide (s1.1 < (g.aF.length:Int)) then (idx g.aF s1.1).bind (fun x20 =>(RF keep s1.1).bind fun Jc =>((bif Jc then (lim (s1.2.length + [x20].length)).bind (fun u26 => some (s1.2 ++ [x20])) else some s1.2):Option (List bD)).bind fun j24 => some (.inl ((aA (s1.1 + 1)),j24))) else some (.inr s1.2)
def Lr (g:bW) (keep:List Int):Option bW:=(bH (Ls g keep) BIG (0,([]:List bD))).bind fun b18 => some (bW.mk g.aI b18)
def La (g:bW) (v:Int):Option Bool:=(Ah v 0 (aA (g.aI - 1))).bind fun r1 => some r1
def NS (g:bW) (keep:List Int) (s1:Int × (List bD)):Option ((Int × (List bD)) ⊕ (List bD)):=bif decide (s1.1 < (g.aF.length:Int)) then (Ny keep s1.1).bind (fun r22 =>((bif r22 then (idx g.aF s1.1).bind (fun x28 =>(lim (s1.2.length + [x28].length)).bind fun u29 => some (s1.2 ++ [x28])) else some s1.2):Option (List bD)).bind fun j26 => some (.inl ((aA (s1.1 + 1)),j26))) else some (.inr s1.2)
def Rx (g:bW) (keep:List Int):Option bW:=(bH (NS g keep) BIG (0,([]:List bD))).bind fun b20 => some (bW.mk g.aI b20)
def Md (n:Int) (s3:Int × (List bD)) (s20:Int × (List bD)):Option ((Int × (List bD)) ⊕ (Int × (List bD))):=bif decide (s20.1 < n) then (lim (s20.2.length + [(bD.mk s3.1 s20.1)].length)).bind (fun u27 => some (.inl ((aA (s20.1 + 1)),(s20.2 ++ [(bD.mk s3.1 s20.1)])))) else some (.inr (s3.1,s20.2))
def RJ (n:Int) (s3:Int × (List bD)):Option ((Int × (List bD)) ⊕ (List bD)):=bif decide (s3.1 < n) then ((bH (Md n s3) BIG ((aA (s3.1 + 1)),s3.2)).bind fun b25 => some (.inl ((aA (b25.1 + 1)),b25.2))) else some (.inr s3.2)
def RI (n:Int):Option bW:=(xI n 1 7).bind fun r1 => bif !r1 then some (bW.mk 0 ([]:List bD)) else (bH (RJ n) BIG (0,([]:List bD))).bind fun b18 => some (bW.mk n b18)
def WC  : Option bI:=(RI 4).bind fun r1 => some (bI.mk (ah.mk r1 [(eG.mk 0 0),(eG.mk 3 0),(eG.mk 3 3),(eG.mk 0 3)]) ([1,2,1,1,2,1]:List Int))
def SB (g:bW) (s1:Int × (List Int) × Int × Int × (List eG)):Option ((Int × (List Int) × Int × Int × (List eG)) ⊕ ((List Int) × Int × Int × (List eG))):=bif decide (s1.1 < g.aI) then (pG (dW.mk s1.2.1 s1.2.2.1 s1.2.2.2.1) 5).bind (fun r12 =>(pG r12.2 5).bind fun r13 =>(lim (s1.2.2.2.2.length + [(eG.mk r12.1 r13.1)].length)).bind fun u14 => some (.inl ((aA (s1.1 + 1)),r13.2.b,r13.2.i,r13.2.h,(s1.2.2.2.2 ++ [(eG.mk r12.1 r13.1)])))) else some (.inr (s1.2.1,s1.2.2.1,s1.2.2.2.1,s1.2.2.2.2))
def Na (g:bW) (b10:(List Int) × Int × Int × (List eG)) (s15:Int × (List bD)):Option ((Int × (List bD)) ⊕ ((List Int) × Int × Int × (List bD) × (List eG))):=bif decide (s15.1 < (g.aF.length:Int)) then (idx g.aF s15.1).bind (fun x54 =>(((idx b10.2.2.2 x54.A).bind fun sN =>(idx b10.2.2.2 x54.B).bind fun xg => bif !(jT [sN.X,sN.Y] [xg.X,xg.Y]) then (bif s15.1 == 0 then some true else (idx g.aF (aA (s15.1 - 1))).bind fun rW => some (!(jT [rW.A,rW.B] [x54.A,x54.B]))) else some false):Option Bool).bind fun j60 =>((bif j60 then (lim (s15.2.length + [x54].length)).bind (fun u70 => some (s15.2 ++ [x54])) else some s15.2):Option (List bD)).bind fun j68 => some (.inl ((aA (s15.1 + 1)),j68))) else some (.inr (b10.1,b10.2.1,b10.2.2.1,s15.2,b10.2.2.2))
def JC (c:dW) (g:bW):Option (ah × dW):=(bH (SB g) BIG (0,c.b,c.i,c.h,([]:List eG))).bind fun b10 =>(bH (Na g b10) BIG (0,([]:List bD))).bind fun jP => some ((ah.mk (bW.mk g.aI jP.2.2.2.1) jP.2.2.2.2),(dW.mk jP.1 jP.2.1 jP.2.2.1))
def SA (c:dW):Option (ah × dW):=(pG c 3).bind fun r1 => bif r1.1 == 0 then (pG r1.2 5).bind (fun r3 =>(SK r3.2 (aA (2 + r3.1)) 7).bind fun r4 =>(JC r4.2 r4.1).bind fun r5 => some (r5.1,r5.2)) else bif r1.1 == 1 then (pG r1.2 4).bind (fun r7 =>(N8 r7.2 (aA (2 + r7.1))).bind fun r8 =>(pG r8.2 (aA (2 + r7.1))).bind fun r9 =>(pG r9.2 (aA (2 + r7.1))).bind fun r10 =>(RH r8.1 r9.1 r10.1).bind fun r11 =>(JC r10.2 r11.1).bind fun r12 => some (r12.1,r12.2)) else (pG r1.2 5).bind fun r13 =>(N8 r13.2 (aA (2 + r13.1))).bind fun gX =>(JC gX.2 gX.1).bind fun uK => some (uK.1,uK.2)
def Rz (c:dW):Option (ah × dW):=(SA c).bind fun r1 =>(pG r1.2 14).bind fun r2 =>((bif r2.1 == 0 then (Nv r2.2 ([(-1),5,9]:List Int)).bind (fun r10 =>(idx r1.1.Places 0).bind fun x11 => some (r10.2.b,r10.2.i,r10.2.h,(r1.1.Places.set (Int.toNat 0) (eG.mk r10.1 x11.Y)))) else bif r2.1 == 1 then (slc r1.1.Places 1 (r1.1.Places.length:Int)).bind (fun v13 => some (r2.2.b,r2.2.i,r2.2.h,((r1.1.Places.take r1.1.Places.length).drop (Int.toNat 1)))) else some (r2.2.b,r2.2.i,r2.2.h,r1.1.Places)):Option ((List Int) × Int × Int × (List eG))).bind fun j8 => some ((ah.mk r1.1.Graph j8.2.2.2),(dW.mk j8.1 j8.2.1 j8.2.2.1))
def Nj (gX:ah × dW) (s15:Int × (List Int) × Int × Int × (List Int)):Option ((Int × (List Int) × Int × Int × (List Int)) ⊕ ((List Int) × Int × Int × (List bD) × Int × (List eG) × (List Int))):=bif decide (s15.1 < (gX.1.Graph.aF.length:Int)) then (pG (dW.mk s15.2.1 s15.2.2.1 s15.2.2.2.1) 3).bind (fun qy =>(pG qy.2 2).bind fun r27 =>(lim (s15.2.2.2.2.length + ([(aA (qy.1 * r27.1))]:List Int).length)).bind fun u28 => some (.inl ((aA (s15.1 + 1)),r27.2.b,r27.2.i,r27.2.h,(s15.2.2.2.2 ++ ([(aA (qy.1 * r27.1))]:List Int))))) else some (.inr (s15.2.1,s15.2.2.1,s15.2.2.2.1,gX.1.Graph.aF,gX.1.Graph.aI,gX.1.Places,s15.2.2.2.2))
def F8 (c:dW):Option (bI × dW):=(Ai c 4).bind fun r1 => bif r1.1 then (WC).bind (fun r3 =>(Ai r1.2 2).bind fun r4 =>((bif r4.1 then (pG r4.2 6).bind (fun r11 =>(pG r11.2 3).bind fun r12 =>(idx r3.aN r11.1).bind fun kZ => some (r12.2.b,r12.2.i,r12.2.h,(r3.aN.set r11.1.toNat r12.1))) else some (r4.2.b,r4.2.i,r4.2.h,r3.aN)):Option ((List Int) × Int × Int × (List Int))).bind fun j9 => some ((bI.mk r3.aG j9.2.2.2),(dW.mk j9.1 j9.2.1 j9.2.2.1))) else (Rz r1.2).bind fun gX =>(bH (Nj gX) BIG (0,gX.2.b,gX.2.i,gX.2.h,([]:List Int))).bind fun fV =>((bif decide (0 < (fV.2.2.2.2.2.2.length:Int)) then (Ai (dW.mk fV.1 fV.2.1 fV.2.2.1) 14).bind (fun qX => some (qX.1,qX.2.b,qX.2.i,qX.2.h)) else some (false,fV.1,fV.2.1,fV.2.2.1)):Option (Bool × (List Int) × Int × Int)).bind fun j31 =>((bif j31.1 then (Nv (dW.mk j31.2.1 j31.2.2.1 j31.2.2.2) ([(-1),3]:List Int)).bind (fun yu =>(idx fV.2.2.2.2.2.2 0).bind fun x40 => some (yu.2.b,yu.2.i,yu.2.h,(fV.2.2.2.2.2.2.set (Int.toNat 0) yu.1))) else some (j31.2.1,j31.2.2.1,j31.2.2.2,fV.2.2.2.2.2.2)):Option ((List Int) × Int × Int × (List Int))).bind fun j37 => some ((bI.mk (ah.mk (bW.mk fV.2.2.2.2.1 fV.2.2.2.1) fV.2.2.2.2.2.1) j37.2.2.2),(dW.mk j37.1 j37.2.1 j37.2.2.1))
def RN (code:List Int):Option bI:=(F9 code).bind fun r1 =>(F8 r1).bind fun r2 => some r2.1
def Q9 (p:eG):Option Bool:=(((Ah p.X 0 4).bind fun r5 => bif r5 then (Ah p.Y 0 4).bind (fun r7 => some r7) else some false):Option Bool).bind fun j4 => some j4
def Ld (f:ah) (s11:Int):Option (Int ⊕ (Unit ⊕ Bool)):=bif decide (s11 < (f.Places.length:Int)) then (idx f.Places s11).bind (fun oJ =>(Q9 oJ).bind fun wV => bif !wV then some (.inr (.inr false)) else some (.inl (aA (s11 + 1)))) else some (.inr (.inl ()))
def Le (f:ah) (jm:Int):Option (Int ⊕ (Unit ⊕ Bool)):=bif decide (jm < (f.Graph.aF.length:Int)) then (idx f.Graph.aF jm).bind (fun mg =>((bif decide (0 < jm) then (idx f.Graph.aF (aA (jm - 1))).bind (fun Eh => bif jT [Eh.A,Eh.B] [mg.A,mg.B] then some true else (idx f.Places mg.A).bind fun oU =>(idx f.Places mg.B).bind fun xk => some (jT [oU.X,oU.Y] [xk.X,xk.Y])) else (idx f.Places mg.A).bind fun qc =>(idx f.Places mg.B).bind fun zf => some (jT [qc.X,qc.Y] [zf.X,zf.Y])):Option Bool).bind fun j72 => bif j72 then some (.inr (.inr false)) else some (.inl (aA (jm + 1)))) else some (.inr (.inl ()))
def zM (f:ah):Option Bool:=(((Iq f.Graph).bind fun r6 => bif !r6 then some true else bif decide (6 < f.Graph.aI) then some true else bif decide (15 < (f.Graph.aF.length:Int)) then some true else some ((f.Places.length:Int) != f.Graph.aI)):Option Bool).bind fun j5 => bif j5 then some false else (bH (Ld f) BIG 0).bind (Sum.elim (fun b20 =>(bH (Le f) BIG 0).bind (Sum.elim (fun b62 =>(some true)) (fun r => some r))) (fun r => some r))
def Fg (tV:bI) (s1:Int):Option (Int ⊕ (Unit ⊕ Bool)):=bif decide (s1 < (tV.aN.length:Int)) then (idx tV.aN s1).bind (fun x12 =>(Ah x12 0 2).bind fun r13 => bif !r13 then some (.inr (.inr false)) else some (.inl (aA (s1 + 1)))) else some (.inr (.inl ()))
def zN (tV:bI):Option Bool:=(bH (Fg tV) BIG 0).bind (Sum.elim (fun b10 =>(((zM tV.aG).bind fun jk => bif jk then some ((tV.aN.length:Int) == (tV.aG.Graph.aF.length:Int)) else some false):Option Bool).bind fun j17 => some j17) (fun r => some r))
def L8 (f:ah) (s3:Int × (List (List Int))):Option ((Int × (List (List Int))) ⊕ (List (List Int))):=bif decide (s3.1 < (f.Graph.aF.length:Int)) then (idx f.Graph.aF s3.1).bind (fun jF =>(xG (aA (2 * f.Graph.aI))).bind fun u27 =>(idx f.Places jF.A).bind fun x28 =>(idx f.Places jF.B).bind fun x29 =>(idx (List.replicate (aA (2 * f.Graph.aI)).toNat (0:Int)) (aA (2 * jF.A))).bind fun x30 =>(idx ((List.replicate (aA (2 * f.Graph.aI)).toNat (0:Int)).set (aA (2 * jF.A)).toNat (aA (x28.X - x29.X))) (aA ((aA (2 * jF.A)) + 1))).bind fun x31 =>(idx (((List.replicate (aA (2 * f.Graph.aI)).toNat (0:Int)).set (aA (2 * jF.A)).toNat (aA (x28.X - x29.X))).set (aA ((aA (2 * jF.A)) + 1)).toNat (aA (x28.Y - x29.Y))) (aA (2 * jF.B))).bind fun x32 =>(idx ((((List.replicate (aA (2 * f.Graph.aI)).toNat (0:Int)).set (aA (2 * jF.A)).toNat (aA (x28.X - x29.X))).set (aA ((aA (2 * jF.A)) + 1)).toNat (aA (x28.Y - x29.Y))).set (aA (2 * jF.B)).toNat (aA (x29.X - x28.X))) (aA ((aA (2 * jF.B)) + 1))).bind fun x33 =>(lim (s3.2.length + 1)).bind fun u34 => some (.inl ((aA (s3.1 + 1)),(s3.2 ++ [(((((List.replicate (aA (2 * f.Graph.aI)).toNat (0:Int)).set (aA (2 * jF.A)).toNat (aA (x28.X - x29.X))).set (aA ((aA (2 * jF.A)) + 1)).toNat (aA (x28.Y - x29.Y))).set (aA (2 * jF.B)).toNat (aA (x29.X - x28.X))).set (aA ((aA (2 * jF.B)) + 1)).toNat (aA (x29.Y - x28.Y)))])))) else some (.inr s3.2)
def Iw (f:ah):Option (List (List Int)):=(zM f).bind fun r1 => bif !r1 then some ([]:List (List Int)) else (bH (L8 f) BIG (0,([]:List (List Int)))).bind fun fV => some fV
def MW (m:List (List Int)) (s2:Int × (List (List Int))) (kR:Int × (List (List Int))):Option ((Int × (List (List Int))) ⊕ (Int × (List (List Int)))):=bif decide (kR.1 < (m.length:Int)) then (idx m kR.1).bind (fun Eg =>(idx kR.2 s2.1).bind fun x54 =>(idx Eg s2.1).bind fun x55 =>(lim (x54.length + ([x55]:List Int).length)).bind fun u56 =>(idx (kR.2.set s2.1.toNat []) s2.1).bind fun x57 => some (.inl ((aA (kR.1 + 1)),((kR.2.set s2.1.toNat []).set s2.1.toNat (x54 ++ ([x55]:List Int)))))) else some (.inr (s2.1,kR.2))
def MV (m:List (List Int)) (columns:Int) (s2:Int × (List (List Int))):Option ((Int × (List (List Int))) ⊕ (List (List Int))):=bif decide (s2.1 < (columns.toNat:Int)) then (idx s2.2 s2.1).bind (fun Gz =>(bH (MW m s2) BIG (0,(s2.2.set s2.1.toNat ([]:List Int)))).bind fun Dh => some (.inl ((aA (Dh.1 + 1)),Dh.2))) else some (.inr s2.2)
def RD (m:List (List Int)) (columns:Int):Option (List (List Int)):=(xG columns).bind fun u1 =>(bH (MV m columns) BIG (0,(List.replicate columns.toNat ([]:List Int)))).bind fun wu => some wu
def MJ (l:List (List Int)) (s1:Int × (List (List Int))):Option ((Int × (List (List Int))) ⊕ (List (List Int))):=bif decide (s1.1 < (l.length:Int)) then (idx l s1.1).bind (fun x12 =>(Bq x12).bind fun r13 =>(lim (s1.2.length + 1)).bind fun u14 => some (.inl ((aA (s1.1 + 1)),(s1.2 ++ [r13])))) else some (.inr s1.2)
def Q8 (l:List (List Int)):Option (List (List Int)):=(bH (MJ l) BIG (0,([]:List (List Int)))).bind fun b10 => some b10
def MR (s2:Int × (List (List Int)) × Int × (List Int)) (y8:Int):Option (Int ⊕ (Int × Int × Int × Int × (List (List Int)) × (List Int))):=((bif decide (y8 < (s2.2.1.length:Int)) then (idx s2.2.1 y8).bind (fun xX =>(idx xX s2.1).bind fun BF => some (BF == 0)) else some false):Option Bool).bind fun Vy => bif Vy then some (.inl (aA (y8 + 1))) else some (.inr (s2.2.2.1,s2.1,(s2.2.2.2.length:Int),y8,s2.2.1,s2.2.2.2))
def MS (columns:Int) (dw:Int × Int × Int × Int × Int × Int × (List Int) × (List (List Int))) (uV:Int) (l7:Int × (List (List Int))):Option ((Int × (List (List Int))) ⊕ (Int × Int × Int × Int × Int × Int × (List (List Int)) × (List Int))):=bif decide (l7.1 < columns) then (idx l7.2 dw.1).bind (fun Jt =>(idx l7.2 dw.1).bind fun aGh =>(idx aGh l7.1).bind fun Gv =>(idx l7.2 dw.2.2.2.1).bind fun aGi =>(idx aGi l7.1).bind fun Gw =>(nz dw.2.1).bind fun aOw =>(idx Jt l7.1).bind fun aP9 => some (.inl ((aA (l7.1 + 1)),(l7.2.set dw.1.toNat (Jt.set l7.1.toNat (aA (Int.tdiv (aA ((aA (dw.2.2.2.2.1 * Gv)) - (aA (uV * Gw)))) dw.2.1))))))) else some (.inr (dw.2.1,dw.2.2.1,dw.2.2.2.1,dw.2.2.2.2.1,dw.2.2.2.2.2.1,dw.1,l7.2,dw.2.2.2.2.2.2.1))
def I7 (columns:Int) (dw:Int × Int × Int × Int × Int × Int × (List Int) × (List (List Int))):Option ((Int × Int × Int × Int × Int × Int × (List Int) × (List (List Int))) ⊕ (Int × Int × (List (List Int)) × (List Int))):=bif decide (dw.1 < dw.2.2.2.2.2.1) then (bif dw.1 == dw.2.2.2.1 then some (.inl ((aA (dw.1 + 1)),dw.2.1,dw.2.2.1,dw.2.2.2.1,dw.2.2.2.2.1,dw.2.2.2.2.2.1,dw.2.2.2.2.2.2.1,dw.2.2.2.2.2.2.2)) else (idx dw.2.2.2.2.2.2.2 dw.1).bind fun aGg =>(idx aGg dw.2.2.1).bind fun uV =>(bH (MS columns dw uV) BIG (0,dw.2.2.2.2.2.2.2)).bind fun rG => some (.inl ((aA (rG.2.2.2.2.2.1 + 1)),rG.1,rG.2.1,rG.2.2.1,rG.2.2.2.1,rG.2.2.2.2.1,rG.2.2.2.2.2.2.2,rG.2.2.2.2.2.2.1))) else some (.inr (dw.2.2.1,dw.2.2.2.2.1,dw.2.2.2.2.2.2.2,dw.2.2.2.2.2.2.1))
def Fh (columns:Int) (s2:Int × (List (List Int)) × Int × (List Int)):Option ((Int × (List (List Int)) × Int × (List Int)) ⊕ (Int × (List (List Int)) × (List Int))):=((bif decide (s2.1 < columns) then some (decide ((s2.2.2.2.length:Int) < (s2.2.1.length:Int))) else some false):Option Bool).bind fun Vu => bif Vu then ((bH (MR s2) BIG (s2.2.2.2.length:Int)).bind fun jA => bif jA.2.2.2.1 == (jA.2.2.2.2.1.length:Int) then some (.inl ((aA (jA.2.1 + 1)),jA.2.2.2.2.1,jA.1,jA.2.2.2.2.2)) else (idx jA.2.2.2.2.1 jA.2.2.2.1).bind fun pU =>(idx jA.2.2.2.2.1 jA.2.2.1).bind fun DU =>(idx jA.2.2.2.2.1 jA.2.2.1).bind fun xY =>(idx jA.2.2.2.2.1 jA.2.2.2.1).bind fun vP =>(idx ((jA.2.2.2.2.1.set jA.2.2.1.toNat pU).set jA.2.2.2.1.toNat DU) jA.2.2.1).bind fun aGe =>(idx aGe jA.2.1).bind fun UG =>(bH (I7 columns) BIG (0,jA.1,jA.2.1,jA.2.2.1,UG,(jA.2.2.2.2.1.length:Int),jA.2.2.2.2.2,((jA.2.2.2.2.1.set jA.2.2.1.toNat pU).set jA.2.2.2.1.toNat DU))).bind fun mG =>(lim (mG.2.2.2.length + ([mG.1]:List Int).length)).bind fun aOx => some (.inl ((aA (mG.1 + 1)),mG.2.2.1,mG.2.1,(mG.2.2.2 ++ ([mG.1]:List Int))))) else some (.inr (s2.2.2.1,s2.2.1,s2.2.2.2))
def MQ (m:List (List Int)) (columns:Int):Option ((List (List Int)) × (List Int) × Int):=(Q8 m).bind fun r1 =>(bH (Fh columns) BIG (0,r1,1,([]:List Int))).bind fun oL => some (oL.2.1,oL.2.2,oL.1)
def I4 (x:Int):Option Bool:=((bif decide (9000000000000000000 < x) then some true else some (decide (x < (-9000000000000000000)))):Option Bool).bind fun j2 => some j2
def Qx  (s9:Int × Int):Option ((Int × Int) ⊕ Int):=bif s9.2 != 0 then (nz s9.2).bind (fun u16 => some (.inl (s9.2,(Int.tmod s9.1 s9.2)))) else some (.inr s9.1)
def Qw (a:Int) (b:Int):Option Int:=(((I4 a).bind fun r5 => bif r5 then some true else (I4 b).bind fun r7 => some r7):Option Bool).bind fun j4 => bif j4 then some 0 else (bH (Qx) BIG ((if a < (aA (-a)) then (aA (-a)) else a),(if b < (aA (-b)) then (aA (-b)) else b))).bind fun b14 => some b14
def Lu (v:List Int) (r1:List Int) (s2:Int × Int × Int):Option ((Int × Int × Int) ⊕ ((Int × Int × (List Int)) ⊕ (List Int))):=bif decide (s2.2.2 < (v.length:Int)) then (idx v s2.2.2).bind (fun x21 =>(I4 x21).bind fun r22 => bif r22 then some (.inr (.inr r1)) else (Qw s2.1 x21).bind fun Oi =>((bif s2.2.1 == 0 then some x21 else some s2.2.1):Option Int).bind fun j26 => some (.inl (Oi,j26,(aA (s2.2.2 + 1))))) else some (.inr (.inl (s2.1,s2.2.1,r1)))
def L6 (b19:Int × Int × (List Int)) (j30:Int) (oz:Int × (List Int)):Option ((Int × (List Int)) ⊕ (List Int)):=bif decide (oz.1 < (b19.2.2.length:Int)) then (idx oz.2 oz.1).bind (fun x43 =>(nz j30).bind fun u44 =>(idx oz.2 oz.1).bind fun kL => some (.inl ((aA (oz.1 + 1)),(oz.2.set oz.1.toNat (aA (Int.tdiv x43 j30)))))) else some (.inr oz.2)
def Q5 (v:List Int):Option (List Int):=(Bq v).bind fun r1 =>(bH (Lu v r1) BIG (0,0,0)).bind (Sum.elim (fun b19 => bif b19.1 == 0 then some b19.2.2 else ((bif decide (b19.2.1 < 0) then some (aA (-b19.1)) else some b19.1):Option Int).bind fun j30 =>(bH (L6 b19 j30) BIG (0,b19.2.2)).bind fun zn => some zn) (fun r => some r))
def ML (columns:Int) (r1:(List (List Int)) × (List Int) × Int) (s3:Int × (List Int)):Option ((Int × (List Int)) ⊕ (Int × (List (List Int)) × (List Int) × (List Int))):=bif decide (s3.1 < ((List.replicate columns.toNat (0:Int)).length:Int)) then (idx s3.2 s3.1).bind (fun x10 => some (.inl ((aA (s3.1 + 1)),(s3.2.set s3.1.toNat (-1))))) else some (.inr (r1.2.2,r1.1,r1.2.1,s3.2))
def MN (b8:Int × (List (List Int)) × (List Int) × (List Int)) (s11:Int × (List Int)):Option ((Int × (List Int)) ⊕ (Int × (List (List Int)) × (List Int))):=bif decide (s11.1 < (b8.2.2.1.length:Int)) then (idx b8.2.2.1 s11.1).bind (fun x20 =>(idx s11.2 x20).bind fun x21 => some (.inl ((aA (s11.1 + 1)),(s11.2.set x20.toNat s11.1)))) else some (.inr (b8.1,b8.2.1,s11.2))
def MP (columns:Int) (fQ:Int × Int × (List Int) × (List (List Int)) × (List (List Int))) (qA:Int × (List Int)):Option ((Int × (List Int)) ⊕ (Int × Int × (List (List Int)) × (List Int) × (List (List Int)) × (List Int))):=bif decide (qA.1 < columns) then (idx fQ.2.2.1 qA.1).bind (fun O4 =>((bif decide (0 ≤ O4) then (idx fQ.2.2.1 qA.1).bind (fun rE =>(idx fQ.2.2.2.1 rE).bind fun aGZ =>(idx aGZ fQ.1).bind fun UF =>(idx qA.2 qA.1).bind fun aP6 => some (qA.2.set qA.1.toNat (aA (-UF)))) else some qA.2):Option (List Int)).bind fun j134 => some (.inl ((aA (qA.1 + 1)),j134))) else some (.inr (fQ.2.1,fQ.1,fQ.2.2.2.1,fQ.2.2.1,fQ.2.2.2.2,qA.2))
def MO (columns:Int) (fQ:Int × Int × (List Int) × (List (List Int)) × (List (List Int))):Option ((Int × Int × (List Int) × (List (List Int)) × (List (List Int))) ⊕ (List (List Int))):=bif decide (fQ.1 < columns) then (idx fQ.2.2.1 fQ.1).bind (fun x95 => bif decide (0 ≤ x95) then some (.inl ((aA (fQ.1 + 1)),fQ.2.1,fQ.2.2.1,fQ.2.2.2.1,fQ.2.2.2.2)) else (xG columns).bind fun u97 =>(idx (List.replicate columns.toNat (0:Int)) fQ.1).bind fun x98 =>(bH (MP columns fQ) BIG (0,((List.replicate columns.toNat (0:Int)).set fQ.1.toNat fQ.2.1))).bind fun nO =>(Q5 nO.2.2.2.2.2).bind fun xO =>(lim (nO.2.2.2.2.1.length + 1)).bind fun aOp => some (.inl ((aA (nO.2.1 + 1)),nO.1,nO.2.2.2.1,nO.2.2.1,(nO.2.2.2.2.1 ++ [xO])))) else some (.inr fQ.2.2.2.2)
def MK (m:List (List Int)) (columns:Int):Option (List (List Int)):=(MQ m columns).bind fun r1 =>(xG columns).bind fun u2 =>(bH (ML columns r1) BIG (0,(List.replicate columns.toNat (0:Int)))).bind fun b8 =>(bH (MN b8) BIG (0,b8.2.2.2)).bind fun b18 =>(bH (MO columns) BIG (0,b18.1,b18.2.2,b18.2.1,([]:List (List Int)))).bind fun wz => some wz
def Iy (f:ah):Option (List (List Int)):=(((zM f).bind fun r4 => bif !r4 then some true else some ((f.Graph.aF.length:Int) == 0)):Option Bool).bind fun j3 => bif j3 then some ([]:List (List Int)) else (Iw f).bind fun r7 =>(RD r7 (aA (2 * f.Graph.aI))).bind fun r8 =>(MK r8 (f.Graph.aF.length:Int)).bind fun r9 => some r9
def MF (v:List Int) (s1:Int):Option (Int ⊕ (Unit ⊕ Bool)):=bif decide (s1 < (v.length:Int)) then (idx v s1).bind (fun x12 =>(Ah x12 (-10000000000) 10000000000).bind fun r13 => bif !r13 then some (.inr (.inr false)) else some (.inl (aA (s1 + 1)))) else some (.inr (.inl ()))
def MC (v:List Int) (n:Int):Option Bool:=(bH (MF v) BIG 0).bind (Sum.elim (fun b10 =>(some ((v.length:Int) == n))) (fun r => some r))
def MB (f:ah) (w:List Int):Option Bool:=(((zM f).bind fun r5 => bif r5 then (MC w (f.Graph.aF.length:Int)).bind (fun r7 => some r7) else some false):Option Bool).bind fun j4 => some j4
def V6 (x:bD) (v:Int):Option Bool:=((bif x.A == v then some true else some (x.B == v)):Option Bool).bind fun j2 => some j2
def LY (f:ah) (w:List Int) (v:Int) (s3:Int × Int × Int):Option ((Int × Int × Int) ⊕ (Int × Int)):=bif decide (s3.2.2 < (f.Graph.aF.length:Int)) then (idx f.Graph.aF s3.2.2).bind (fun x38 =>(V6 x38 v).bind fun yu =>((bif yu then (idx f.Places v).bind (fun jG =>(Qk x38 v).bind fun r49 =>(idx f.Places r49).bind fun qJ =>(idx w s3.2.2).bind fun O5 =>(idx w s3.2.2).bind fun xZ => some ((aA (s3.1 + (aA (O5 * (aA (jG.X - qJ.X)))))),(aA (s3.2.1 + (aA (xZ * (aA (jG.Y - qJ.Y)))))))) else some (s3.1,s3.2.1)):Option (Int × Int)).bind fun j46 => some (.inl (j46.1,j46.2,(aA (s3.2.2 + 1))))) else some (.inr (s3.1,s3.2.1))
def Qs (f:ah) (w:List Int) (v:Int):Option (Int × Int):=(MB f w).bind fun r1 => bif !r1 then some (0,0) else (bH (LY f w v) BIG (0,0,0)).bind fun jJ => some (jJ.1,jJ.2)
def Lj (f:ah) (w:List Int) (s3:Int):Option (Int ⊕ (Unit ⊕ Bool)):=bif decide (s3 < (f.Places.length:Int)) then (Qs f w s3).bind (fun jk =>((bif jk.1 != 0 then some true else some (jk.2 != 0)):Option Bool).bind fun j20 => bif j20 then some (.inr (.inr false)) else some (.inl (aA (s3 + 1)))) else some (.inr (.inl ()))
def Qz (f:ah) (w:List Int):Option Bool:=(MB f w).bind fun r1 => bif !r1 then some false else (bH (Lj f w) BIG 0).bind (Sum.elim (fun b16 =>(some true)) (fun r => some r))
def Lh (tV:bI) (w:List Int) (s9:Int):Option (Int ⊕ (Unit ⊕ Bool)):=bif decide (s9 < (tV.aN.length:Int)) then (idx tV.aN s9).bind (fun jG =>((bif jG == 1 then (idx w s9).bind (fun Ju => bif decide (Ju < 0) then some true else bif jG == 2 then (idx w s9).bind (fun sN => some (decide (0 < sN))) else some false) else bif jG == 2 then (idx w s9).bind (fun qZ => some (decide (0 < qZ))) else some false):Option Bool).bind fun j56 => bif j56 then some (.inr (.inr false)) else some (.inl (aA (s9 + 1)))) else some (.inr (.inl ()))
def Fe (tV:bI) (w:List Int):Option Bool:=(((zN tV).bind fun r5 => bif !r5 then some true else (Qz tV.aG w).bind fun r7 => some (!r7)):Option Bool).bind fun j4 => bif j4 then some false else (bH (Lh tV w) BIG 0).bind (Sum.elim (fun ny =>(some true)) (fun r => some r))
def Ll (tV:bI) (w:List Int) (s3:Int):Option (Int ⊕ (Unit ⊕ Bool)):=bif decide (s3 < (tV.aN.length:Int)) then (idx tV.aN s3).bind (fun oJ =>((bif oJ != 0 then (idx w s3).bind (fun x27 => some (x27 == 0)) else some false):Option Bool).bind fun j25 => bif j25 then some (.inr (.inr false)) else some (.inl (aA (s3 + 1)))) else some (.inr (.inl ()))
def xH (tV:bI) (w:List Int):Option Bool:=(Fe tV w).bind fun r1 => bif !r1 then some false else (bH (Ll tV w) BIG 0).bind (Sum.elim (fun b20 =>(some true)) (fun r => some r))
def Qr (i:Int) (s3:Int × (List (List Int)) × Int × (List bD) × (List eG) × (List Int)) (vY:List Int) (kX:Int × (List Int)):Option ((Int × (List Int)) ⊕ (Int × (List (List Int)) × Int × (List bD) × (List eG) × (List Int) × (List Int))):=bif decide (kX.1 < (vY.length:Int)) then (idx kX.2 kX.1).bind (fun xZ =>(idx s3.2.1 i).bind fun Eg =>(idx Eg kX.1).bind fun x54 =>(idx kX.2 kX.1).bind fun x55 => some (.inl ((aA (kX.1 + 1)),(kX.2.set kX.1.toNat (aA (xZ + (aA (s3.1 * x54)))))))) else some (.inr (s3.1,s3.2.1,s3.2.2.1,s3.2.2.2.1,s3.2.2.2.2.1,s3.2.2.2.2.2,kX.2))
def Qq (w:List Int) (i:Int) (A7:(List Int) → Int → (List (List Int)) → bI → Option ((List Int) × Bool × (List (List Int)) × bI)) (s3:Int × (List (List Int)) × Int × (List bD) × (List eG) × (List Int)):Option ((Int × (List (List Int)) × Int × (List bD) × (List eG) × (List Int)) ⊕ (((List (List Int)) × Int × (List bD) × (List eG) × (List Int)) ⊕ ((List Int) × Bool × (List (List Int)) × bI))):=bif decide (s3.1 ≤ 2) then (Bq w).bind (fun vY =>(bH (Qr i s3 vY) BIG (0,vY)).bind fun kF =>(A7 kF.2.2.2.2.2.2 (aA (i + 1)) kF.2.1 (bI.mk (ah.mk (bW.mk kF.2.2.1 kF.2.2.2.1) kF.2.2.2.2.1) kF.2.2.2.2.2.1)).bind fun jl => bif jl.2.1 then some (.inr (.inr (jl.1,true,jl.2.2.1,jl.2.2.2))) else some (.inl ((aA (kF.1 + 1)),jl.2.2.1,jl.2.2.2.aG.Graph.aI,jl.2.2.2.aG.Graph.aF,jl.2.2.2.aG.Places,jl.2.2.2.aN))) else some (.inr (.inl (s3.2.1,s3.2.2.1,s3.2.2.2.1,s3.2.2.2.2.1,s3.2.2.2.2.2)))
def LV (A7:(List Int) → Int → (List (List Int)) → bI → Option ((List Int) × Bool × (List (List Int)) × bI)) (w:List Int) (i:Int) (gV:List (List Int)) (nD:bI):Option ((List Int) × Bool × (List (List Int)) × bI):=bif i == (gV.length:Int) then (xH nD w).bind (fun r2 => some (w,r2,gV,nD)) else (bH (Qq w i A7) BIG ((-2),gV,nD.aG.Graph.aI,nD.aG.Graph.aF,nD.aG.Places,nD.aN)).bind (Sum.elim (fun jJ =>(some (([]:List Int),false,jJ.1,(bI.mk (ah.mk (bW.mk jJ.2.1 jJ.2.2.1) jJ.2.2.2.1) jJ.2.2.2.2)))) (fun r => some r))
def zL:Nat → (List Int) → Int → (List (List Int)) → bI → Option ((List Int) × Bool × (List (List Int)) × bI) | 0,_,_,_,_ => none | n + 1,w,i,gV,nD => LV (zL n) w i gV nD
def V7 (tV:bI):Option ((List Int) × Bool × (List bD) × (List eG) × (List Int)):=(zN tV).bind fun r1 => bif !r1 then some (([]:List Int),false,tV.aG.Graph.aF,tV.aG.Places,tV.aN) else (Iy tV.aG).bind fun r3 =>(slc r3 0 (if 3 < (r3.length:Int) then 3 else (r3.length:Int))).bind fun v4 =>(xG (tV.aN.length:Int)).bind fun u5 =>(zL 64 (List.replicate (tV.aN.length:Int).toNat (0:Int)) 0 ((r3.take ((if 3 < (r3.length:Int) then 3 else (r3.length:Int)).toNat)).drop 0) tV).bind fun r6 => bif !r6.2.1 then some (([]:List Int),false,r6.2.2.2.aG.Graph.aF,r6.2.2.2.aG.Places,r6.2.2.2.aN) else some (r6.1,true,r6.2.2.2.aG.Graph.aF,r6.2.2.2.aG.Places,r6.2.2.2.aN)
def aAG (i:Int) (s3:Int × (List (List Int)) × Int × (List bD) × (List eG) × (List Int)) (vY:List Int) (kX:Int × (List Int)):Option ((Int × (List Int)) ⊕ (Int × (List (List Int)) × Int × (List bD) × (List eG) × (List Int) × (List Int))):=bif decide (kX.1 < (vY.length:Int)) then (idx kX.2 kX.1).bind (fun xZ =>(idx s3.2.1 i).bind fun Eg =>(idx Eg kX.1).bind fun x54 =>(idx kX.2 kX.1).bind fun x55 => some (.inl ((aA (kX.1 + 1)),(kX.2.set kX.1.toNat (aA (xZ + (aA (s3.1 * x54)))))))) else some (.inr (s3.1,s3.2.1,s3.2.2.1,s3.2.2.2.1,s3.2.2.2.2.1,s3.2.2.2.2.2,kX.2))
def aAF (w:List Int) (i:Int) (A7:(List Int) → Int → (List (List Int)) → bI → Option ((List Int) × Bool × (List (List Int)) × bI)) (s3:Int × (List (List Int)) × Int × (List bD) × (List eG) × (List Int)):Option ((Int × (List (List Int)) × Int × (List bD) × (List eG) × (List Int)) ⊕ (((List (List Int)) × Int × (List bD) × (List eG) × (List Int)) ⊕ ((List Int) × Bool × (List (List Int)) × bI))):=bif decide (s3.1 ≤ 2) then (Bq w).bind (fun vY =>(bH (aAG i s3 vY) BIG (0,vY)).bind fun kF =>(A7 kF.2.2.2.2.2.2 (aA (i + 1)) kF.2.1 (bI.mk (ah.mk (bW.mk kF.2.2.1 kF.2.2.2.1) kF.2.2.2.2.1) kF.2.2.2.2.2.1)).bind fun jl => bif jl.2.1 then some (.inr (.inr (jl.1,true,jl.2.2.1,jl.2.2.2))) else some (.inl ((aA (kF.1 + 1)),jl.2.2.1,jl.2.2.2.aG.Graph.aI,jl.2.2.2.aG.Graph.aF,jl.2.2.2.aG.Places,jl.2.2.2.aN))) else some (.inr (.inl (s3.2.1,s3.2.2.1,s3.2.2.2.1,s3.2.2.2.2.1,s3.2.2.2.2.2)))
def V8 (A7:(List Int) → Int → (List (List Int)) → bI → Option ((List Int) × Bool × (List (List Int)) × bI)) (w:List Int) (i:Int) (gV:List (List Int)) (nD:bI):Option ((List Int) × Bool × (List (List Int)) × bI):=bif i == (gV.length:Int) then (xH nD w).bind (fun r2 => some (w,r2,gV,nD)) else (bH (aAF w i A7) BIG ((-2),gV,nD.aG.Graph.aI,nD.aG.Graph.aF,nD.aG.Places,nD.aN)).bind (Sum.elim (fun jJ =>(some (([]:List Int),false,jJ.1,(bI.mk (ah.mk (bW.mk jJ.2.1 jJ.2.2.1) jJ.2.2.2.1) jJ.2.2.2.2)))) (fun r => some r))
def LW:Nat → (List Int) → Int → (List (List Int)) → bI → Option ((List Int) × Bool × (List (List Int)) × bI) | 0,_,_,_,_ => none | n + 1,w,i,gV,nD => V8 (LW n) w i gV nD
def LX (tV:bI):Option ((List Int) × Bool):=(zN tV).bind fun r1 => bif !r1 then some (([]:List Int),false) else (Iy tV.aG).bind fun r3 =>(slc r3 0 (if 3 < (r3.length:Int) then 3 else (r3.length:Int))).bind fun v4 =>(xG (tV.aN.length:Int)).bind fun u5 =>(LW 64 (List.replicate (tV.aN.length:Int).toNat (0:Int)) 0 ((r3.take ((if 3 < (r3.length:Int) then 3 else (r3.length:Int)).toNat)).drop 0) tV).bind fun r6 => bif !r6.2.1 then some (([]:List Int),false) else some (r6.1,true)
def NJ (f:ah) (s11:Int):Option (Int ⊕ (Unit ⊕ Bool)):=bif decide (s11 < (f.Places.length:Int)) then ((((idx f.Places s11).bind fun fH =>(xI fH.X 0 4).bind fun CY => bif !CY then some true else (idx f.Places s11).bind fun Ef =>(xI Ef.Y 0 4).bind fun Wv => some (!Wv)):Option Bool).bind fun j45 => bif j45 then some (.inr (.inr false)) else some (.inl (aA (s11 + 1)))) else some (.inr (.inl ()))
def NK (f:ah) (vJ:Int):Option (Int ⊕ (Unit ⊕ Bool)):=bif decide (vJ < (f.Graph.aF.length:Int)) then (idx f.Graph.aF vJ).bind (fun x83 =>(((idx f.Places x83.A).bind fun x90 =>(idx f.Places x83.B).bind fun x91 => bif jT [x90.X,x90.Y] [x91.X,x91.Y] then some true else bif decide (0 < vJ) then (idx f.Graph.aF (aA (vJ - 1))).bind (fun Ei => some (jT [Ei.A,Ei.B] [x83.A,x83.B])) else some false):Option Bool).bind fun j89 => bif j89 then some (.inr (.inr false)) else some (.inl (aA (vJ + 1)))) else some (.inr (.inl ()))
def zQ (f:ah):Option Bool:=(((I9 f.Graph).bind fun r6 => bif !r6 then some true else bif decide (6 < f.Graph.aI) then some true else bif (f.Places.length:Int) != f.Graph.aI then some true else some (decide (15 < (f.Graph.aF.length:Int)))):Option Bool).bind fun j5 => bif j5 then some false else (bH (NJ f) BIG 0).bind (Sum.elim (fun b38 =>(bH (NK f) BIG 0).bind (Sum.elim (fun b81 =>(some true)) (fun r => some r))) (fun r => some r))
def Rw (tV:bI) (s1:Int):Option (Int ⊕ (Unit ⊕ Bool)):=bif decide (s1 < (tV.aN.length:Int)) then (idx tV.aN s1).bind (fun x12 =>(xI x12 0 2).bind fun r13 => bif !r13 then some (.inr (.inr false)) else some (.inl (aA (s1 + 1)))) else some (.inr (.inl ()))
def zS (tV:bI):Option Bool:=(bH (Rw tV) BIG 0).bind (Sum.elim (fun b10 =>(((zQ tV.aG).bind fun jk => bif jk then some ((tV.aN.length:Int) == (tV.aG.Graph.aF.length:Int)) else some false):Option Bool).bind fun j17 => some j17) (fun r => some r))
def F5 (f:ah) (s1:Int × (List (List Int))):Option ((Int × (List (List Int))) ⊕ (List (List Int))):=((bif decide (s1.1 < (f.Graph.aF.length:Int)) then (zQ f).bind (fun CX => some CX) else some false):Option Bool).bind fun j39 => bif j39 then (idx f.Graph.aF s1.1).bind (fun x43 =>(xG (aA (2 * f.Graph.aI))).bind fun u44 =>(idx f.Places x43.A).bind fun kL =>(idx f.Places x43.B).bind fun fH =>(idx f.Places x43.A).bind fun oQ =>(idx f.Places x43.B).bind fun jG =>(idx (List.replicate (aA (2 * f.Graph.aI)).toNat (0:Int)) (aA (2 * x43.A))).bind fun Ef =>(idx ((List.replicate (aA (2 * f.Graph.aI)).toNat (0:Int)).set (aA (2 * x43.A)).toNat (aA (kL.X - fH.X))) (aA ((aA (2 * x43.A)) + 1))).bind fun qJ =>(idx (((List.replicate (aA (2 * f.Graph.aI)).toNat (0:Int)).set (aA (2 * x43.A)).toNat (aA (kL.X - fH.X))).set (aA ((aA (2 * x43.A)) + 1)).toNat (aA (oQ.Y - jG.Y))) (aA (2 * x43.B))).bind fun O5 =>(idx ((((List.replicate (aA (2 * f.Graph.aI)).toNat (0:Int)).set (aA (2 * x43.A)).toNat (aA (kL.X - fH.X))).set (aA ((aA (2 * x43.A)) + 1)).toNat (aA (oQ.Y - jG.Y))).set (aA (2 * x43.B)).toNat (aA (-(aA (kL.X - fH.X))))) (aA ((aA (2 * x43.B)) + 1))).bind fun xZ =>(lim (s1.2.length + [(((((List.replicate (aA (2 * f.Graph.aI)).toNat (0:Int)).set (aA (2 * x43.A)).toNat (aA (kL.X - fH.X))).set (aA ((aA (2 * x43.A)) + 1)).toNat (aA (oQ.Y - jG.Y))).set (aA (2 * x43.B)).toNat (aA (-(aA (kL.X - fH.X))))).set (aA ((aA (2 * x43.B)) + 1)).toNat (aA (-(aA (oQ.Y - jG.Y)))))].length)).bind fun u53 => some (.inl ((aA (s1.1 + 1)),(s1.2 ++ [(((((List.replicate (aA (2 * f.Graph.aI)).toNat (0:Int)).set (aA (2 * x43.A)).toNat (aA (kL.X - fH.X))).set (aA ((aA (2 * x43.A)) + 1)).toNat (aA (oQ.Y - jG.Y))).set (aA (2 * x43.B)).toNat (aA (-(aA (kL.X - fH.X))))).set (aA ((aA (2 * x43.B)) + 1)).toNat (aA (-(aA (oQ.Y - jG.Y)))))])))) else some (.inr s1.2)
def JB (f:ah):Option (List (List Int)):=(bH (F5 f) BIG (0,([]:List (List Int)))).bind fun jJ => some jJ
def Nh (s2:Int × (List (List Int)) × (List (List Int))) (kR:Int × (List Int)):Option ((Int × (List Int)) ⊕ (Int × (List (List Int)) × (List (List Int)) × (List Int))):=bif decide (kR.1 < (s2.2.1.length:Int)) then (idx s2.2.1 kR.1).bind (fun Ef =>(idx Ef s2.1).bind fun qJ =>(lim (kR.2.length + ([qJ]:List Int).length)).bind fun u51 => some (.inl ((aA (kR.1 + 1)),(kR.2 ++ ([qJ]:List Int))))) else some (.inr (s2.1,s2.2.1,s2.2.2,kR.2))
def F7 (f:ah) (s2:Int × (List (List Int)) × (List (List Int))):Option ((Int × (List (List Int)) × (List (List Int))) ⊕ (List (List Int))):=((bif decide (s2.1 < (aA (2 * f.Graph.aI))) then some (decide (0 < (s2.2.1.length:Int))) else some false):Option Bool).bind fun j35 => bif j35 then ((bH (Nh s2) BIG (0,([]:List Int))).bind fun oM =>(lim (oM.2.2.1.length + 1)).bind fun u52 => some (.inl ((aA (oM.1 + 1)),oM.2.1,(oM.2.2.1 ++ [oM.2.2.2])))) else some (.inr s2.2.2)
def SG (f:ah):Option (List (List Int)):=(JB f).bind fun r1 =>(bH (F7 f) BIG (0,r1,([]:List (List Int)))).bind fun wo => some wo
def Ro  (s9:Int × Int):Option ((Int × Int) ⊕ Int):=bif decide (0 < s9.2) then (nz s9.2).bind (fun u16 => some (.inl (s9.2,(Int.tmod s9.1 s9.2)))) else some (.inr s9.1)
def CB (a:Int) (b:Int):Option Int:=(((xI a (-9000000000000000000) 9000000000000000000).bind fun r5 => bif !r5 then some true else (xI b (-9000000000000000000) 9000000000000000000).bind fun r7 => some (!r7)):Option Bool).bind fun j4 => bif j4 then some 0 else (bH (Ro) BIG ((if a < (aA (-a)) then (aA (-a)) else a),(if b < (aA (-b)) then (aA (-b)) else b))).bind fun b14 => some b14
def NU (v:List Int) (s1:Int × Int):Option ((Int × Int) ⊕ (Int ⊕ (List Int))):=bif decide (s1.2 < (v.length:Int)) then (idx v s1.2).bind (fun x18 =>(xI x18 (-9000000000000000000) 9000000000000000000).bind fun r19 => bif !r19 then (lim (([]:List Int).length + v.length)).bind (fun u21 => some (.inr (.inr (([]:List Int) ++ v)))) else (idx v s1.2).bind fun oJ =>(CB s1.1 oJ).bind fun wV => some (.inl (wV,(aA (s1.2 + 1))))) else some (.inr (.inl s1.1))
def NW (v:List Int) (b16:Int) (s26:Int × Int):Option ((Int × Int) ⊕ (Int × Int)):=bif decide (s26.2 < (v.length:Int)) then (((bif s26.1 == 0 then (idx v s26.2).bind (fun kL => some kL) else some s26.1):Option Int).bind fun j43 => some (.inl (j43,(aA (s26.2 + 1))))) else some (.inr (b16,s26.1))
def NY (v:List Int) (j47:Int) (s49:Int × (List Int)):Option ((Int × (List Int)) ⊕ (List Int)):=bif decide (s49.1 < (v.length:Int)) then (idx v s49.1).bind (fun BG =>(nz j47).bind fun u61 =>(lim (s49.2.length + ([(aA (Int.tdiv BG j47))]:List Int).length)).bind fun u62 => some (.inl ((aA (s49.1 + 1)),(s49.2 ++ ([(aA (Int.tdiv BG j47))]:List Int))))) else some (.inr s49.2)
def NT (v:List Int):Option (List Int):=(bH (NU v) BIG (0,0)).bind (Sum.elim (fun b16 => bif b16 == 0 then (lim (([]:List Int).length + v.length)).bind (fun u25 => some (([]:List Int) ++ v)) else (bH (NW v b16) BIG (0,0)).bind fun BL =>((bif decide (BL.2 < 0) then some (aA (-BL.1)) else some BL.1):Option Int).bind fun j47 =>(bH (NY v j47) BIG (0,([]:List Int))).bind fun zo => some zo) (fun r => some r))
def JL (row:List Int):Option (List Int):=(NT row).bind fun r1 => some r1
def OO (a:List Int) (row:List Int) (r3:Int) (x4:Int) (x6:Int) (s8:Int × (List Int)):Option ((Int × (List Int)) ⊕ (List Int)):=bif decide (s8.1 < (a.length:Int)) then (idx a s8.1).bind (fun x19 =>(idx row s8.1).bind fun x20 =>(lim (s8.2.length + ([(aA ((aA (x19 * (aA (Int.tdiv x4 r3)))) - (aA (x20 * (aA (Int.tdiv x6 r3))))))]:List Int).length)).bind fun u21 => some (.inl ((aA (s8.1 + 1)),(s8.2 ++ ([(aA ((aA (x19 * (aA (Int.tdiv x4 r3)))) - (aA (x20 * (aA (Int.tdiv x6 r3))))))]:List Int))))) else some (.inr s8.2)
def SS (a:List Int) (row:List Int) (j:Int):Option (List Int):=(idx a j).bind fun x1 =>(idx row j).bind fun x2 =>(CB x1 x2).bind fun r3 =>(idx row j).bind fun x4 =>(nz r3).bind fun u5 =>(idx a j).bind fun x6 =>(nz r3).bind fun u7 =>(bH (OO a row r3 x4 x6) BIG (0,([]:List Int))).bind fun b17 =>(JL b17).bind fun r22 => some r22
def OH (m:List (List Int)) (s1:Int × (List (List Int))):Option ((Int × (List (List Int))) ⊕ (List (List Int))):=bif decide (s1.1 < (m.length:Int)) then (idx m s1.1).bind (fun x12 =>(JL x12).bind fun r13 =>(lim (s1.2.length + [r13].length)).bind fun u14 => some (.inl ((aA (s1.1 + 1)),(s1.2 ++ [r13])))) else some (.inr s1.2)
def OI (s15:Int × (List (List Int)) × (List Int)) (yx:Int):Option (Int ⊕ (Int × Int × (List (List Int)) × (List Int))):=((bif decide (yx < (s15.2.1.length:Int)) then (idx s15.2.1 yx).bind (fun aGd =>(idx aGd s15.1).bind fun xX => some (xX == 0)) else some false):Option Bool).bind fun EK => bif EK then some (.inl (aA (yx + 1))) else some (.inr (s15.1,yx,s15.2.1,s15.2.2))
def OJ (iG:Int × Int × (List (List Int)) × (List Int)) (pO:List Int) (lN:Int × (List (List Int))):Option ((Int × (List (List Int))) ⊕ (Int × (List (List Int)) × (List Int))):=bif decide (lN.1 < (lN.2.length:Int)) then (((bif lN.1 != (iG.2.2.2.length:Int) then (idx lN.2 lN.1).bind (fun aGf =>(idx aGf iG.1).bind fun aBV => some (aBV != 0)) else some false):Option Bool).bind fun Vz =>((bif Vz then (idx lN.2 lN.1).bind (fun Xm =>(SS Xm pO iG.1).bind fun Oh =>(idx lN.2 lN.1).bind fun uV => some (lN.2.set lN.1.toNat Oh)) else some lN.2):Option (List (List Int))).bind fun Qd => some (.inl ((aA (lN.1 + 1)),Qd))) else some (.inr (iG.1,lN.2,iG.2.2.2))
def GH  (s15:Int × (List (List Int)) × (List Int)):Option ((Int × (List (List Int)) × (List Int)) ⊕ ((List (List Int)) × (List Int))):=((bif decide (0 < (s15.2.1.length:Int)) then (idx s15.2.1 0).bind (fun x153 => some (decide (s15.1 < (x153.length:Int)))) else some false):Option Bool).bind fun Vt => bif Vt then ((bH (OI s15) BIG (s15.2.2.length:Int)).bind fun iG => bif iG.2.1 == (iG.2.2.1.length:Int) then some (.inl ((aA (iG.1 + 1)),iG.2.2.1,iG.2.2.2)) else (idx iG.2.2.1 iG.2.1).bind fun pO =>(idx iG.2.2.1 (iG.2.2.2.length:Int)).bind fun pU =>(idx iG.2.2.1 iG.2.1).bind fun DU =>(idx (iG.2.2.1.set iG.2.1.toNat pU) (iG.2.2.2.length:Int)).bind fun xY =>(bH (OJ iG pO) BIG (0,((iG.2.2.1.set iG.2.1.toNat pU).set (iG.2.2.2.length:Int).toNat pO))).bind fun rY =>(lim (rY.2.2.length + ([rY.1]:List Int).length)).bind fun aOv => some (.inl ((aA (rY.1 + 1)),rY.2.1,(rY.2.2 ++ ([rY.1]:List Int))))) else some (.inr (s15.2.1,s15.2.2))
def OG (m:List (List Int)):Option ((List (List Int)) × (List Int)):=(bH (OH m) BIG (0,([]:List (List Int)))).bind fun b10 =>(bH (GH) BIG (0,b10,([]:List Int))).bind fun sQ => some (sQ.1,sQ.2)
def OD (s2:Int × (List (List Int)) × (List (List Int)) × (List Int)) (jY:Int × Int):Option ((Int × Int) ⊕ (Int × Int × (List (List Int)) × (List (List Int)) × (List Int))):=bif decide (jY.2 < (s2.2.2.2.length:Int)) then (idx s2.2.2.1 jY.2).bind (fun aGa =>(idx s2.2.2.2 jY.2).bind fun aGb =>(idx aGa aGb).bind fun nN =>(idx s2.2.2.1 jY.2).bind fun aGc =>(idx s2.2.2.2 jY.2).bind fun x150 =>(idx aGc x150).bind fun x151 =>(idx s2.2.2.1 jY.2).bind fun x152 =>(idx x152 s2.1).bind fun x153 =>(CB (if nN < (aA (-x151)) then (aA (-x151)) else nN) x153).bind fun tK =>(nz tK).bind fun aOq =>(CB jY.1 (aA (Int.tdiv (if nN < (aA (-x151)) then (aA (-x151)) else nN) tK))).bind fun yh =>(nz yh).bind fun aOr => some (.inl ((aA ((aA (Int.tdiv jY.1 yh)) * (aA (Int.tdiv (if nN < (aA (-x151)) then (aA (-x151)) else nN) tK)))),(aA (jY.2 + 1))))) else some (.inr (s2.1,jY.1,s2.2.1,s2.2.2.1,s2.2.2.2))
def OE (iM:Int × Int × (List (List Int)) × (List (List Int)) × (List Int)) (kC:Int × (List Int)):Option ((Int × (List Int)) ⊕ (Int × (List (List Int)) × (List (List Int)) × (List Int) × (List Int))):=bif decide (kC.1 < (iM.2.2.2.2.length:Int)) then (idx iM.2.2.2.2 kC.1).bind (fun Js =>(idx iM.2.2.2.1 kC.1).bind fun pO =>(idx pO iM.1).bind fun pU =>(idx iM.2.2.2.1 kC.1).bind fun DU =>(idx iM.2.2.2.2 kC.1).bind fun xY =>(idx DU xY).bind fun vP =>(nz vP).bind fun aOt =>(idx kC.2 Js).bind fun UG => some (.inl ((aA (kC.1 + 1)),(kC.2.set Js.toNat (aA (-(aA (Int.tdiv (aA (pU * iM.2.1)) vP)))))))) else some (.inr (iM.1,iM.2.2.1,iM.2.2.2.1,iM.2.2.2.2,kC.2))
def OB (columns:Int) (s2:Int × (List (List Int)) × (List (List Int)) × (List Int)):Option ((Int × (List (List Int)) × (List (List Int)) × (List Int)) ⊕ (List (List Int))):=bif decide (s2.1 < columns) then (Ny s2.2.2.2 s2.1).bind (fun GX => bif GX then some (.inl ((aA (s2.1 + 1)),s2.2.1,s2.2.2.1,s2.2.2.2)) else (bH (OD s2) BIG (1,0)).bind fun iM =>(xG columns).bind fun aOs =>(idx (List.replicate columns.toNat (0:Int)) iM.1).bind fun x159 =>(bH (OE iM) BIG (0,((List.replicate columns.toNat (0:Int)).set iM.1.toNat iM.2.1))).bind fun lZ =>(NT lZ.2.2.2.2).bind fun EU =>(lim (lZ.2.1.length + [EU].length)).bind fun aOu => some (.inl ((aA (lZ.1 + 1)),(lZ.2.1 ++ [EU]),lZ.2.2.1,lZ.2.2.2.1))) else some (.inr s2.2.1)
def OA (m:List (List Int)) (columns:Int):Option (List (List Int)):=(OG m).bind fun r1 =>(bH (OB columns) BIG (0,([]:List (List Int)),r1.1,r1.2)).bind fun zk => some zk
def NZ (f:ah):Option (List (List Int)):=(((zQ f).bind fun r4 => bif !r4 then some true else some ((f.Graph.aF.length:Int) == 0)):Option Bool).bind fun j3 => bif j3 then some ([]:List (List Int)) else (SG f).bind fun r7 =>(OA r7 (f.Graph.aF.length:Int)).bind fun r8 => some r8
def JI (l:List (List Int)) (n:Int) (jZ:Int × Int × Int × (List (List Int)) × (List (List Int))) (rQ:Int × (List Int)):Option ((Int × (List Int)) ⊕ (Int × Int × Int × (List (List Int)) × (List (List Int)) × (List Int))):=bif decide (rQ.1 < n) then (idx jZ.2.2.2.1 jZ.2.1).bind (fun aGj =>(idx aGj rQ.1).bind fun Gx =>(idx l jZ.1).bind fun aGk =>(idx aGk rQ.1).bind fun Gy =>(lim (rQ.2.length + ([(aA (Gx + (aA (jZ.2.2.1 * Gy))))]:List Int).length)).bind fun aOy => some (.inl ((aA (rQ.1 + 1)),(rQ.2 ++ ([(aA (Gx + (aA (jZ.2.2.1 * Gy))))]:List Int))))) else some (.inr (jZ.1,jZ.2.1,jZ.2.2.1,jZ.2.2.2.1,jZ.2.2.2.2,rQ.2))
def Nu (l:List (List Int)) (n:Int) (jZ:Int × Int × Int × (List (List Int)) × (List (List Int))):Option ((Int × Int × Int × (List (List Int)) × (List (List Int))) ⊕ (Int × Int × (List (List Int)) × (List (List Int)))):=bif decide (jZ.2.2.1 ≤ 2) then ((bH (JI l n jZ) BIG (0,([]:List Int))).bind fun o7 =>(lim (o7.2.2.2.2.1.length + [o7.2.2.2.2.2].length)).bind fun aOz => some (.inl (o7.1,o7.2.1,(aA (o7.2.2.1 + 1)),o7.2.2.2.1,(o7.2.2.2.2.1 ++ [o7.2.2.2.2.2])))) else some (.inr (jZ.1,jZ.2.1,jZ.2.2.2.1,jZ.2.2.2.2))
def Ns (l:List (List Int)) (n:Int) (kC:Int × Int × (List (List Int)) × (List (List Int))):Option ((Int × Int × (List (List Int)) × (List (List Int))) ⊕ (Int × (List (List Int)))):=bif decide (kC.2.1 < (kC.2.2.1.length:Int)) then ((bH (Nu l n) BIG (kC.1,kC.2.1,(-2),kC.2.2.1,kC.2.2.2)).bind fun wZ => some (.inl (wZ.1,(aA (wZ.2.1 + 1)),wZ.2.2.1,wZ.2.2.2))) else some (.inr (kC.1,kC.2.2.2))
def JH (l:List (List Int)) (n:Int) (s2:Int × (List (List Int))):Option ((Int × (List (List Int))) ⊕ (List (List Int))):=((bif decide (s2.1 < (l.length:Int)) then some (decide (s2.1 < 3)) else some false):Option Bool).bind fun Vw => bif Vw then ((bH (Ns l n) BIG (s2.1,0,s2.2,([]:List (List Int)))).bind fun wY => some (.inl ((aA (wY.1 + 1)),wY.2))) else some (.inr s2.2)
def SI (l:List (List Int)) (n:Int):Option (List (List Int)):=(xG n).bind fun u1 =>(bH (JH l n) BIG (0,[(List.replicate n.toNat (0:Int))])).bind fun zl => some zl
def JG (w:List Int) (s1:Int):Option (Int ⊕ (Unit ⊕ Bool)):=bif decide (s1 < (w.length:Int)) then (idx w s1).bind (fun x12 =>(xI x12 (-10000000000) 10000000000).bind fun r13 => bif !r13 then some (.inr (.inr false)) else some (.inl (aA (s1 + 1)))) else some (.inr (.inl ()))
def JF (f:ah) (w:List Int):Option Bool:=(bH (JG w) BIG 0).bind (Sum.elim (fun b10 =>(((zQ f).bind fun jk => bif jk then some ((w.length:Int) == (f.Graph.aF.length:Int)) else some false):Option Bool).bind fun j17 => some j17) (fun r => some r))
def NH (f:ah) (w:List Int) (v:Int) (s1:Int × Int × Int):Option ((Int × Int × Int) ⊕ (Int × Int)):=((bif decide (s1.2.2 < (w.length:Int)) then (JF f w).bind (fun Wx => some Wx) else some false):Option Bool).bind fun j59 => bif j59 then (idx f.Graph.aF s1.2.2).bind (fun qZ =>((bif qZ.A == v then some true else some (qZ.B == v)):Option Bool).bind fun j65 =>((bif j65 then (WE qZ v).bind (fun GY =>(idx w s1.2.2).bind fun qc =>(idx f.Places v).bind fun zf =>(idx f.Places GY).bind fun x80 =>(idx w s1.2.2).bind fun x81 =>(idx f.Places v).bind fun x82 =>(idx f.Places GY).bind fun x83 => some ((aA (s1.1 + (aA (qc * (aA (zf.X - x80.X)))))),(aA (s1.2.1 + (aA (x81 * (aA (x82.Y - x83.Y)))))))) else some (s1.1,s1.2.1)):Option (Int × Int)).bind fun j75 => some (.inl (j75.1,j75.2,(aA (s1.2.2 + 1))))) else some (.inr (s1.1,s1.2.1))
def Rj (f:ah) (w:List Int) (v:Int):Option (Int × Int):=(bH (NH f w v) BIG (0,0,0)).bind fun yD => some (yD.1,yD.2)
def Fj (f:ah) (w:List Int) (s1:Int):Option (Int ⊕ (Unit ⊕ Bool)):=((bif decide (s1 < f.Graph.aI) then (JF f w).bind (fun pI => some pI) else some false):Option Bool).bind fun j27 => bif j27 then (Rj f w s1).bind (fun qW =>((bif qW.1 != 0 then some true else some (qW.2 != 0)):Option Bool).bind fun j33 => bif j33 then some (.inr (.inr false)) else some (.inl (aA (s1 + 1)))) else some (.inr (.inl ()))
def Ru (f:ah) (w:List Int):Option Bool:=(bH (Fj f w) BIG 0).bind (Sum.elim (fun fV =>(JF f w).bind fun yt => some yt) (fun r => some r))
def NP (tV:bI) (w:List Int) (s9:Int):Option (Int ⊕ (Unit ⊕ Bool)):=bif decide (s9 < (w.length:Int)) then ((((idx tV.aN s9).bind fun x69 => bif x69 == 1 then (idx w s9).bind (fun Xn => bif decide (Xn < 0) then some true else (idx tV.aN s9).bind fun x73 => bif x73 == 2 then (idx w s9).bind (fun Xo => some (decide (0 < Xo))) else some false) else (idx tV.aN s9).bind fun oU => bif oU == 2 then (idx w s9).bind (fun qc => some (decide (0 < qc))) else some false):Option Bool).bind fun j68 => bif j68 then some (.inr (.inr false)) else some (.inl (aA (s9 + 1)))) else some (.inr (.inl ()))
def NM (tV:bI) (w:List Int):Option Bool:=(((zS tV).bind fun r5 => bif !r5 then some true else (Ru tV.aG w).bind fun r7 => some (!r7)):Option Bool).bind fun j4 => bif j4 then some false else (bH (NP tV w) BIG 0).bind (Sum.elim (fun yD =>(some true)) (fun r => some r))
def NQ (tV:bI) (w:List Int) (s3:Int):Option (Int ⊕ (Unit ⊕ Bool)):=bif decide (s3 < (w.length:Int)) then ((((idx tV.aN s3).bind fun x28 => bif x28 != 0 then (idx w s3).bind (fun x30 => some (x30 == 0)) else some false):Option Bool).bind fun j27 => bif j27 then some (.inr (.inr false)) else some (.inl (aA (s3 + 1)))) else some (.inr (.inl ()))
def EO (tV:bI) (w:List Int):Option Bool:=(NM tV w).bind fun r1 => bif !r1 then some false else (bH (NQ tV w) BIG 0).bind (Sum.elim (fun b22 =>(some true)) (fun r => some r))
def NG (tV:bI) (r4:List (List Int)) (s5:Int):Option (Int ⊕ (Unit ⊕ ((List Int) × Bool))):=bif decide (s5 < (r4.length:Int)) then (idx r4 s5).bind (fun x20 =>(EO tV x20).bind fun Jc => bif Jc then (idx r4 s5).bind (fun x23 =>(lim (([]:List Int).length + x23.length)).bind fun u24 => some (.inr (.inr ((([]:List Int) ++ x23),true)))) else some (.inl (aA (s5 + 1)))) else some (.inr (.inl ()))
def Ri (tV:bI):Option ((List Int) × Bool):=(zS tV).bind fun r1 => bif !r1 then some (([]:List Int),false) else (NZ tV.aG).bind fun r3 =>(SI r3 (tV.aN.length:Int)).bind fun r4 =>(bH (NG tV r4) BIG 0).bind (Sum.elim (fun b18 =>(some (([]:List Int),false))) (fun r => some r))
def Ir (f:ah):Option (List (List Int)):=(zM f).bind fun r1 => bif !r1 then some ([]:List (List Int)) else (Iw f).bind fun r3 =>(MK r3 (aA (2 * f.Graph.aI))).bind fun r4 => some r4
def I5 (f:ah) (v:List Int):Option Bool:=(((zM f).bind fun r5 => bif r5 then (MC v (aA (2 * f.Graph.aI))).bind (fun r7 => some r7) else some false):Option Bool).bind fun j4 => some j4
def Lm (f:ah) (v:List Int) (s3:Int):Option (Int ⊕ (Int × Int)):=bif decide (s3 < (f.Places.length:Int)) then (idx f.Places s3).bind (fun x30 =>(idx f.Places 0).bind fun x31 =>(idx f.Places 0).bind fun x32 =>((bif (aA (x30.X - x31.X)) != 0 then some true else some ((aA (x30.Y - x32.Y)) != 0)):Option Bool).bind fun j34 => bif j34 then (idx v (aA ((aA (2 * s3)) + 1))).bind (fun Gz =>(idx v 1).bind fun x38 =>(idx v (aA (2 * s3))).bind fun x39 =>(idx v 0).bind fun x40 => some (.inr ((aA ((aA ((aA (Gz - x38)) * (aA (x30.X - x31.X)))) - (aA ((aA (x39 - x40)) * (aA (x30.Y - x32.Y)))))),(aA ((aA ((aA (x30.X - x31.X)) * (aA (x30.X - x31.X)))) + (aA ((aA (x30.Y - x32.Y)) * (aA (x30.Y - x32.Y))))))))) else some (.inl (aA (s3 + 1)))) else some (.inr (0,1))
def Lp (f:ah) (v:List Int) (b28:Int × Int) (uT:Int):Option (Int ⊕ (Unit ⊕ Bool)):=bif decide (uT < (f.Places.length:Int)) then (idx f.Places uT).bind (fun oU =>(idx f.Places 0).bind fun xk =>(idx f.Places 0).bind fun qc =>(((idx v (aA (2 * uT))).bind fun x85 =>(idx v 0).bind fun x86 => bif (aA ((aA (x85 - x86)) * b28.2)) != (aA ((aA (-b28.1)) * (aA (oU.Y - qc.Y)))) then some true else (idx v (aA ((aA (2 * uT)) + 1))).bind fun x88 =>(idx v 1).bind fun x89 => some ((aA ((aA (x88 - x89)) * b28.2)) != (aA (b28.1 * (aA (oU.X - xk.X)))))):Option Bool).bind fun j84 => bif j84 then some (.inr (.inr false)) else some (.inl (aA (uT + 1)))) else some (.inr (.inl ()))
def zO (f:ah) (v:List Int):Option Bool:=(I5 f v).bind fun r1 => bif !r1 then some false else (bH (Lm f v) BIG 0).bind fun b28 =>(bH (Lp f v b28) BIG 0).bind (Sum.elim (fun b74 =>(some true)) (fun r => some r))
def LU (f:ah) (r1:List (List Int)) (s2:Int):Option (Int ⊕ (Unit ⊕ ((List Int) × Bool))):=bif decide (s2 < (r1.length:Int)) then (idx r1 s2).bind (fun kZ =>(zO f kZ).bind fun gX => bif !gX then some (.inr (.inr (kZ,true))) else some (.inl (aA (s2 + 1)))) else some (.inr (.inl ()))
def Qp (f:ah):Option ((List Int) × Bool):=(Ir f).bind fun r1 =>(bH (LU f r1) BIG 0).bind (Sum.elim (fun b11 =>(some (([]:List Int),false))) (fun r => some r))
def Ql (f:ah) (v:List Int) (a:Int) (b:Int):Option Int:=(((I5 f v).bind fun r7 => bif !r7 then some true else (La f.Graph a).bind fun r9 => bif !r9 then some true else (La f.Graph b).bind fun r11 => some (!r11)):Option Bool).bind fun j6 => bif j6 then some 0 else (idx f.Places a).bind fun kZ =>(idx f.Places b).bind fun x14 =>(idx v (aA (2 * a))).bind fun x15 =>(idx v (aA (2 * b))).bind fun x16 =>(idx v (aA ((aA (2 * a)) + 1))).bind fun x17 =>(idx v (aA ((aA (2 * b)) + 1))).bind fun x18 => some (aA ((aA ((aA (kZ.X - x14.X)) * (aA (x15 - x16)))) + (aA ((aA (kZ.Y - x14.Y)) * (aA (x17 - x18))))))
def Lc (tV:bI) (v:List Int) (s9:Int):Option (Int ⊕ (Unit ⊕ Bool)):=bif decide (s9 < (tV.aG.Graph.aF.length:Int)) then (idx tV.aG.Graph.aF s9).bind (fun x90 =>(Ql tV.aG v x90.A x90.B).bind fun nJ =>(((idx tV.aN s9).bind fun aBN => bif aBN == 0 then (bif nJ != 0 then some true else (idx tV.aN s9).bind fun x113 => bif x113 == 1 then (bif decide (0 < nJ) then some true else (idx tV.aN s9).bind fun Jq => bif Jq == 2 then some (decide (nJ < 0)) else some false) else (idx tV.aN s9).bind fun aBO => bif aBO == 2 then some (decide (nJ < 0)) else some false) else (idx tV.aN s9).bind fun aBQ => bif aBQ == 1 then (bif decide (0 < nJ) then some true else (idx tV.aN s9).bind fun Jr => bif Jr == 2 then some (decide (nJ < 0)) else some false) else (idx tV.aN s9).bind fun aBS => bif aBS == 2 then some (decide (nJ < 0)) else some false):Option Bool).bind fun j109 => bif j109 then some (.inr (.inr false)) else some (.inl (aA (s9 + 1)))) else some (.inr (.inl ()))
def Fa (tV:bI) (v:List Int):Option Bool:=(((zN tV).bind fun r5 => bif !r5 then some true else (I5 tV.aG v).bind fun r7 => some (!r7)):Option Bool).bind fun j4 => bif j4 then some false else (bH (Lc tV v) BIG 0).bind (Sum.elim (fun b88 =>(some true)) (fun r => some r))
def wQ (tV:bI) (v:List Int):Option Bool:=(((Fa tV v).bind fun r5 => bif r5 then (zO tV.aG v).bind (fun r7 => some (!r7)) else some false):Option Bool).bind fun j4 => some j4
def Qm (s3:Int × Int × (List (List Int))) (fH:List Int) (s49:Int × (List (List Int))):Option ((Int × (List (List Int))) ⊕ (Int × Int × (List (List Int)))):=bif decide (s49.1 < (fH.length:Int)) then (idx s49.2 s3.2.1).bind (fun xg =>(same fH.length xg.length).bind fun u63 =>(idx xg s49.1).bind fun mg =>(idx s49.2 s3.2.1).bind fun rW =>(same fH.length rW.length).bind fun u66 =>(idx rW s49.1).bind fun x67 => some (.inl ((aA (s49.1 + 1)),(s49.2.set s3.2.1.toNat (rW.set s49.1.toNat (aA (-mg))))))) else some (.inr (s3.1,s3.2.1,s49.2))
def LP (gV:bI) (s3:Int × Int × (List (List Int))):Option ((Int × Int × (List (List Int))) ⊕ (Unit ⊕ ((List Int) × Bool × bI))):=bif decide (s3.2.1 < s3.1) then (idx s3.2.2 s3.2.1).bind (fun fH =>(wQ gV fH).bind fun CY => bif CY then some (.inr (.inr (fH,true,gV))) else (bH (Qm s3 fH) BIG (0,s3.2.2)).bind fun rZ =>(idx rZ.2.2 s3.2.1).bind fun Jv =>(same fH.length Jv.length).bind fun u69 =>(wQ gV Jv).bind fun TY => bif TY then (idx rZ.2.2 s3.2.1).bind (fun u72 =>(same fH.length u72.length).bind fun u73 =>(same fH.length u72.length).bind fun u74 => some (.inr (.inr (u72,true,gV)))) else some (.inl (rZ.1,(aA (rZ.2.1 + 1)),rZ.2.2))) else some (.inr (.inl ()))
def aAC (keep:List Int) (gV:bI):Option ((List Int) × Bool × bI):=(Lr gV.aG.Graph keep).bind fun r1 =>(Ir (ah.mk r1 gV.aG.Places)).bind fun r2 =>(bH (LP gV) BIG ((r2.length:Int),0,r2)).bind (Sum.elim (fun X0 =>(some (([]:List Int),false,gV))) (fun r => some r))
def aAE (s3:Int × Int × (List (List Int))) (fH:List Int) (s49:Int × (List (List Int))):Option ((Int × (List (List Int))) ⊕ (Int × Int × (List (List Int)))):=bif decide (s49.1 < (fH.length:Int)) then (idx s49.2 s3.2.1).bind (fun xg =>(same fH.length xg.length).bind fun u63 =>(idx xg s49.1).bind fun mg =>(idx s49.2 s3.2.1).bind fun rW =>(same fH.length rW.length).bind fun u66 =>(idx rW s49.1).bind fun x67 => some (.inl ((aA (s49.1 + 1)),(s49.2.set s3.2.1.toNat (rW.set s49.1.toNat (aA (-mg))))))) else some (.inr (s3.1,s3.2.1,s49.2))
def aAD (gV:bI) (s3:Int × Int × (List (List Int))):Option ((Int × Int × (List (List Int))) ⊕ (Unit ⊕ ((List Int) × Bool × bI))):=bif decide (s3.2.1 < s3.1) then (idx s3.2.2 s3.2.1).bind (fun fH =>(wQ gV fH).bind fun CY => bif CY then some (.inr (.inr (fH,true,gV))) else (bH (aAE s3 fH) BIG (0,s3.2.2)).bind fun rZ =>(idx rZ.2.2 s3.2.1).bind fun Jv =>(same fH.length Jv.length).bind fun u69 =>(wQ gV Jv).bind fun TY => bif TY then (idx rZ.2.2 s3.2.1).bind (fun u72 =>(same fH.length u72.length).bind fun u73 =>(same fH.length u72.length).bind fun u74 => some (.inr (.inr (u72,true,gV)))) else some (.inl (rZ.1,(aA (rZ.2.1 + 1)),rZ.2.2))) else some (.inr (.inl ()))
def Qn (keep:List Int) (gV:bI):Option ((List Int) × Bool × bI):=(Lr gV.aG.Graph keep).bind fun r1 =>(Ir (ah.mk r1 gV.aG.Places)).bind fun r2 =>(bH (aAD gV) BIG ((r2.length:Int),0,r2)).bind (Sum.elim (fun X0 =>(some (([]:List Int),false,gV))) (fun r => some r))
def Ip (tV:bI) (s5:Int × (List Int) × Int × (List bD) × (List eG) × (List Int)) (qH:Int × (List Int)):Option ((Int × (List Int)) ⊕ (Int × Int × (List bD) × (List eG) × (List Int) × (List Int) × (List Int))):=bif decide (qH.1 < (tV.aN.length:Int)) then (((bif qH.1 != s5.1 then (lim (qH.2.length + ([qH.1]:List Int).length)).bind (fun u70 => some (qH.2 ++ ([qH.1]:List Int))) else some qH.2):Option (List Int)).bind fun j68 => some (.inl ((aA (qH.1 + 1)),j68))) else some (.inr (s5.1,s5.2.2.1,s5.2.2.2.1,s5.2.2.2.2.1,s5.2.2.2.2.2,s5.2.1,qH.2))
def LQ (tV:bI) (s5:Int × (List Int) × Int × (List bD) × (List eG) × (List Int)):Option ((Int × (List Int) × Int × (List bD) × (List eG) × (List Int)) ⊕ ((Int × (List bD) × (List eG) × (List Int) × (List Int)) ⊕ ((List Int) × Bool))):=bif decide (s5.1 < (tV.aN.length:Int)) then (idx tV.aN s5.1).bind (fun jG => bif jG == 0 then (lim (s5.2.1.length + ([s5.1]:List Int).length)).bind (fun u50 => some (.inl ((aA (s5.1 + 1)),(s5.2.1 ++ ([s5.1]:List Int)),s5.2.2.1,s5.2.2.2.1,s5.2.2.2.2.1,s5.2.2.2.2.2))) else (bH (Ip tV s5) BIG (0,([]:List Int))).bind fun b64 =>(Qn b64.2.2.2.2.2.2 (bI.mk (ah.mk (bW.mk b64.2.1 b64.2.2.1) b64.2.2.2.1) b64.2.2.2.2.1)).bind fun ou => bif ou.2.1 then some (.inr (.inr (ou.1,true))) else some (.inl ((aA (b64.1 + 1)),b64.2.2.2.2.2.1,ou.2.2.aG.Graph.aI,ou.2.2.aG.Graph.aF,ou.2.2.aG.Places,ou.2.2.aN))) else some (.inr (.inl (s5.2.2.1,s5.2.2.2.1,s5.2.2.2.2.1,s5.2.2.2.2.2,s5.2.1)))
def Qo (tV:bI):Option ((List Int) × Bool):=(zN tV).bind fun r1 => bif !r1 then some (([]:List Int),false) else (Qp tV.aG).bind fun r3 => bif r3.2 then some (r3.1,true) else (bH (LQ tV) BIG (0,([]:List Int),tV.aG.Graph.aI,tV.aG.Graph.aF,tV.aG.Places,tV.aN)).bind (Sum.elim (fun ny =>(Qn ny.2.2.2.2 (bI.mk (ah.mk (bW.mk ny.1 ny.2.1) ny.2.2.1) ny.2.2.2.1)).bind fun rC => some (rC.1,rC.2.1)) (fun r => some r))
def JA (f:ah):Option (List (List Int)):=(zQ f).bind fun r1 => bif !r1 then some ([]:List (List Int)) else (JB f).bind fun r3 =>(OA r3 (aA (2 * f.Graph.aI))).bind fun r4 => some r4
def JE (v:List Int) (s1:Int):Option (Int ⊕ (Unit ⊕ Bool)):=bif decide (s1 < (v.length:Int)) then (idx v s1).bind (fun x12 =>(xI x12 (-10000000000) 10000000000).bind fun r13 => bif !r13 then some (.inr (.inr false)) else some (.inl (aA (s1 + 1)))) else some (.inr (.inl ()))
def F6 (f:ah) (v:List Int):Option Bool:=(bH (JE v) BIG 0).bind (Sum.elim (fun b10 =>(((zQ f).bind fun jk => bif jk then some ((v.length:Int) == (aA (2 * f.Graph.aI))) else some false):Option Bool).bind fun j17 => some j17) (fun r => some r))
def Mc (f:ah) (v:List Int) (a:Int) (b:Int):Option Int:=(((F6 f v).bind fun r7 => bif !r7 then some true else bif decide (a < 0) then some true else bif decide (b < 0) then some true else bif decide (f.Graph.aI ≤ a) then some true else some (decide (f.Graph.aI ≤ b))):Option Bool).bind fun j6 => bif j6 then some 0 else (idx f.Places a).bind fun kZ =>(idx f.Places b).bind fun x14 =>(idx v (aA (2 * a))).bind fun x15 =>(idx v (aA (2 * b))).bind fun x16 =>(idx f.Places a).bind fun x17 =>(idx f.Places b).bind fun x18 =>(idx v (aA ((aA (2 * a)) + 1))).bind fun x19 =>(idx v (aA ((aA (2 * b)) + 1))).bind fun x20 => some (aA ((aA ((aA (kZ.X - x14.X)) * (aA (x15 - x16)))) + (aA ((aA (x17.Y - x18.Y)) * (aA (x19 - x20))))))
def Nc (f:ah) (v:List Int) (s1:Int) (rD:Int):Option (Int ⊕ (Int ⊕ Bool)):=bif decide (rD < s1) then (idx f.Places s1).bind (fun x151 =>(idx f.Places 0).bind fun x152 =>(idx f.Places s1).bind fun x153 =>(idx f.Places 0).bind fun vO =>(idx f.Places rD).bind fun vz =>(idx f.Places 0).bind fun wB =>(idx f.Places rD).bind fun x157 =>(idx f.Places 0).bind fun x158 =>(idx v (aA (2 * s1))).bind fun x159 =>(idx v 0).bind fun x160 =>(idx v (aA ((aA (2 * s1)) + 1))).bind fun BA =>(idx v 1).bind fun BD =>(idx v (aA (2 * rD))).bind fun DL =>(idx v 0).bind fun DN =>(idx v (aA ((aA (2 * rD)) + 1))).bind fun DR =>(idx v 1).bind fun DT =>((bif (aA ((aA (x151.X - x152.X)) * (aA (x157.Y - x158.Y)))) == (aA ((aA (x153.Y - vO.Y)) * (aA (vz.X - wB.X)))) then (bif (aA ((aA ((aA (vz.X - wB.X)) * (aA (x159 - x160)))) + (aA ((aA (x157.Y - x158.Y)) * (aA (BA - BD)))))) != (aA ((aA ((aA (x151.X - x152.X)) * (aA (DL - DN)))) + (aA ((aA (x153.Y - vO.Y)) * (aA (DR - DT)))))) then some true else some ((aA ((aA ((aA (vz.X - wB.X)) * (aA (BA - BD)))) - (aA ((aA (x157.Y - x158.Y)) * (aA (x159 - x160)))))) != (aA ((aA ((aA (x151.X - x152.X)) * (aA (DR - DT)))) - (aA ((aA (x153.Y - vO.Y)) * (aA (DL - DN)))))))) else some false):Option Bool).bind fun Vx => bif Vx then some (.inr (.inr false)) else some (.inl (aA (rD + 1)))) else some (.inr (.inl s1))
def Nb (f:ah) (v:List Int) (s1:Int):Option (Int ⊕ (Unit ⊕ Bool)):=bif decide (s1 < f.Graph.aI) then ((bH (Nc f v s1) BIG 1).bind (Sum.elim (fun J8 =>(some (.inl (aA (J8 + 1))))) (fun r => some (.inr (.inr r))))) else some (.inr (.inl ()))
def SE (f:ah) (v:List Int):Option Bool:=(bH (Nb f v) BIG 1).bind (Sum.elim (fun aBp =>(some true)) (fun r => some r))
def NR (f:ah) (v:List Int) (s1:Int) (jY:Int):Option (Int ⊕ (Int ⊕ Bool)):=bif decide (jY < s1) then ((((Mc f v s1 jY).bind fun Wp => bif Wp != 0 then some true else (idx f.Places s1).bind fun xX =>(idx f.Places jY).bind fun BF => bif jT [xX.X,xX.Y] [BF.X,BF.Y] then (idx v (aA (2 * s1))).bind (fun pO =>(idx v (aA (2 * jY))).bind fun pU => bif pO != pU then some true else (idx v (aA ((aA (2 * s1)) + 1))).bind fun xY =>(idx v (aA ((aA (2 * jY)) + 1))).bind fun vP => some (xY != vP)) else some false):Option Bool).bind fun EK => bif EK then some (.inr (.inr false)) else some (.inl (aA (jY + 1)))) else some (.inr (.inl s1))
def Fq (f:ah) (v:List Int) (s1:Int):Option (Int ⊕ (Unit ⊕ Bool)):=((bif decide (s1 < f.Graph.aI) then (F6 f v).bind (fun GX => some GX) else some false):Option Bool).bind fun j113 => bif j113 then ((bH (NR f v s1) BIG 0).bind (Sum.elim (fun J9 =>(some (.inl (aA (J9 + 1))))) (fun r => some (.inr (.inr r))))) else some (.inr (.inl ()))
def Fp (f:ah) (v:List Int):Option Bool:=(bH (Fq f v) BIG 0).bind (Sum.elim (fun b110 =>(((F6 f v).bind fun Wq => bif Wq then (SE f v).bind (fun TW => some TW) else some false):Option Bool).bind fun LD => some LD) (fun r => some r))
def NE (f:ah) (r1:List (List Int)) (s2:Int):Option (Int ⊕ (Unit ⊕ ((List Int) × Bool))):=bif decide (s2 < (r1.length:Int)) then (idx r1 s2).bind (fun x15 =>(Fp f x15).bind fun r16 => bif !r16 then (idx r1 s2).bind (fun x18 => some (.inr (.inr (x18,true)))) else some (.inl (aA (s2 + 1)))) else some (.inr (.inl ()))
def Rh (f:ah):Option ((List Int) × Bool):=(JA f).bind fun r1 =>(bH (NE f r1) BIG 0).bind (Sum.elim (fun b13 =>(some (([]:List Int),false))) (fun r => some r))
def NI (tV:bI) (v:List Int) (s9:Int):Option (Int ⊕ (Unit ⊕ Bool)):=bif decide (s9 < (tV.aN.length:Int)) then (idx tV.aG.Graph.aF s9).bind (fun Xp =>(idx tV.aG.Graph.aF s9).bind fun x93 =>(Mc tV.aG v Xp.A x93.B).bind fun mZ =>(((idx tV.aN s9).bind fun x113 => bif x113 == 0 then (bif mZ != 0 then some true else (idx tV.aN s9).bind fun Jq => bif Jq == 1 then (bif decide (0 < mZ) then some true else (idx tV.aN s9).bind fun aBP => bif aBP == 2 then some (decide (mZ < 0)) else some false) else (idx tV.aN s9).bind fun aBR => bif aBR == 2 then some (decide (mZ < 0)) else some false) else (idx tV.aN s9).bind fun Jr => bif Jr == 1 then (bif decide (0 < mZ) then some true else (idx tV.aN s9).bind fun aBT => bif aBT == 2 then some (decide (mZ < 0)) else some false) else (idx tV.aN s9).bind fun O4 => bif O4 == 2 then some (decide (mZ < 0)) else some false):Option Bool).bind fun j112 => bif j112 then some (.inr (.inr false)) else some (.inl (aA (s9 + 1)))) else some (.inr (.inl ()))
def I8 (tV:bI) (v:List Int):Option Bool:=(((zS tV).bind fun r5 => bif !r5 then some true else (F6 tV.aG v).bind fun r7 => some (!r7)):Option Bool).bind fun j4 => bif j4 then some false else (bH (NI tV v) BIG 0).bind (Sum.elim (fun b90 =>(some true)) (fun r => some r))
def Fv (tV:bI) (v:List Int):Option Bool:=(((I8 tV v).bind fun r5 => bif r5 then (Fp tV.aG v).bind (fun r7 => some (!r7)) else some false):Option Bool).bind fun j4 => some j4
def Np (l:List (List Int)) (s1:Int) (kY:Int × (List Int)):Option ((Int × (List Int)) ⊕ (Int × (List Int))):=(idx l s1).bind fun Ju => bif decide (kY.1 < (Ju.length:Int)) then (idx l s1).bind (fun BG =>(idx BG kY.1).bind fun sN =>(lim (kY.2.length + ([(aA (-sN))]:List Int).length)).bind fun u62 => some (.inl ((aA (kY.1 + 1)),(kY.2 ++ ([(aA (-sN))]:List Int))))) else some (.inr (s1,kY.2))
def Nl (tV:bI) (l:List (List Int)) (s1:Int):Option (Int ⊕ (Unit ⊕ ((List Int) × Bool))):=bif decide (s1 < (l.length:Int)) then (idx l s1).bind (fun jI =>(Fv tV jI).bind fun r43 => bif r43 then (idx l s1).bind (fun kL => some (.inr (.inr (kL,true)))) else (bH (Np l s1) BIG (0,([]:List Int))).bind fun rH =>(Fv tV rH.2).bind fun Wy => bif Wy then some (.inr (.inr (rH.2,true))) else some (.inl (aA (rH.1 + 1)))) else some (.inr (.inl ()))
def Nk (tV:bI) (l:List (List Int)):Option ((List Int) × Bool):=(bH (Nl tV l) BIG 0).bind (Sum.elim (fun Eu =>(some (([]:List Int),false))) (fun r => some r))
def ND (tV:bI) (s5:Int × (List Int)):Option ((Int × (List Int)) ⊕ ((List Int) ⊕ ((List Int) × Bool))):=bif decide (s5.1 < (tV.aN.length:Int)) then (idx tV.aN s5.1).bind (fun x24 => bif x24 == 0 then (lim (s5.2.length + ([s5.1]:List Int).length)).bind (fun u26 => some (.inl ((aA (s5.1 + 1)),(s5.2 ++ ([s5.1]:List Int))))) else (Fz tV.aG.Graph s5.1).bind fun r27 =>(JA (ah.mk r27.1 tV.aG.Places)).bind fun r28 =>(Nk tV r28).bind fun pI => bif pI.2 then some (.inr (.inr (pI.1,true))) else some (.inl ((aA (s5.1 + 1)),s5.2))) else some (.inr (.inl s5.2))
def NC (tV:bI):Option ((List Int) × Bool):=(zS tV).bind fun r1 => bif !r1 then some (([]:List Int),false) else (Rh tV.aG).bind fun r3 => bif r3.2 then some (r3.1,true) else (bH (ND tV) BIG (0,([]:List Int))).bind (Sum.elim (fun b22 =>(Rx tV.aG.Graph b22).bind fun qW =>(JA (ah.mk qW tV.aG.Places)).bind fun r32 =>(Nk tV r32).bind fun qX => some (qX.1,qX.2)) (fun r => some r))
def V9 (m:List (List Int)) (columns:Int):Option Int:=(MQ m columns).bind fun r1 => some (r1.2.1.length:Int)
def Qv (f:ah):Option Int:=(zM f).bind fun r1 => bif !r1 then some (-1) else (Iw f).bind fun r3 =>(V9 r3 (aA (2 * f.Graph.aI))).bind fun r4 => some r4
def LZ (f:ah) (s3:Bool × Int):Option ((Bool × Int) ⊕ Bool):=bif decide (s3.2 < (f.Places.length:Int)) then (idx f.Places s3.2).bind (fun x17 =>((bif s3.1 then (idx f.Places 0).bind (fun oJ => some (jT [x17.X,x17.Y] [oJ.X,oJ.Y])) else some false):Option Bool).bind fun j20 => some (.inl (j20,(aA (s3.2 + 1))))) else some (.inr s3.1)
def Qu (f:ah):Option Int:=(zM f).bind fun r1 => bif !r1 then some (-1) else (bH (LZ f) BIG (true,0)).bind fun b15 =>((bif b15 then some 2 else some 3):Option Int).bind fun j24 =>(Qv f).bind fun qy => some (aA ((aA ((aA (2 * f.Graph.aI)) - j24)) - qy))
def Qy (f:ah):Option Bool:=(Qu f).bind fun r1 => some (r1 == 0)
def Iu (tV:bI) (w:List Int):Option Bool:=(((xH tV w).bind fun r5 => bif r5 then (Qy tV.aG).bind (fun r7 => some r7) else some false):Option Bool).bind fun j4 => some j4
def OM (n:Int) (s1:Int × (List Int) × Int × Int × (List Int)):Option ((Int × (List Int) × Int × Int × (List Int)) ⊕ ((List Int) × Int × Int × (List Int))):=bif decide (s1.1 < n) then (pG (dW.mk s1.2.1 s1.2.2.1 s1.2.2.2.1) 13).bind (fun r10 =>(lim (s1.2.2.2.2.length + ([(aA (r10.1 - 6))]:List Int).length)).bind fun u11 => some (.inl ((aA (s1.1 + 1)),r10.2.b,r10.2.i,r10.2.h,(s1.2.2.2.2 ++ ([(aA (r10.1 - 6))]:List Int))))) else some (.inr (s1.2.1,s1.2.2.1,s1.2.2.2.1,s1.2.2.2.2))
def OL (c:dW) (n:Int):Option ((List Int) × dW):=(bH (OM n) BIG (0,c.b,c.i,c.h,([]:List Int))).bind fun b8 => some (b8.2.2.2,(dW.mk b8.1 b8.2.1 b8.2.2.1))
def SH (r2:bI × dW) (jm:Int × (List Int)):Option ((Int × (List Int)) ⊕ ((List bD) × (List Int) × Int × (List eG) × (List Int))):=bif decide (jm.1 < (jm.2.length:Int)) then (idx jm.2 jm.1).bind (fun x34 =>(idx jm.2 jm.1).bind fun x35 => some (.inl ((aA (jm.1 + 1)),(jm.2.set jm.1.toNat (aA (-x34)))))) else some (.inr (r2.1.aG.Graph.aF,r2.1.aN,r2.1.aG.Graph.aI,r2.1.aG.Places,jm.2))
def Nr (code:List Int):Option (bI × (List Int)):=(F9 code).bind fun r1 =>(F8 r1).bind fun r2 =>(NZ r2.1.aG).bind fun r3 =>((bif decide (0 < (r3.length:Int)) then (Ai r2.2 5).bind (fun r8 => some ((!r8.1),r8.2.b,r8.2.i,r8.2.h)) else some (false,r2.2.b,r2.2.i,r2.2.h)):Option (Bool × (List Int) × Int × Int)).bind fun j6 => bif j6.1 then (pG (dW.mk j6.2.1 j6.2.2.1 j6.2.2.2) (r3.length:Int)).bind (fun r10 =>(idx r3 r10.1).bind fun x11 =>(lim (([]:List Int).length + x11.length)).bind fun u12 =>(Ai r10.2 2).bind fun r13 =>((bif r13.1 then ((bH (SH r2) BIG (0,(([]:List Int) ++ x11))).bind fun b32 => some (b32.2.2.1,b32.2.2.2.1,b32.2.2.2.2,b32.1,b32.2.1)) else some (r2.1.aG.Graph.aI,r2.1.aG.Places,(([]:List Int) ++ x11),r2.1.aG.Graph.aF,r2.1.aN)):Option (Int × (List eG) × (List Int) × (List bD) × (List Int))).bind fun j23 => some ((bI.mk (ah.mk (bW.mk j23.1 j23.2.2.2.1) j23.2.1) j23.2.2.2.2),j23.2.2.1)) else (OL (dW.mk j6.2.1 j6.2.2.1 j6.2.2.2) (r2.1.aN.length:Int)).bind fun yt => some (r2.1,yt.1)
def RQ (code:List Int):Option (bI × (List Int)):=(Nr code).bind fun r1 => some (r1.1,r1.2)
def Q7 (f:ah):Option ah:=(MI f.Graph).bind fun r1 =>(lim (([]:List eG).length + f.Places.length)).bind fun u2 => some (ah.mk r1 (([]:List eG) ++ f.Places))
def L9 (r1:ah) (r2:List Int) (s3:Int × (List Int)):Option ((Int × (List Int)) ⊕ ((List bD) × (List eG) × (List Int) × Int)):=bif decide (s3.1 < (r2.length:Int)) then (idx s3.2 s3.1).bind (fun x28 =>((bif x28 == 1 then (idx s3.2 s3.1).bind (fun x35 => some (s3.2.set s3.1.toNat 2)) else bif x28 == 2 then (idx s3.2 s3.1).bind (fun Gz => some (s3.2.set s3.1.toNat 1)) else some s3.2):Option (List Int)).bind fun j33 => some (.inl ((aA (s3.1 + 1)),j33))) else some (.inr (r1.Graph.aF,r1.Places,s3.2,r1.Graph.aI))
def Iz (tV:bI):Option bI:=(Q7 tV.aG).bind fun r1 =>(Bq tV.aN).bind fun r2 =>(bH (L9 r1 r2) BIG (0,r2)).bind fun mJ => some (bI.mk (ah.mk (bW.mk mJ.2.2.2 mJ.1) mJ.2.1) mJ.2.2.1)
def Nq (code:List Int):Option (bI × (List Int)):=(F9 code).bind fun r1 =>(F8 r1).bind fun r2 =>(NC r2.1).bind fun r3 =>((bif r3.2 then (Ai r2.2 4).bind (fun r8 => some ((!r8.1),r8.2.b,r8.2.i,r8.2.h)) else some (false,r2.2.b,r2.2.i,r2.2.h)):Option (Bool × (List Int) × Int × Int)).bind fun j6 => bif j6.1 then some (r2.1,r3.1) else (OL (dW.mk j6.2.1 j6.2.2.1 j6.2.2.2) (aA (2 * (r2.1.aG.Places.length:Int)))).bind fun r10 => some (r2.1,r10.1)
def RP (code:List Int):Option (bI × (List Int)):=(Nq code).bind fun r1 => some (r1.1,r1.2)
def Rf (a:bW) (b:bW) (s5:Int):Option (Int ⊕ (Unit ⊕ Bool)):=bif decide (s5 < (a.aF.length:Int)) then (idx a.aF s5).bind (fun x16 =>(idx b.aF s5).bind fun x17 => bif !(jT [x16.A,x16.B] [x17.A,x17.B]) then some (.inr (.inr false)) else some (.inl (aA (s5 + 1)))) else some (.inr (.inl ()))
def RZ (a:bW) (b:bW):Option Bool:=((bif a.aI != b.aI then some true else some ((a.aF.length:Int) != (b.aF.length:Int))):Option Bool).bind fun j2 => bif j2 then some false else (bH (Rf a b) BIG 0).bind (Sum.elim (fun b14 =>(some true)) (fun r => some r))
def RY (a:ah) (b:ah) (s7:Int):Option (Int ⊕ (Unit ⊕ Bool)):=bif decide (s7 < (a.Places.length:Int)) then (idx a.Places s7).bind (fun x18 =>(idx b.Places s7).bind fun x19 => bif !(jT [x18.X,x18.Y] [x19.X,x19.Y]) then some (.inr (.inr false)) else some (.inl (aA (s7 + 1)))) else some (.inr (.inl ()))
def Me (a:ah) (b:ah):Option Bool:=(((RZ a.Graph b.Graph).bind fun r4 => bif !r4 then some true else some ((a.Places.length:Int) != (b.Places.length:Int))):Option Bool).bind fun j3 => bif j3 then some false else (bH (RY a b) BIG 0).bind (Sum.elim (fun b16 =>(some true)) (fun r => some r))
def RV (code:List Int):Option (bI × (List Int)):=(Nr code).bind fun r1 => some (r1.1,r1.2)
def RU (code:List Int):Option (bI × (List Int)):=(Nq code).bind fun r1 => some (r1.1,r1.2)
def RX (code:List Int):Option bI:=(F9 code).bind fun r1 =>(F8 r1).bind fun r2 => some r2.1
def JD (f:ah) (s1:Int):Option (Int ⊕ (Unit ⊕ Int)):=bif decide (s1 < (f.Places.length:Int)) then (idx f.Places s1).bind (fun x12 =>(idx f.Places 0).bind fun kZ => bif !(jT [x12.X,x12.Y] [kZ.X,kZ.Y]) then some (.inr (.inr 3)) else some (.inl (aA (s1 + 1)))) else some (.inr (.inl ()))
def SC (f:ah):Option Int:=(bH (JD f) BIG 1).bind (Sum.elim (fun b10 =>(some 2)) (fun r => some r))
def Rn (f:ah):Option Int:=(zQ f).bind fun r1 => bif !r1 then some (-1) else (JB f).bind fun r3 =>(OG r3).bind fun r4 => some (r4.2.length:Int)
def Rk (f:ah):Option Int:=(zQ f).bind fun r1 => bif !r1 then some (-1) else (SC f).bind fun r3 =>(Rn f).bind fun r4 => some (aA ((aA ((aA (2 * f.Graph.aI)) - r3)) - r4))
def Rt (f:ah):Option Bool:=(Rk f).bind fun r1 => some (r1 == 0)
def Ry (tV:bI) (w:List Int):Option Bool:=(((EO tV w).bind fun r5 => bif r5 then (Rt tV.aG).bind (fun r7 => some r7) else some false):Option Bool).bind fun j4 => some j4
def MX (iQ:bI × (List Int)) (EW:Bool) (kY:Int × (List Int)):Option ((Int × (List Int)) ⊕ (Bool × (List bD) × (List Int) × (List Int) × Int × (List eG) × (List Int))):=bif decide (kY.1 < (iQ.2.length:Int)) then (idx iQ.2 kY.1).bind (fun x55 =>(lim (kY.2.length + ([(aA (-x55))]:List Int).length)).bind fun u56 => some (.inl ((aA (kY.1 + 1)),(kY.2 ++ ([(aA (-x55))]:List Int))))) else some (.inr (EW,iQ.1.aG.Graph.aF,iQ.1.aN,iQ.2,iQ.1.aG.Graph.aI,iQ.1.aG.Places,kY.2))
def WA (code:List Int):Option Bool:=(WB code).bind fun r1 => bif r1 then some true else (RN code).bind fun r3 =>(LX r3).bind fun r4 =>(Ri r3).bind fun r5 =>(Qo r3).bind fun r6 =>(NC r3).bind fun r7 =>((bif r4.2 != r5.2 then some true else (Bz r4.1 r5.1).bind fun wV => bif !wV then some true else bif r6.2 != r7.2 then some true else (Bz r6.1 r7.1).bind fun qy => bif !qy then some true else bif r4.2 then (xH r3 r5.1).bind (fun pI => bif !pI then some true else bif r6.2 then (wQ r3 r7.1).bind (fun r32 => some (!r32)) else some false) else bif r6.2 then (wQ r3 r7.1).bind (fun CW => some (!CW)) else some false):Option Bool).bind fun j21 => bif j21 then some false else ((bif r4.2 then (Iu r3 r5.1).bind (fun CX => bif CX then some r6.2 else some false) else some false):Option Bool).bind fun j39 => bif j39 then some false else (RQ code).bind fun iQ =>(Fe iQ.1 iQ.2).bind fun EW =>(bH (MX iQ EW) BIG (0,([]:List Int))).bind fun ai =>(((NM (bI.mk (ah.mk (bW.mk ai.2.2.2.2.1 ai.2.1) ai.2.2.2.2.2.1) ai.2.2.1) ai.2.2.2.1).bind fun rC => bif ai.1 != rC then some true else (Iz (bI.mk (ah.mk (bW.mk ai.2.2.2.2.1 ai.2.1) ai.2.2.2.2.2.1) ai.2.2.1)).bind fun Az =>(Fe Az ai.2.2.2.2.2.2).bind fun Tc => bif Tc != ai.1 then some true else (xH (bI.mk (ah.mk (bW.mk ai.2.2.2.2.1 ai.2.1) ai.2.2.2.2.2.1) ai.2.2.1) ai.2.2.2.1).bind fun Td =>(EO (bI.mk (ah.mk (bW.mk ai.2.2.2.2.1 ai.2.1) ai.2.2.2.2.2.1) ai.2.2.1) ai.2.2.2.1).bind fun Tf => bif Td != Tf then some true else (xH (bI.mk (ah.mk (bW.mk ai.2.2.2.2.1 ai.2.1) ai.2.2.2.2.2.1) ai.2.2.1) ai.2.2.2.1).bind fun W9 => bif W9 then (bif !ai.1 then some true else (zN (bI.mk (ah.mk (bW.mk ai.2.2.2.2.1 ai.2.1) ai.2.2.2.2.2.1) ai.2.2.1)).bind fun XA =>(zS (bI.mk (ah.mk (bW.mk ai.2.2.2.2.1 ai.2.1) ai.2.2.2.2.2.1) ai.2.2.1)).bind fun XB => some (XA != XB)) else (zN (bI.mk (ah.mk (bW.mk ai.2.2.2.2.1 ai.2.1) ai.2.2.2.2.2.1) ai.2.2.1)).bind fun XC =>(zS (bI.mk (ah.mk (bW.mk ai.2.2.2.2.1 ai.2.1) ai.2.2.2.2.2.1) ai.2.2.1)).bind fun XD => some (XC != XD)):Option Bool).bind fun j72 => bif j72 then some false else (RP code).bind fun dH =>(((zS dH.1).bind fun Wi => bif Wi then (Fa dH.1 dH.2).bind (fun uJ => bif uJ then (zS (bI.mk (ah.mk (bW.mk ai.2.2.2.2.1 ai.2.1) ai.2.2.2.2.2.1) ai.2.2.1)).bind (fun TL => bif TL then (Me (ah.mk (bW.mk ai.2.2.2.2.1 ai.2.1) ai.2.2.2.2.2.1) dH.1.aG).bind (fun TM => bif TM then (Bz ai.2.2.1 dH.1.aN).bind (fun TN => bif TN then (Iu (bI.mk (ah.mk (bW.mk ai.2.2.2.2.1 ai.2.1) ai.2.2.2.2.2.1) ai.2.2.1) ai.2.2.2.1).bind (fun TP => bif TP then (zO dH.1.aG dH.2).bind (fun Wj => some (!Wj)) else some false) else some false) else some false) else some false) else some false) else some false):Option Bool).bind fun j103 => bif j103 then some false else (RV code).bind fun iE =>(RU code).bind fun jB =>(RX code).bind fun lM =>(Iz lM).bind fun Ar =>(Iz Ar).bind fun oq =>(((Fa dH.1 dH.2).bind fun Wl =>(I8 dH.1 dH.2).bind fun Wn => bif Wl == Wn then (Iu iE.1 iE.2).bind (fun TQ =>(Ry iE.1 iE.2).bind fun xO => bif TQ == xO then (wQ jB.1 jB.2).bind (fun TR =>(Fv jB.1 jB.2).bind fun TT => bif TR == TT then (Me oq.aG lM.aG).bind (fun TU => bif TU then (Bz oq.aN lM.aN).bind (fun TV => some TV) else some false) else some false) else some false) else some false):Option Bool).bind fun j135 => some j135
abbrev SM (n:Nat):Prop:=n ≤ 2147483648
theorem FU (x lo hi:Int):xI x lo hi = some (decide (lo ≤ x) && decide (x ≤ hi)):=by
 unfold xI
 cases decide (lo ≤ x) <;> simp
theorem Ed (x lo hi:Int):Ah x lo hi = some (decide (lo ≤ x) && decide (x ≤ hi)):=by
 unfold Ah
 cases decide (lo ≤ x) <;> simp
theorem aCb (a b:Int):MH a b = some (if a < b then -1 else if b < a then 1 else 0):=by
 unfold MH
 by_cases h1:a < b
 ·simp [h1]
 ·by_cases h2:b < a <;> simp [h1,h2]
def wE (x y:bD):Bool:=decide (y.A < x.A) || (x.A == y.A && decide (y.B < x.B))
theorem aCa (x y:bD):∃ c,MG x y = some c ∧ decide (0 < c) = wE x y:=by
 unfold MG wE
 rw [aCb,aCb]
 by_cases h1:x.A < y.A
 ·have h3:(x.A == y.A) = false:=by simp; omega
  exact ⟨-1,by simp [h1],by simp [h3]; omega⟩
 ·by_cases h2:y.A < x.A
  ·exact ⟨1,by simp [h1,h2],by simp [h2]⟩
  ·have:x.A = y.A:=by omega
   by_cases h3:x.B < y.B
   ·exact ⟨-1,by simp [this,h3],by simp [this]; omega⟩
   ·by_cases h4:y.B < x.B
    ·exact ⟨1,by simp [this,h3,h4],by simp [this,h4]⟩
    ·exact ⟨0,by simp [this,h3,h4],by simp [this]; omega⟩
theorem aDw (x y:bD):JK x y = some (!wE x y):=by
 unfold JK wE
 by_cases h1:x.A < y.A
 ·have h3:(x.A == y.A) = false:=by simp; omega
  simp [h1,h3]; omega
 ·by_cases h2:y.A < x.A
  ·have h3:(x.A == y.A) = false:=by simp; omega
   simp [h1,h2,h3]
  ·have:x.A = y.A:=by omega
   by_cases h4:y.B < x.B
   ·have h5:¬ x.B ≤ y.B:=by omega
    simp [this,h4,h5]
   ·have h5:x.B ≤ y.B:=by omega
    simp [this,h4,h5]
def KA (g:bW) (k:Nat):Bool:=match g.aF[k]? with
 | none => false
 | some x => decide (x.A < 0) || decide (x.B ≤ x.A) || decide (g.aI ≤ x.B) || (decide (0 < k) && match g.aF[k - 1]? with
  | none => false
  | some y => wE y x)
def vG (g:bW):Bool:=decide (1 ≤ g.aI) && decide (g.aI ≤ 8) && !decide (24 < (g.aF.length:Int)) && !(List.range' 0 g.aF.length).any (KA g)
theorem Zy (g:bW) (h:SM g.aF.length):Iq g = some (vG g):=by
 have e:bH (Fb g) BIG 0 = some (bif (List.range' 0 g.aF.length).any (KA g) then .inr false else .inl ()):=by
  refine qg (KA g) false g.aF.length (by omega) (fun k hk => ?_) (by simp [Fb])
  unfold Fb KA
  rw [decide_eq_true (by omega),cond_true,oP hk,Option.bind_some,List.getElem?_eq_getElem hk]
  simp only
  cases decide (g.aF[k].A < 0)
  ·cases decide (g.aF[k].B ≤ g.aF[k].A)
   ·cases decide (g.aI ≤ g.aF[k].B)
    ·by_cases h0:0 < k
     ·have e1:aA ((k:Int) - 1) = ((k - 1:Nat):Int):=by rw [dU (by omega) (by omega)]; omega
      obtain ⟨c,hc,hd⟩:=aCa (g.aF[k - 1]'(by omega)) g.aF[k]
      rw [decide_eq_true (show (0:Int) < (k:Int) by omega),decide_eq_true h0,e1,oP (show k - 1 < g.aF.length by omega),List.getElem?_eq_getElem (show k - 1 < g.aF.length by omega)]
      simp only [cond_false,cond_true,Option.bind_some,hc,hd,Bool.false_or,Bool.true_and]
     ·rw [decide_eq_false (show ¬ (0:Int) < (k:Int) by omega),decide_eq_false h0]
      rfl
    ·rfl
   ·rfl
  ·rfl
 unfold Iq vG
 rw [Ed,e]
 simp only [Option.bind_some]
 cases decide (1 ≤ g.aI) && decide (g.aI ≤ 8)
 ·rfl
 ·cases decide (24 < (g.aF.length:Int))
  ·cases (List.range' 0 g.aF.length).any (KA g) <;> rfl
  ·rfl
theorem aMg (g:bW):Rq g = Fb g:=by
 funext s
 unfold Rq Fb
 have e:∀ x y,((JK x y).bind fun r => some (!r)) = (MG x y).bind fun r => some (decide (0 < r)):=fun x y => by
  obtain ⟨c,hc,hd⟩:=aCa x y
  rw [aDw,hc]
  simp [hd]
 simp only [e]
theorem Vo (g:bW) (h:SM g.aF.length):I9 g = some (vG g):=by
 rw [← Zy g h]
 unfold I9 Iq
 rw [FU,Ed,aMg]
structure VG (g:bW):Prop where
 p1:1 ≤ g.aI
 p8:g.aI ≤ 8
 len:g.aF.length ≤ 24
 a0:∀ {k:Nat} {x:bD},g.aF[k]? = some x → 0 ≤ x.A
 ab:∀ {k:Nat} {x:bD},g.aF[k]? = some x → x.A < x.B
 bp:∀ {k:Nat} {x:bD},g.aF[k]? = some x → x.B < g.aI
 srt:∀ {k:Nat} {x y:bD},g.aF[k]? = some x → g.aF[k + 1]? = some y → wE x y = false
theorem UA {g:bW} (h:vG g = true):VG g:=by
 unfold vG at h
 simp only [Bool.and_eq_true,Bool.not_eq_true',decide_eq_true_eq,decide_eq_false_iff_not] at h
 obtain ⟨⟨⟨h1,h2⟩,h3⟩,h4⟩:=h
 rw [qh] at h4
 have hb:∀ {k:Nat} {x:bD},g.aF[k]? = some x → 0 ≤ x.A ∧ x.A < x.B ∧ x.B < g.aI ∧ ∀ {y:bD},0 < k → g.aF[k - 1]? = some y → wE y x = false:=fun {k x} hx => by
  have hk:k < g.aF.length:=(List.getElem?_eq_some_iff.1 hx).1
  have:=h4 k (by omega) (by omega)
  unfold KA at this
  rw [hx] at this
  simp only [Bool.or_eq_false_iff,decide_eq_false_iff_not,Bool.and_eq_false_iff] at this
  obtain ⟨⟨⟨a,b⟩,c⟩,d⟩:=this
  refine ⟨by omega,by omega,by omega,fun {y} hk hy => ?_⟩
  rw [hy] at d
  rcases d with d | d
  ·exact absurd hk d
  ·exact d
 exact ⟨h1,h2,by omega,fun hx => (hb hx).1,fun hx => (hb hx).2.1,fun hx => (hb hx).2.2.1,fun {k x y} hx hy => (hb hy).2.2.2 (by omega) (by simpa using hx)⟩
theorem VG.sm {g:bW} (h:VG g):SM g.aF.length:=by have:=h.len; omega
def o9 (l:List Int) (x:Int):Bool:=l.any (· == x)
def mr {α:Type} (l:List α) (p:α → Bool) (k:Nat):Bool:=match l[k]? with
 | some x => p x
 | none => false
theorem Et {α:Type} {l:List α} {k:Nat} (h:k < l.length) (p:α → Bool):mr l p k = p l[k]:=by simp [mr,h]
theorem range_any {α:Type} (l:List α) (p:α → Bool):(List.range' 0 l.length).any (mr l p) = l.any p:=by
 induction l with
 | nil => rfl
 | cons x r ih =>
  rw [List.length_cons,List.range'_succ,List.any_cons,List.any_cons]
  congr 1
  rw [← ih,List.range'_eq_map_range,List.range'_eq_map_range,List.any_map,List.any_map]
  congr 1
  funext k
  simp [Function.comp,Nat.add_comm,mr]
theorem aDy (l:List Int) (h:SM l.length) (x:Int):Ny l x = some (o9 l x):=by
 have e:=qg (b:=Nz l x) (mr l (· == x)) true l.length (by omega) (fun k hk => by
  unfold Nz
  rw [decide_eq_true (by omega),cond_true,oP hk,Option.bind_some,Et hk]) (by simp [Nz])
 unfold Ny o9
 rw [e,range_any]
 cases l.any (· == x) <;> rfl
theorem aMX (l:List Int) (h:SM l.length) (v:Int):∃ i,RG l v = some i ∧ decide (0 ≤ i) = o9 l v ∧ (i = -1 ∨ ∃ k:Nat,i = k ∧ l[k]? = some v ∧ ∀ j,j < k → l[j]? ≠ some v):=by
 obtain ⟨r,hr,hq⟩:=uH (b:=MZ l v) (s:=0) (fun k s => s = (k:Int) ∧ ∀ j,j < k → l[j]? ≠ some v)
  (fun r => match r with | .inl _ => ∀ j,j < l.length → l[j]? ≠ some v | .inr i => ∃ k:Nat,i = k ∧ l[k]? = some v ∧ ∀ j,j < k → l[j]? ≠ some v) l.length (by omega) ⟨rfl,fun j hj => by omega⟩ (fun k s hk hs => by
  obtain ⟨rfl,hs⟩:=hs
  unfold MZ
  rw [decide_eq_true (by omega),cond_true,oP hk,Option.bind_some]
  cases hv:v == l[k] with
  | true => exact .inr ⟨_,rfl,k,rfl,by rw [List.getElem?_eq_getElem hk,eq_of_beq hv],hs⟩
  | false =>
   refine .inl ⟨_,rfl,fK (by omega),fun j hj => ?_⟩
   by_cases hjk:j = k
   ·subst hjk
    rw [List.getElem?_eq_getElem hk]
    intro h2
    injection h2 with h2
    rw [h2] at hv
    simp at hv
   ·exact hs j (by omega)) (fun s hs => by
  obtain ⟨rfl,hs⟩:=hs
  exact ⟨.inl (),by simp [MZ],hs⟩)
 unfold RG
 rw [hr]
 rcases r with ⟨⟨⟩⟩ | i
 ·refine ⟨-1,rfl,?_,.inl rfl⟩
  unfold o9
  have:l.any (· == v) = false:=by
   rw [← Bool.not_eq_true,List.any_eq_true]
   rintro ⟨x,hx,h2⟩
   obtain ⟨j,hj,rfl⟩:=List.mem_iff_getElem.1 hx
   exact hq j hj (by rw [List.getElem?_eq_getElem hj,eq_of_beq h2])
  rw [this]
  rfl
 ·obtain ⟨k,rfl,h1,h2⟩:=hq
  refine ⟨k,rfl,?_,.inr ⟨k,rfl,h1,h2⟩⟩
  rw [decide_eq_true (by omega)]
  unfold o9
  symm
  rw [List.any_eq_true]
  exact ⟨v,List.mem_of_getElem? h1,by simp⟩
theorem contains_eq (l:List Int) (h:SM l.length) (x:Int):RF l x = some (o9 l x):=by
 obtain ⟨i,h1,h2,_⟩:=aMX l h x
 unfold RF
 rw [h1,Option.bind_some,h2]
theorem Ku {α:Type} {l:List α} {i:Int} (d:α) (h0:0 ≤ i) (h1:i < (l.length:Int)):idx l i = some ((l[i.toNat]?).getD d):=by
 unfold idx
 rw [if_pos h0,List.getElem?_eq_getElem (by omega)]
 rfl
def bY (f:ah) (v:Int):eG:=(f.Places[v.toNat]?).getD ⟨0,0⟩
def zU (p:eG):Bool:=(decide (0 ≤ p.X) && decide (p.X ≤ 4)) && (decide (0 ≤ p.Y) && decide (p.Y ≤ 4))
theorem aMh (p:eG):Q9 p = some (zU p):=by
 unfold Q9 zU
 rw [Ed,Ed]
 simp only [Option.bind_some]
 cases decide (0 ≤ p.X) && decide (p.X ≤ 4) <;> rfl
def Dj (f:ah) (k:Nat):Bool:=match f.Graph.aF[k]? with
 | none => false
 | some x => jT [(bY f x.A).X,(bY f x.A).Y] [(bY f x.B).X,(bY f x.B).Y] || (decide (0 < k) && match f.Graph.aF[k - 1]? with
  | none => false
  | some y => jT [y.A,y.B] [x.A,x.B])
def vF (f:ah):Bool:=vG f.Graph && !decide (6 < f.Graph.aI) && !((f.Places.length:Int) != f.Graph.aI) && !decide (15 < (f.Graph.aF.length:Int)) && !(List.range' 0 f.Places.length).any (mr f.Places fun p => !zU p) && !(List.range' 0 f.Graph.aF.length).any (Dj f)
theorem aMc (f:ah) (h:SM f.Places.length):bH (Ld f) BIG 0 = some (bif (List.range' 0 f.Places.length).any (mr f.Places fun p => !zU p) then .inr false else .inl ()):=by
 refine qg _ false f.Places.length (by omega) (fun k hk => ?_) (by simp [Ld])
 unfold Ld
 rw [decide_eq_true (by omega),cond_true,oP hk,Option.bind_some,Et hk,aMh,Option.bind_some]
theorem aMe (f:ah) (h:SM f.Places.length):bH (NJ f) BIG 0 = some (bif (List.range' 0 f.Places.length).any (mr f.Places fun p => !zU p) then .inr false else .inl ()):=by
 refine qg _ false f.Places.length (by omega) (fun k hk => ?_) (by simp [NJ])
 unfold NJ zU
 rw [decide_eq_true (by omega),cond_true,oP hk,Et hk]
 simp only [FU,Option.bind_some]
 cases decide (0 ≤ f.Places[k].X) && decide (f.Places[k].X ≤ 4) <;> rfl
theorem aMd (f:ah) (hv:VG f.Graph) (hp:(f.Places.length:Int) = f.Graph.aI):bH (Le f) BIG 0 = some (bif (List.range' 0 f.Graph.aF.length).any (Dj f) then .inr false else .inl ()):=by
 refine qg _ false f.Graph.aF.length (by have:=hv.len; omega) (fun k hk => ?_) (by simp [Le])
 have hx:=List.getElem?_eq_getElem hk
 have a0:=hv.a0 hx
 have ab:=hv.ab hx
 have bp:=hv.bp hx
 unfold Le Dj
 rw [decide_eq_true (by omega),cond_true,oP hk,Option.bind_some,hx]
 simp only [Ku (⟨0,0⟩:eG) a0 (show f.Graph.aF[k].A < (f.Places.length:Int) by omega),Ku (⟨0,0⟩:eG) (show 0 ≤ f.Graph.aF[k].B by omega) (show f.Graph.aF[k].B < (f.Places.length:Int) by omega),Option.bind_some]
 by_cases h0:0 < k
 ·have hl:=hv.len
  have e1:aA ((k:Int) - 1) = ((k - 1:Nat):Int):=by rw [dU (by omega) (by omega)]; omega
  rw [decide_eq_true (show (0:Int) < (k:Int) by omega),decide_eq_true h0,cond_true,e1,oP (show k - 1 < f.Graph.aF.length by omega),Option.bind_some,List.getElem?_eq_getElem (show k - 1 < f.Graph.aF.length by omega)]
  simp only [Bool.true_and,bY]
  cases jT [f.Graph.aF[k - 1].A,f.Graph.aF[k - 1].B] [f.Graph.aF[k].A,f.Graph.aF[k].B] <;> simp
 ·rw [decide_eq_false (show ¬ (0:Int) < (k:Int) by omega),decide_eq_false h0]
  simp [bY]
theorem aMf (f:ah) (hv:VG f.Graph) (hp:(f.Places.length:Int) = f.Graph.aI):bH (NK f) BIG 0 = some (bif (List.range' 0 f.Graph.aF.length).any (Dj f) then .inr false else .inl ()):=by
 refine qg _ false f.Graph.aF.length (by have:=hv.len; omega) (fun k hk => ?_) (by simp [NK])
 have hx:=List.getElem?_eq_getElem hk
 have a0:=hv.a0 hx
 have ab:=hv.ab hx
 have bp:=hv.bp hx
 unfold NK Dj
 rw [decide_eq_true (by omega),cond_true,oP hk,Option.bind_some,hx]
 simp only [Ku (⟨0,0⟩:eG) a0 (show f.Graph.aF[k].A < (f.Places.length:Int) by omega),Ku (⟨0,0⟩:eG) (show 0 ≤ f.Graph.aF[k].B by omega) (show f.Graph.aF[k].B < (f.Places.length:Int) by omega),Option.bind_some]
 by_cases h0:0 < k
 ·have hl:=hv.len
  have e1:aA ((k:Int) - 1) = ((k - 1:Nat):Int):=by rw [dU (by omega) (by omega)]; omega
  rw [decide_eq_true (show (0:Int) < (k:Int) by omega),decide_eq_true h0,cond_true,e1,oP (show k - 1 < f.Graph.aF.length by omega),Option.bind_some,List.getElem?_eq_getElem (show k - 1 < f.Graph.aF.length by omega)]
  simp only [Bool.true_and,bY]
  generalize jT [((f.Places[f.Graph.aF[k].A.toNat]?).getD ⟨0,0⟩).X,_] _ = c
  cases c <;> simp
 ·rw [decide_eq_false (show ¬ (0:Int) < (k:Int) by omega),decide_eq_false h0]
  simp only [cond_false,Bool.false_and,Bool.or_false,bY]
  generalize jT [((f.Places[f.Graph.aF[k].A.toNat]?).getD ⟨0,0⟩).X,_] _ = c
  cases c <;> simp
theorem PK {a b:Int}:(a != b) = false ↔ a = b:=by simp
theorem FP (f:ah) (h:SM f.Graph.aF.length) (h2:SM f.Places.length):zM f = some (vF f):=by
 unfold zM vF
 rw [Zy _ h,aMc f h2]
 cases hg:vG f.Graph
 ·rfl
 ·cases decide (6 < f.Graph.aI)
  ·cases decide (15 < (f.Graph.aF.length:Int))
   ·cases hp:((f.Places.length:Int) != f.Graph.aI)
    ·rw [aMd f (UA hg) (PK.1 hp)]
     cases (List.range' 0 f.Places.length).any (mr f.Places fun p => !zU p)
     ·cases (List.range' 0 f.Graph.aF.length).any (Dj f) <;> rfl
     ·rfl
    ·rfl
   ·cases ((f.Places.length:Int) != f.Graph.aI) <;> rfl
  ·rfl
theorem EI (f:ah) (h:SM f.Graph.aF.length) (h2:SM f.Places.length):zQ f = some (vF f):=by
 unfold zQ vF
 rw [Vo _ h,aMe f h2]
 cases hg:vG f.Graph
 ·rfl
 ·cases decide (6 < f.Graph.aI)
  ·cases hp:((f.Places.length:Int) != f.Graph.aI)
   ·cases decide (15 < (f.Graph.aF.length:Int))
    ·rw [aMf f (UA hg) (PK.1 hp)]
     cases (List.range' 0 f.Places.length).any (mr f.Places fun p => !zU p)
     ·cases (List.range' 0 f.Graph.aF.length).any (Dj f) <;> rfl
     ·rfl
    ·rfl
   ·rfl
  ·rfl
structure VF (f:ah):Prop where
 g:VG f.Graph
 p6:f.Graph.aI ≤ 6
 len:f.Graph.aF.length ≤ 15
 qG:(f.Places.length:Int) = f.Graph.aI
 grid:∀ {k:Nat} {p:eG},f.Places[k]? = some p → 0 ≤ p.X ∧ p.X ≤ 4 ∧ 0 ≤ p.Y ∧ p.Y ≤ 4
 dif:∀ {k:Nat} {x:bD},f.Graph.aF[k]? = some x → jT [(bY f x.A).X,(bY f x.A).Y] [(bY f x.B).X,(bY f x.B).Y] = false
 nod:∀ {k:Nat} {x y:bD},f.Graph.aF[k]? = some x → f.Graph.aF[k + 1]? = some y → jT [x.A,x.B] [y.A,y.B] = false
theorem o5 {f:ah} (h:vF f = true):VF f:=by
 unfold vF at h
 simp only [Bool.and_eq_true,Bool.not_eq_true',decide_eq_false_iff_not] at h
 obtain ⟨⟨⟨⟨⟨h1,h2⟩,h3⟩,h4⟩,h5⟩,h6⟩:=h
 rw [qh] at h5 h6
 refine ⟨UA h1,by omega,by omega,PK.1 h3,fun {k p} hk => ?_,fun {k x} hk => ?_,fun {k x y} hx hy => ?_⟩
 ·have hl:=(List.getElem?_eq_some_iff.1 hk).1
  have:=h5 k (by omega) (by omega)
  unfold mr at this
  rw [hk] at this
  simp only [Bool.not_eq_false',zU,Bool.and_eq_true,decide_eq_true_eq] at this
  exact ⟨this.1.1,this.1.2,this.2.1,this.2.2⟩
 ·have hl:=(List.getElem?_eq_some_iff.1 hk).1
  have:=h6 k (by omega) (by omega)
  unfold Dj at this
  rw [hk] at this
  simp only [Bool.or_eq_false_iff] at this
  exact this.1
 ·have hl:=(List.getElem?_eq_some_iff.1 hy).1
  have:=h6 (k + 1) (by omega) (by omega)
  unfold Dj at this
  rw [hy] at this
  simp only [Bool.or_eq_false_iff,Nat.add_sub_cancel,hx] at this
  simpa using this.2
theorem VF.vX {f:ah} (h:VF f) {v:Int} (h0:0 ≤ v) (h1:v < f.Graph.aI):idx f.Places v = some (bY f v):=Ku _ h0 (by have:=h.qG; omega)
theorem VF.CS {f:ah} (h:VF f) {v:Int} (h0:0 ≤ v) (h1:v < f.Graph.aI):0 ≤ (bY f v).X ∧ (bY f v).X ≤ 4 ∧ 0 ≤ (bY f v).Y ∧ (bY f v).Y ≤ 4:=by
 have hp:=h.qG
 have hl:v.toNat < f.Places.length:=by omega
 have e:f.Places[v.toNat]? = some (bY f v):=by unfold bY; rw [List.getElem?_eq_getElem hl]; rfl
 exact h.grid e
theorem aFi (t:bI) (h:SM t.aN.length):bH (Fg t) BIG 0 = some (bif (List.range' 0 t.aN.length).any (mr t.aN fun x => !(decide (0 ≤ x) && decide (x ≤ 2))) then .inr false else .inl ()):=by
 refine qg _ false t.aN.length (by omega) (fun k hk => ?_) (by simp [Fg])
 unfold Fg
 rw [decide_eq_true (by omega),cond_true,oP hk,Option.bind_some,Et hk,Ed,Option.bind_some]
def vT (t:bI):Bool:=!(List.range' 0 t.aN.length).any (mr t.aN fun x => !(decide (0 ≤ x) && decide (x ≤ 2))) && (vF t.aG && ((t.aN.length:Int) == (t.aG.Graph.aF.length:Int)))
theorem Qc (t:bI) (h0:SM t.aG.Graph.aF.length) (h1:SM t.aG.Places.length) (h2:SM t.aN.length):zN t = some (vT t):=by
 unfold zN vT
 simp only [aFi t h2,FP _ h0 h1,Option.bind_some]
 cases (List.range' 0 t.aN.length).any (mr t.aN fun x => !(decide (0 ≤ x) && decide (x ≤ 2)))
 ·cases vF t.aG <;> rfl
 ·rfl
theorem Kz (t:bI) (h0:SM t.aG.Graph.aF.length) (h1:SM t.aG.Places.length) (h2:SM t.aN.length):zS t = some (vT t):=by
 have e:Rw t = Fg t:=by
  funext s
  unfold Rw Fg
  simp only [FU,Ed]
 unfold zS vT
 simp only [e,aFi t h2,EI _ h0 h1,Option.bind_some]
 cases (List.range' 0 t.aN.length).any (mr t.aN fun x => !(decide (0 ≤ x) && decide (x ≤ 2)))
 ·cases vF t.aG <;> rfl
 ·rfl
def aNA (set:List Int) (k:Nat) (a:List Int × Nat):List Int × Nat:=bif o9 set k then (a.1 ++ [-1],a.2) else (a.1 ++ [(a.2:Int)],a.2 + 1)
def names (set:List Int) (n:Nat):List Int × Nat:=iter (aNA set) n ([],0)
def nm (l:List Int) (v:Int):Int:=(l[v.toNat]?).getD 0
theorem has_eq {g:bW} (h:VG g) (v:Int):La g v = some (decide (0 ≤ v) && decide (v < g.aI)):=by
 have h1:=h.p1
 have h8:=h.p8
 unfold La
 rw [Ed,dU (by omega) (by omega),Option.bind_some]
 congr 2
 rw [decide_eq_decide]
 omega
theorem aCg (g:bW) (h:SM g.aF.length):MI g = some g:=by
 unfold MI
 rw [kV (by simp; omega)]
 rfl
theorem aDx (g:bW) (h:SM g.aF.length):Nw g = some g:=by
 unfold Nw
 rw [kV (by simp; omega)]
 rfl
theorem aBm {γ δ:Type} {b:Int → Option (Int ⊕ (δ ⊕ γ))} (bad:Nat → Bool) (c:γ) (d:δ) (k0 n:Nat) (hn:n ≤ 1099511627776) (h0:k0 ≤ n) (h:∀ k:Nat,k0 ≤ k → k < n → b k = bif bad k then some (.inr (.inr c)) else some (.inl (aA ((k:Int) + 1)))) (hr:b n = some (.inr (.inl d))) :
  bH b BIG k0 = some (bif (List.range' k0 (n - k0)).any bad then .inr c else .inl d):=by
 have go:∀ (j k f:Nat),k + j = n → k0 ≤ k → j < f → bH b f (k:Int) = some (bif (List.range' k j).any bad then .inr c else .inl d):=by
  intro j
  induction j with
  | zero =>
   intro k f hk _ hf
   obtain ⟨f,rfl⟩:∃ g,f = g + 1:=⟨f - 1,by omega⟩
   have:k = n:=by omega
   subst this
   unfold bH
   rw [hr]
   rfl
  | succ j ih =>
   intro k f hk hk0 hf
   obtain ⟨f,rfl⟩:∃ g,f = g + 1:=⟨f - 1,by omega⟩
   have h1:=h k hk0 (by omega)
   unfold bH
   cases hb:bad k with
   | true =>
    rw [hb,cond_true] at h1
    rw [h1,List.range'_succ,List.any_cons,hb]
    rfl
   | false =>
    rw [hb,cond_false,fK (by omega)] at h1
    rw [h1,List.range'_succ,List.any_cons,hb,Bool.false_or]
    exact ih (k + 1) f (by omega) (by omega) (by omega)
 exact go (n - k0) k0 BIG (by omega) (Nat.le_refl _) (by have:=Jw hn; omega)
def vN (x:Int):Int:=bif x == 1 then 2 else bif x == 2 then 1 else x
theorem aEI {σ τ:Type} {b:σ → Option (σ ⊕ τ)} {s:σ} (mk:Nat → List Int → σ) (fin:List Int → τ) (f:Int → Int) (l:List Int) (hl:SM l.length) (hs:s = mk 0 l)
  (h:∀ (k:Nat) (a:List Int) x,k < l.length → a.length = l.length → l[k]? = some x → a[k]? = some x → b (mk k a) = some (.inl (mk (k + 1) (a.set k (f x))))) (hr:∀ a:List Int,a.length = l.length → b (mk l.length a) = some (.inr (fin a))):bH b BIG s = some (fin (l.map f)):=by
 subst hs
 refine kM (fun k => mk k ((l.take k).map f ++ l.drop k)) l.length (by omega) (by simp) (fun k hk => ?_) (by rw [hr _ (by simp)]; simp)
 have hlen:((l.take k).map f).length = k:=by simp; omega
 have hd:l.drop k = l[k] :: l.drop (k + 1):=List.drop_eq_getElem_cons hk
 rw [h k _ l[k] hk (by simp; omega) (List.getElem?_eq_getElem hk) (by rw [List.getElem?_append_right (by omega),hlen,Nat.sub_self,hd]; rfl)]
 congr 3
 rw [List.set_append_right _ _ (by omega),hlen,Nat.sub_self,hd,List.set_cons_zero]
 have ht:l.take (k + 1) = l.take k ++ [l[k]]:=by rw [List.take_add_one,List.getElem?_eq_getElem hk]; rfl
 rw [ht,List.map_append,List.append_assoc]
 rfl
theorem aNs {α:Type} {l:List α} {k:Nat} {x:α} (h:l[k]? = some x):l.set k x = l:=by
 apply List.ext_getElem?
 intro i
 rw [List.getElem?_set]
 by_cases hi:k = i
 ·subst hi
  have:=(List.getElem?_eq_some_iff.1 h).1
  rw [if_pos rfl,if_pos this,h]
 ·rw [if_neg hi]
theorem aIC (f:ah) (h0:SM f.Graph.aF.length) (h1:SM f.Places.length):Q7 f = some f:=by
 unfold Q7
 rw [aCg _ h0,Option.bind_some,kV (by simp; omega)]
 rfl
theorem Uo (l:List Int) (h:SM l.length):Bq l = some l:=by
 unfold Bq
 rw [kV (by simp; omega)]
 rfl
def y9 (x:Int):Bool:=decide (-10000000000 ≤ x) && decide (x ≤ 10000000000)
def Ce (v:List Int):Bool:=!(List.range' 0 v.length).any (mr v fun x => !y9 x)
theorem aBo (v:List Int) (h:SM v.length) (n:Int):MC v n = some (Ce v && ((v.length:Int) == n)):=by
 unfold MC Ce
 rw [qg (b:=MF v) (mr v fun x => !y9 x) false v.length (by omega) (fun k hk => by
  unfold MF
  rw [decide_eq_true (by omega),cond_true,oP hk,Option.bind_some,Et hk,Ed,Option.bind_some]
  rfl) (by simp [MF])]
 cases (List.range' 0 v.length).any (mr v fun x => !y9 x) <;> rfl
def nM (f:ah) (v:List Int) (n:Int):Bool:=vF f && (Ce v && ((v.length:Int) == n))
theorem aFQ {v:List Int} (h:Ce v = true) {k:Nat} {x:Int} (hk:v[k]? = some x):-10000000000 ≤ x ∧ x ≤ 10000000000:=by
 unfold Ce at h
 rw [Bool.not_eq_true',qh] at h
 have hl:=(List.getElem?_eq_some_iff.1 hk).1
 have:=h k (by omega) (by omega)
 unfold mr at this
 rw [hk] at this
 simp only [Bool.not_eq_false',y9,Bool.and_eq_true,decide_eq_true_eq] at this
 exact this
theorem Vp (f:ah) (v:List Int) (h0:SM f.Graph.aF.length) (h1:SM f.Places.length) (hv:SM v.length):I5 f v = some (nM f v (2 * f.Graph.aI)):=by
 unfold I5 nM
 rw [FP f h0 h1,aBo v hv,Option.bind_some]
 cases hf:vF f
 ·rfl
 ·have:=(o5 hf).g.p8
  have:=(o5 hf).g.p1
  rw [dU (by omega) (by omega)]
  rfl
theorem aNz (v:List Int) (h:SM v.length):bH (JE v) BIG 0 = some (bif (List.range' 0 v.length).any (mr v fun x => !y9 x) then .inr false else .inl ()) :=
 qg (b:=JE v) (mr v fun x => !y9 x) false v.length (by omega) (fun k hk => by
  unfold JE
  rw [decide_eq_true (by omega),cond_true,oP hk,Option.bind_some,Et hk,FU,Option.bind_some]
  rfl) (by simp [JE])
theorem aNy (v:List Int) (h:SM v.length):bH (JG v) BIG 0 = some (bif (List.range' 0 v.length).any (mr v fun x => !y9 x) then .inr false else .inl ()) :=
 qg (b:=JG v) (mr v fun x => !y9 x) false v.length (by omega) (fun k hk => by
  unfold JG
  rw [decide_eq_true (by omega),cond_true,oP hk,Option.bind_some,Et hk,FU,Option.bind_some]
  rfl) (by simp [JG])
theorem LH (f:ah) (v:List Int) (h0:SM f.Graph.aF.length) (h1:SM f.Places.length) (hv:SM v.length):F6 f v = some (nM f v (2 * f.Graph.aI)):=by
 unfold F6 nM Ce
 rw [aNz v hv,EI f h0 h1]
 cases (List.range' 0 v.length).any (mr v fun x => !y9 x)
 ·cases hf:vF f
  ·rfl
  ·have:=(o5 hf).g.p8
   have:=(o5 hf).g.p1
   rw [dU (by omega) (by omega)]
   rfl
 ·cases vF f <;> rfl
theorem Qh (f:ah) (v:List Int) (h0:SM f.Graph.aF.length) (h1:SM f.Places.length) (hv:SM v.length):JF f v = some (nM f v f.Graph.aF.length):=by
 unfold JF nM Ce
 rw [aNy v hv,EI f h0 h1]
 cases (List.range' 0 v.length).any (mr v fun x => !y9 x)
 ·cases vF f <;> rfl
 ·cases vF f <;> rfl
theorem aBn (f:ah) (v:List Int) (h0:SM f.Graph.aF.length) (h1:SM f.Places.length) (hv:SM v.length):MB f v = some (nM f v f.Graph.aF.length):=by
 unfold MB nM
 rw [FP f h0 h1,aBo v hv,Option.bind_some]
 cases vF f <;> rfl
structure VV (f:ah) (v:List Int):Prop where
 fr:VF f
 len:(v.length:Int) = 2 * f.Graph.aI
 sm:∀ {k:Nat} {x:Int},v[k]? = some x → -10000000000 ≤ x ∧ x ≤ 10000000000
theorem Jl {f:ah} {v:List Int} (h:nM f v (2 * f.Graph.aI) = true):VV f v:=by
 unfold nM at h
 simp only [Bool.and_eq_true,beq_iff_eq] at h
 exact ⟨o5 h.1,h.2.2,fun hk => aFQ h.2.1 hk⟩
def gv (v:List Int) (i:Int):Int:=(v[i.toNat]?).getD 0
theorem VV.zJ {f:ah} {v:List Int} (h:VV f v) {i:Int} (h0:0 ≤ i) (h1:i < 2 * f.Graph.aI):idx v i = some (gv v i):=Ku _ h0 (by have:=h.len; omega)
theorem VV.lt {f:ah} {v:List Int} (h:VV f v) {i:Int} (h0:0 ≤ i) (h1:i < 2 * f.Graph.aI):-10000000000 ≤ gv v i ∧ gv v i ≤ 10000000000:=by
 have hl:=h.len
 have hn:i.toNat < v.length:=by omega
 refine h.sm (k:=i.toNat) ?_
 unfold gv
 rw [List.getElem?_eq_getElem hn]
 rfl
theorem yX {a b m:Int} (ha:-4 ≤ a ∧ a ≤ 4) (hb:-m ≤ b ∧ b ≤ m):-(4 * m) ≤ a * b ∧ a * b ≤ 4 * m:=by
 have:a = -4 ∨ a = -3 ∨ a = -2 ∨ a = -1 ∨ a = 0 ∨ a = 1 ∨ a = 2 ∨ a = 3 ∨ a = 4:=by omega
 rcases this with h | h | h | h | h | h | h | h | h <;> subst h <;> omega
def uf (f:ah) (v:List Int) (a b:Int):Int:=((bY f a).X - (bY f b).X) * (gv v (2 * a) - gv v (2 * b)) + ((bY f a).Y - (bY f b).Y) * (gv v (2 * a + 1) - gv v (2 * b + 1))
theorem aCZ {f:ah} {v:List Int} (h:VV f v) {a b:Int} (a0:0 ≤ a) (a1:a < f.Graph.aI) (b0:0 ≤ b) (b1:b < f.Graph.aI) :
  aA (aA (aA ((bY f a).X - (bY f b).X) * aA (gv v (2 * a) - gv v (2 * b))) + aA (aA ((bY f a).Y - (bY f b).Y) * aA (gv v (2 * a + 1) - gv v (2 * b + 1)))) = uf f v a b:=by
 have ga:=h.fr.CS a0 a1
 have gb:=h.fr.CS b0 b1
 have v1:=h.lt (i:=2 * a) (by omega) (by omega)
 have v2:=h.lt (i:=2 * b) (by omega) (by omega)
 have v3:=h.lt (i:=2 * a + 1) (by omega) (by omega)
 have v4:=h.lt (i:=2 * b + 1) (by omega) (by omega)
 have m1:=yX (a:=(bY f a).X - (bY f b).X) (b:=gv v (2 * a) - gv v (2 * b)) (m:=20000000000) (by omega) (by omega)
 have m2:=yX (a:=(bY f a).Y - (bY f b).Y) (b:=gv v (2 * a + 1) - gv v (2 * b + 1)) (m:=20000000000) (by omega) (by omega)
 unfold uf
 rw [dU (n:=(bY f a).X - (bY f b).X) (by omega) (by omega),dU (n:=(bY f a).Y - (bY f b).Y) (by omega) (by omega),dU (n:=gv v (2 * a) - gv v (2 * b)) (by omega) (by omega),dU (n:=gv v (2 * a + 1) - gv v (2 * b + 1)) (by omega) (by omega),
  dU (n:=((bY f a).X - (bY f b).X) * (gv v (2 * a) - gv v (2 * b))) (by omega) (by omega),dU (n:=((bY f a).Y - (bY f b).Y) * (gv v (2 * a + 1) - gv v (2 * b + 1))) (by omega) (by omega),dU (by omega) (by omega)]
theorem aH9 {f:ah} {v:List Int} (h:nM f v (2 * f.Graph.aI) = true) (h0:SM f.Graph.aF.length) (h1:SM f.Places.length) (hv:SM v.length) {a b:Int} (a0:0 ≤ a) (a1:a < f.Graph.aI) (b0:0 ≤ b) (b1:b < f.Graph.aI):Ql f v a b = some (uf f v a b):=by
 have hV:=Jl h
 have p8:=hV.fr.g.p8
 unfold Ql
 rw [Vp f v h0 h1 hv,h,has_eq hV.fr.g,has_eq hV.fr.g,decide_eq_true a0,decide_eq_true a1,decide_eq_true b0,decide_eq_true b1]
 simp only [Option.bind_some,Bool.not_true,cond_false,Bool.and_true,dU (n:=2 * a) (by omega) (by omega),dU (n:=2 * b) (by omega) (by omega),dU (n:=2 * a + 1) (by omega) (by omega),dU (n:=2 * b + 1) (by omega) (by omega),
  hV.fr.vX a0 a1,hV.fr.vX b0 b1,hV.zJ (i:=2 * a) (by omega) (by omega),hV.zJ (i:=2 * b) (by omega) (by omega),hV.zJ (i:=2 * a + 1) (by omega) (by omega),hV.zJ (i:=2 * b + 1) (by omega) (by omega),aCZ hV a0 a1 b0 b1]
theorem aCY {f:ah} {v:List Int} (h:nM f v (2 * f.Graph.aI) = true) (h0:SM f.Graph.aF.length) (h1:SM f.Places.length) (hv:SM v.length) {a b:Int} (a0:0 ≤ a) (a1:a < f.Graph.aI) (b0:0 ≤ b) (b1:b < f.Graph.aI):Mc f v a b = some (uf f v a b):=by
 have hV:=Jl h
 have p8:=hV.fr.g.p8
 unfold Mc
 rw [LH f v h0 h1 hv,h,decide_eq_false (show ¬ a < 0 by omega),decide_eq_false (show ¬ b < 0 by omega),decide_eq_false (show ¬ f.Graph.aI ≤ a by omega),decide_eq_false (show ¬ f.Graph.aI ≤ b by omega)]
 simp only [Option.bind_some,Bool.not_true,cond_false,dU (n:=2 * a) (by omega) (by omega),dU (n:=2 * b) (by omega) (by omega),dU (n:=2 * a + 1) (by omega) (by omega),dU (n:=2 * b + 1) (by omega) (by omega),
  hV.fr.vX a0 a1,hV.fr.vX b0 b1,hV.zJ (i:=2 * a) (by omega) (by omega),hV.zJ (i:=2 * b) (by omega) (by omega),hV.zJ (i:=2 * a + 1) (by omega) (by omega),hV.zJ (i:=2 * b + 1) (by omega) (by omega),aCZ hV a0 a1 b0 b1]
theorem DC {t:bI} (h:vT t = true):VF t.aG ∧ t.aN.length = t.aG.Graph.aF.length:=by
 unfold vT at h
 simp only [Bool.and_eq_true,beq_iff_eq] at h
 exact ⟨o5 h.2.1,by omega⟩
def Dk (t:bI) (v:List Int) (k:Nat):Bool:=match t.aG.Graph.aF[k]?,t.aN[k]? with
 | some x,some z => (z == 0 && uf t.aG v x.A x.B != 0) || ((z == 1 && decide (0 < uf t.aG v x.A x.B)) || (z == 2 && decide (uf t.aG v x.A x.B < 0)))
 | _,_ => false
def allowed (t:bI) (v:List Int):Bool:=vT t && (nM t.aG v (2 * t.aG.Graph.aI) && !(List.range' 0 t.aN.length).any (Dk t v))
theorem UX (t:bI) (v:List Int) (h0:SM t.aG.Graph.aF.length) (h1:SM t.aG.Places.length) (h2:SM t.aN.length) (hv:SM v.length):Fa t v = some (allowed t v):=by
 unfold Fa allowed
 rw [Qc t h0 h1 h2,Vp _ v h0 h1 hv]
 cases ht:vT t
 ·rfl
 ·obtain ⟨hF,hk⟩:=DC ht
  cases hw:nM t.aG v (2 * t.aG.Graph.aI)
  ·rfl
  ·have e:=qg (b:=Lc t v) (Dk t v) false t.aG.Graph.aF.length (by omega) (fun k hkl => by
    have hx:=List.getElem?_eq_getElem hkl
    have hz:t.aN[k]? = some (t.aN[k]'(by omega)):=List.getElem?_eq_getElem (by omega)
    have a0:=hF.g.a0 hx
    have ab:=hF.g.ab hx
    have bp:=hF.g.bp hx
    unfold Lc Dk
    rw [hx,hz]
    simp only [kT hx,kT hz,Option.bind_some,aH9 hw h0 h1 hv (a:=t.aG.Graph.aF[k].A) (b:=t.aG.Graph.aF[k].B) a0 (by omega) (by omega) bp]
    rw [decide_eq_true (by omega),cond_true]
    generalize (t.aN[k]'(by omega)) = z
    generalize uf t.aG v t.aG.Graph.aF[k].A t.aG.Graph.aF[k].B = c
    cases z == 0 <;> cases z == 1 <;> cases z == 2 <;> cases c != 0 <;> cases decide (0 < c) <;> cases decide (c < 0) <;> rfl) (by simp [Lc])
   rw [e,hk]
   cases (List.range' 0 t.aG.Graph.aF.length).any (Dk t v) <;> rfl
theorem Xw (t:bI) (v:List Int) (h0:SM t.aG.Graph.aF.length) (h1:SM t.aG.Places.length) (h2:SM t.aN.length) (hv:SM v.length):I8 t v = some (allowed t v):=by
 unfold I8 allowed
 rw [Kz t h0 h1 h2,LH _ v h0 h1 hv]
 cases ht:vT t
 ·rfl
 ·obtain ⟨hF,hk⟩:=DC ht
  cases hw:nM t.aG v (2 * t.aG.Graph.aI)
  ·rfl
  ·have e:=qg (b:=NI t v) (Dk t v) false t.aN.length (by omega) (fun k hkl => by
    have hx:t.aG.Graph.aF[k]? = some (t.aG.Graph.aF[k]'(by omega)):=List.getElem?_eq_getElem (by omega)
    have hz:=List.getElem?_eq_getElem hkl
    have a0:=hF.g.a0 hx
    have ab:=hF.g.ab hx
    have bp:=hF.g.bp hx
    unfold NI Dk
    rw [hx,hz]
    simp only [kT hx,kT hz,Option.bind_some,aCY hw h0 h1 hv (a:=(t.aG.Graph.aF[k]'(by omega)).A) (b:=(t.aG.Graph.aF[k]'(by omega)).B) a0 (by omega) (by omega) bp]
    rw [decide_eq_true (by omega),cond_true]
    generalize uf t.aG v _ _ = c
    generalize t.aN[k] = z
    cases z == 0 <;> cases z == 1 <;> cases z == 2 <;> cases c != 0 <;> cases decide (0 < c) <;> cases decide (c < 0) <;> rfl) (by simp [NI])
   rw [e]
   cases (List.range' 0 t.aN.length).any (Dk t v) <;> rfl
theorem aQI (t:bI) (v:List Int) (h0:t.aG.Graph.aF.length ≤ 1048576) (h1:t.aG.Places.length ≤ 1048576) (h2:t.aN.length ≤ 1048576) (hv:v.length ≤ 1048576):∃ w,I8 t v = some w ∧ Fa t v = some w :=
 ⟨_,Xw t v (by omega) (by omega) (by omega) (by omega),UX t v (by omega) (by omega) (by omega) (by omega)⟩
structure VS (f:ah) (w:List Int):Prop where
 fr:VF f
 len:w.length = f.Graph.aF.length
 sm:∀ {k:Nat} {x:Int},w[k]? = some x → -10000000000 ≤ x ∧ x ≤ 10000000000
theorem Oy {f:ah} {v:List Int} (h:nM f v f.Graph.aF.length = true):VS f v:=by
 unfold nM at h
 simp only [Bool.and_eq_true,beq_iff_eq] at h
 exact ⟨o5 h.1,by omega,fun hk => aFQ h.2.1 hk⟩
def GN (x:bD) (v:Int):Int:=bif x.A == v then x.B else x.A
def BR (f:ah) (w:List Int) (v:Int) (k:Nat) (a:Int × Int):Int × Int:=match f.Graph.aF[k]?,w[k]? with
 | some x,some c => bif x.A == v || x.B == v then (aA (a.1 + aA (c * aA ((bY f v).X - (bY f (GN x v)).X))),aA (a.2 + aA (c * aA ((bY f v).Y - (bY f (GN x v)).Y)))) else a
 | _,_ => a
def force (f:ah) (w:List Int) (v:Int):Int × Int:=iter (BR f w v) f.Graph.aF.length (0,0)
theorem aIk {f:ah} {w:List Int} (h:nM f w f.Graph.aF.length = true) (h0:SM f.Graph.aF.length) (h1:SM f.Places.length) (hw:SM w.length) {v:Int} (v0:0 ≤ v) (v1:v < f.Graph.aI):Qs f w v = some (force f w v):=by
 have hV:=Oy h
 have hl:=hV.len
 unfold Qs
 rw [aBn f w h0 h1 hw,h]
 have:=aC4 (b:=LY f w v) (s:=(0,0,0)) (fun k (a:Int × Int) => (a.1,a.2,(k:Int))) (BR f w v) (fun _ _ => True) id f.Graph.aF.length (0,0) (by omega) rfl trivial (fun k a hk _ => by
  refine ⟨?_,trivial⟩
  have hx:=List.getElem?_eq_getElem hk
  have hc:w[k]? = some (w[k]'(by omega)):=List.getElem?_eq_getElem (by omega)
  have a0:=hV.fr.g.a0 hx
  have ab:=hV.fr.g.ab hx
  have bp:=hV.fr.g.bp hx
  unfold LY BR V6 Qk GN
  rw [hx,hc]
  simp only [kT hx,kT hc,hV.fr.vX v0 v1,Option.bind_some,fK (show k ≤ 1099511627776 by omega)]
  rw [decide_eq_true (by omega),cond_true]
  cases hA:f.Graph.aF[k].A == v
  ·cases hB:f.Graph.aF[k].B == v
   ·rfl
   ·simp only [cond_false,cond_true,Option.bind_some,Bool.or_true,hV.fr.vX a0 (show f.Graph.aF[k].A < f.Graph.aI by omega)]
  ·simp only [cond_true,Option.bind_some,Bool.true_or,hV.fr.vX (show 0 ≤ f.Graph.aF[k].B by omega) bp]) (fun a _ => by simp [LY])
 simp only [Option.bind_some,Bool.not_true,cond_false,this.1]
 rfl
theorem aIl {f:ah} {w:List Int} (h:nM f w f.Graph.aF.length = true) (h0:SM f.Graph.aF.length) (h1:SM f.Places.length) (hw:SM w.length) {v:Int} (v0:0 ≤ v) (v1:v < f.Graph.aI):Rj f w v = some (force f w v):=by
 have hV:=Oy h
 have hl:=hV.len
 have p8:=hV.fr.g.p8
 unfold Rj
 have:=aC4 (b:=NH f w v) (s:=(0,0,0)) (fun k (a:Int × Int) => (a.1,a.2,(k:Int))) (BR f w v) (fun _ _ => True) id f.Graph.aF.length (0,0) (by omega) rfl trivial (fun k a hk _ => by
  refine ⟨?_,trivial⟩
  have hx:=List.getElem?_eq_getElem hk
  have hc:w[k]? = some (w[k]'(by omega)):=List.getElem?_eq_getElem (by omega)
  have a0:=hV.fr.g.a0 hx
  have ab:=hV.fr.g.ab hx
  have bp:=hV.fr.g.bp hx
  unfold NH BR WE GN
  rw [hx,hc]
  simp only [kT hx,kT hc,hV.fr.vX v0 v1,Option.bind_some,fK (show k ≤ 1099511627776 by omega),Qh f w h0 h1 hw,h]
  rw [decide_eq_true (by omega),dU (n:=f.Graph.aF[k].A + f.Graph.aF[k].B) (by omega) (by omega)]
  cases hA:f.Graph.aF[k].A == v
  ·cases hB:f.Graph.aF[k].B == v
   ·rfl
   ·have e:aA (f.Graph.aF[k].A + f.Graph.aF[k].B - v) = f.Graph.aF[k].A:=by
     rw [beq_iff_eq] at hB
     rw [dU (by omega) (by omega)]
     omega
    simp only [cond_false,cond_true,Option.bind_some,Bool.or_true,e,hV.fr.vX a0 (show f.Graph.aF[k].A < f.Graph.aI by omega)]
  ·have e:aA (f.Graph.aF[k].A + f.Graph.aF[k].B - v) = f.Graph.aF[k].B:=by
    rw [beq_iff_eq] at hA
    rw [dU (by omega) (by omega)]
    omega
   simp only [cond_true,Option.bind_some,Bool.true_or,e,hV.fr.vX (show 0 ≤ f.Graph.aF[k].B by omega) bp]) (fun a _ => by
   unfold NH
   simp only
   rw [decide_eq_false (by omega)]
   rfl)
 rw [this.1]
 rfl
def zq (f:ah) (w:List Int) (k:Nat):Bool:=(force f w k).1 != 0 || (force f w k).2 != 0
def wW (f:ah) (w:List Int):Bool:=nM f w f.Graph.aF.length && !(List.range' 0 f.Graph.aI.toNat).any (zq f w)
theorem aOC (f:ah) (w:List Int) (h0:SM f.Graph.aF.length) (h1:SM f.Places.length) (hw:SM w.length):Qz f w = some (wW f w):=by
 unfold Qz wW
 rw [aBn f w h0 h1 hw]
 cases h:nM f w f.Graph.aF.length
 ·rfl
 ·have hV:=Oy h
  have hp:=hV.fr.qG
  have hn:f.Places.length = f.Graph.aI.toNat:=by omega
  have e:=qg (b:=Lj f w) (zq f w) false f.Places.length (by omega) (fun k hk => by
   unfold Lj zq
   rw [decide_eq_true (by omega),cond_true,aIk h h0 h1 hw (v:=(k:Int)) (by omega) (by omega),Option.bind_some]
   cases (force f w k).1 != 0 <;> cases (force f w k).2 != 0 <;> rfl) (by simp [Lj])
  simp only [Option.bind_some,Bool.not_true,cond_false,e,hn]
  cases (List.range' 0 f.Graph.aI.toNat).any (zq f w) <;> rfl
theorem aOD (f:ah) (w:List Int) (h0:SM f.Graph.aF.length) (h1:SM f.Places.length) (hw:SM w.length):Ru f w = some (wW f w):=by
 unfold Ru wW
 cases h:nM f w f.Graph.aF.length
 ·have e:bH (Fj f w) BIG 0 = some (.inl ()):=kM (fun _ => 0) 0 (by omega) rfl (fun k hk => by omega) (by
   unfold Fj
   rw [Qh f w h0 h1 hw,h]
   cases decide ((0:Int) < f.Graph.aI) <;> rfl)
  rw [e,Qh f w h0 h1 hw,h]
  rfl
 ·have hV:=Oy h
  have hp:=hV.fr.qG
  have hq:=hV.fr.g.p1
  have e:=qg (b:=Fj f w) (zq f w) false f.Graph.aI.toNat (by omega) (fun k hk => by
   unfold Fj zq
   rw [decide_eq_true (by omega),Qh f w h0 h1 hw,h,aIl h h0 h1 hw (v:=(k:Int)) (by omega) (by omega)]
   simp only [Option.bind_some,cond_true]
   cases (force f w k).1 != 0 <;> cases (force f w k).2 != 0 <;> rfl) (by
   unfold Fj
   rw [decide_eq_false (by omega)]
   rfl)
  rw [e,Qh f w h0 h1 hw,h]
  cases (List.range' 0 f.Graph.aI.toNat).any (zq f w) <;> rfl
theorem aAu {f:ah} {w:List Int} (h:wW f w = true):VS f w:=by
 unfold wW at h
 simp only [Bool.and_eq_true] at h
 exact Oy h.1
def zD (t:bI) (w:List Int) (k:Nat):Bool:=match t.aN[k]?,w[k]? with
 | some z,some c => (z == 1 && decide (c < 0)) || (z == 2 && decide (0 < c))
 | _,_ => false
def proper (t:bI) (w:List Int):Bool:=vT t && (wW t.aG w && !(List.range' 0 w.length).any (zD t w))
theorem aAV (t:bI) (w:List Int) (h0:SM t.aG.Graph.aF.length) (h1:SM t.aG.Places.length) (h2:SM t.aN.length) (hw:SM w.length):Fe t w = some (proper t w):=by
 unfold Fe proper
 rw [Qc t h0 h1 h2,aOC _ w h0 h1 hw]
 cases ht:vT t
 ·rfl
 ·obtain ⟨hF,hk⟩:=DC ht
  cases hs:wW t.aG w
  ·rfl
  ·have hl:=(aAu hs).len
   have e:=qg (b:=Lh t w) (zD t w) false t.aN.length (by omega) (fun k hkl => by
    have hz:=List.getElem?_eq_getElem hkl
    have hc:w[k]? = some (w[k]'(by omega)):=List.getElem?_eq_getElem (by omega)
    unfold Lh zD
    rw [hz,hc]
    simp only [kT hz,kT hc,Option.bind_some]
    rw [decide_eq_true (by omega),cond_true]
    generalize t.aN[k] = z
    generalize (w[k]'(by omega)) = c
    cases z == 1 <;> cases z == 2 <;> cases decide (c < 0) <;> cases decide (0 < c) <;> rfl) (by simp [Lh])
   rw [e,show w.length = t.aN.length by omega]
   cases (List.range' 0 t.aN.length).any (zD t w) <;> rfl
theorem aEy (t:bI) (w:List Int) (h0:SM t.aG.Graph.aF.length) (h1:SM t.aG.Places.length) (h2:SM t.aN.length) (hw:SM w.length):NM t w = some (proper t w):=by
 unfold NM proper
 rw [Kz t h0 h1 h2,aOD _ w h0 h1 hw]
 cases ht:vT t
 ·rfl
 ·obtain ⟨hF,hk⟩:=DC ht
  cases hs:wW t.aG w
  ·rfl
  ·have hl:=(aAu hs).len
   have e:=qg (b:=NP t w) (zD t w) false w.length (by omega) (fun k hkl => by
    have hz:t.aN[k]? = some (t.aN[k]'(by omega)):=List.getElem?_eq_getElem (by omega)
    have hc:=List.getElem?_eq_getElem hkl
    unfold NP zD
    rw [hz,hc]
    simp only [kT hz,kT hc,Option.bind_some]
    rw [decide_eq_true (by omega),cond_true]
    generalize (t.aN[k]'(by omega)) = z
    generalize w[k] = c
    cases z == 1 <;> cases z == 2 <;> cases decide (c < 0) <;> cases decide (0 < c) <;> rfl) (by simp [NP])
   rw [e]
   cases (List.range' 0 w.length).any (zD t w) <;> rfl
theorem aAW {t:bI} {w:List Int} (h:proper t w = true):t.aN.length = w.length:=by
 unfold proper at h
 simp only [Bool.and_eq_true] at h
 have:=(DC h.1).2
 have:=(aAu h.2.1).len
 omega
def Ey (t:bI) (w:List Int) (k:Nat):Bool:=match t.aN[k]?,w[k]? with
 | some z,some c => z != 0 && c == 0
 | _,_ => false
def strict (t:bI) (w:List Int):Bool:=proper t w && !(List.range' 0 w.length).any (Ey t w)
theorem Tm (t:bI) (w:List Int) (h0:SM t.aG.Graph.aF.length) (h1:SM t.aG.Places.length) (h2:SM t.aN.length) (hw:SM w.length):xH t w = some (strict t w):=by
 unfold xH strict
 rw [aAV t w h0 h1 h2 hw]
 cases hp:proper t w
 ·rfl
 ·have hl:=aAW hp
  have e:=qg (b:=Ll t w) (Ey t w) false t.aN.length (by omega) (fun k hkl => by
   have hz:=List.getElem?_eq_getElem hkl
   have hc:w[k]? = some (w[k]'(by omega)):=List.getElem?_eq_getElem (by omega)
   unfold Ll Ey
   rw [hz,hc]
   simp only [kT hz,kT hc,Option.bind_some]
   rw [decide_eq_true (by omega),cond_true]
   cases t.aN[k] != 0 <;> rfl) (by simp [Ll])
  simp only [Option.bind_some,Bool.not_true,cond_false,e]
  rw [show w.length = t.aN.length by omega]
  cases (List.range' 0 t.aN.length).any (Ey t w) <;> rfl
theorem aAx (t:bI) (w:List Int) (h0:SM t.aG.Graph.aF.length) (h1:SM t.aG.Places.length) (h2:SM t.aN.length) (hw:SM w.length):EO t w = some (strict t w):=by
 unfold EO strict
 rw [aEy t w h0 h1 h2 hw]
 cases hp:proper t w
 ·rfl
 ·have hl:=aAW hp
  have e:=qg (b:=NQ t w) (Ey t w) false w.length (by omega) (fun k hkl => by
   have hz:t.aN[k]? = some (t.aN[k]'(by omega)):=List.getElem?_eq_getElem (by omega)
   have hc:=List.getElem?_eq_getElem hkl
   unfold NQ Ey
   rw [hz,hc]
   simp only [kT hz,kT hc,Option.bind_some]
   rw [decide_eq_true (by omega),cond_true]
   cases (t.aN[k]'(by omega)) != 0 <;> rfl) (by simp [NQ])
  simp only [Option.bind_some,Bool.not_true,cond_false,e]
  cases (List.range' 0 w.length).any (Ey t w) <;> rfl
theorem aG7 (t:bI) (w:List Int) (h0:t.aG.Graph.aF.length ≤ 1048576) (h1:t.aG.Places.length ≤ 1048576) (h2:t.aN.length ≤ 1048576) (hw:w.length ≤ 1048576):∃ r,EO t w = some r ∧ xH t w = some r :=
 ⟨_,aAx t w (by omega) (by omega) (by omega) (by omega),Tm t w (by omega) (by omega) (by omega) (by omega)⟩
end Go.Proofs.YtdmlaldifbmkpaaGreat
end
