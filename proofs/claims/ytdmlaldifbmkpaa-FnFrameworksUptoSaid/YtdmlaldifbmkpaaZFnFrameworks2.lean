/- Parts of a proof that a law of the program holds: what the program computes, and why that is right. -/
import Derived.Laws.BytesString
import Derived.Laws.BytesArg
import Derived.Laws.Concat
import Derived.Test.YtdmlaldifbmkpaaZFnFrameworks1
set_option linter.unusedVariables false
set_option linter.unusedSimpArgs false
set_option linter.unnecessarySimpa false
set_option maxRecDepth 100000
set_option maxHeartbeats 8000000
section
namespace Go.Fw
section
section
variable {P:Program} {C:Ctx} {σ:Slots} {mm:Mem} {α:Type} {enc:α → List PV}
theorem CP (rows:List (List α)):(dV rows).length = rows.length:=by simp [dV]
theorem TL (enc:α → List PV) (rows:List (List α)):(rowsOf enc rows).length = rows.length:=by simp [rowsOf]
theorem Xd {rows:List (List α)} {k:Nat} {r:List α} (h:rows[k]? = some r):(rowsOf enc rows)[k]? = some (r.map enc):=by simp [rowsOf,h]
theorem LT.aDb {o:Oper} {t e:TypeId} {x y:Operand} {n n2 p len H7:Nat} {rows:List (List α)} {jE:List (List CV)} {z:Value} {s qZ:Nat} (hl:len = rows.length) (hl2:H7 = jE.length) (ho:o.op = .call { callee:=.builtin .append,args:=#[x,y],argTypes:=#[t,t] }) (ht:P.underlying t = some (.slice e))
  (hz:TI P e z s qZ) (hzs:z.cells.size = s) (hs:0 < s) (hb:qZ ≤ 65536) (hc:(jE.all (fun cs => Nat.beq cs.length s && cs.all (jO [n])) && !Nat.beq p n) = true) (hlim:rows.length + jE.length ≤ vY) :
  LT P o [(x,Cc (.loc n 0 len)),(y,Cc (.loc n2 0 H7))] [(n,.dh e p (dV rows)),(n2,.row e jE)] (Cc (.loc n 0 (len + H7))) [(n,.row e (iJ p (dV rows) ++ jE))] [n] [n]:=by
 subst hl
 subst hl2
 simp only [Bool.and_eq_true,Bool.not_eq_true'] at hc
 have hc1:∀ cs ∈ jE,cs.length = s ∧ ∀ x ∈ cs,jO [n] x = true:=fun cs hcs => by
  have:=List.all_eq_true.1 hc.1 cs hcs
  simp only [Bool.and_eq_true] at this
  exact ⟨Nat.eq_of_beq_eq_true this.1,fun x hx => List.all_eq_true.1 this.2 x hx⟩
 have hlen:(iJ p (dV rows)).length = rows.length:=by rw [PG,CP]
 have hpn:[n].elem p = false:=by
  have:=Nat.ne_of_beq_eq_false hc.2
  simp [this]
 have:=LT.append (P:=P) (o:=o) (ins:=[(x,Cc (.loc n 0 rows.length)),(y,Cc (.loc n2 0 jE.length))]) (us:=[(n,.dh e p (dV rows)),(n2,.row e jE)]) (n:=n) (els:=iJ p (dV rows)) (jE:=jE) (W:=[n]) ho ht hz hzs hs hb
  (fun cs hcs => (hc1 cs hcs).1) (by rw [hlen]; exact hlim)
  (fun R B g w a hw hi hu => ⟨.inr ⟨by rw [hlen]; exact in1 hi,xW (ob:=.dh e p (dV rows)) hu⟩,by
   have:=aCa (els:=jE) (by rw [hz.sz]; exact hs) (in2 hi) (us2 hu)
   rwa [hz.sz] at this,.inl rfl⟩)
 rw [hlen,List.map_append,Td hpn,Jd fun cs hcs => Jd fun x hx => RZ ((hc1 cs hcs).2 x hx)] at this
 exact this
theorem aj.aCf {n m p len:Nat} {e e2:TypeId} {rows:List (List α)} {r:List α} {rest:List (List CV)} (hl:len = r.length) (hm:lk mm m = some (.fA e2 (r.map enc))) (hp:lk mm p = some (.pool e2 (rowsOf enc rows)))
  (hn:lk mm n = some (.row e (iJ p (dV rows) ++ [.loc m 0 len] :: rest))) (hd:(!Nat.beq p m && !Nat.beq n p && !Nat.beq n m && !C.pn.elem m && !C.pn.elem p) = true) (hrest:rest.all (·.all (jO [m,p])) = true) :
  aj P C σ mm (lK [m,p] σ) ((p,.pool e2 (rowsOf enc (rows ++ [r]))) :: (n,.row e (iJ p (dV (rows ++ [r])) ++ rest)) :: jV [m,p] mm):=by
 subst hl
 have hcells:iJ p (dV (rows ++ [r])) = iJ p (dV rows) ++ [[.tl p rows.length 0 r.length]]:=by
  have:dV (rows ++ [r]) = dV rows ++ [r.length]:=by simp [dV]
  rw [this,← aJu,CP]
 have hlen:(iJ p (dV rows)).length = rows.length:=by rw [PG,CP]
 refine aj.aDj (k:=rows.length) hm hp hn hd (fun bs ob hbl => ⟨bs ++ [ob],by simp [hbl,TL],fun j => ?_⟩) (fun j jE hj => ?_) (by rw [hcells]; simp) (fun j cs2 hj => ?_)
 ·rw [TL] at hbl
  by_cases h:j = rows.length
  ·rw [if_pos h,h,← hbl]
   simp only [GS.at,List.getElem?_append_right (Nat.le_refl _),Nat.sub_self,List.getElem?_cons_zero]
   cases ob <;> rfl
  ·rw [if_neg h]
   by_cases h2:j < bs.length
   ·simp only [GS.at,List.getElem?_append_left h2]
   ·have e1:(bs ++ [ob])[j]? = none:=List.getElem?_eq_none (by simp; omega)
    have e2:bs[j]? = none:=List.getElem?_eq_none (by omega)
    simp only [GS.at,e1,e2]
 ·simp only [rowsOf,List.map_append,List.map_cons,List.map_nil] at hj ⊢
  by_cases h:j < rows.length
  ·rw [List.getElem?_append_left (by simpa using h)] at hj
   exact .inr ⟨by omega,hj⟩
  ·have hjl:=(List.getElem?_eq_some_iff.1 hj).1
   simp at hjl
   have:j = rows.length:=by omega
   subst this
   rw [List.getElem?_append_right (by simp)] at hj
   simp at hj
   exact .inl ⟨rfl,hj.symm⟩
 ·rw [hcells,List.append_assoc] at hj
  by_cases h:j < rows.length
  ·rw [List.getElem?_append_left (by rw [hlen]; exact h)] at hj
   obtain ⟨l,hl,rfl⟩:=aCj hj
   refine ⟨_,by rw [List.getElem?_append_left (by rw [hlen]; exact h)]; exact hj,rfl,fun i x2 hi => ⟨x2,hi,.inr ⟨rfl,.inl ?_⟩⟩⟩
   cases i with
   | zero => exact ⟨j,0,l,by omega,by simpa using hi.symm⟩
   | succ i => simp at hi
  ·rw [List.getElem?_append_right (by rw [hlen]; omega),hlen] at hj
   by_cases h2:j = rows.length
   ·subst h2
    rw [Nat.sub_self] at hj
    have:cs2 = [.tl p rows.length 0 r.length]:=by simpa using hj.symm
    subst this
    refine ⟨[.loc m 0 r.length],by rw [List.getElem?_append_right (by rw [hlen]; exact Nat.le_refl _),hlen,Nat.sub_self]; rfl,rfl,fun i x2 hi => ?_⟩
    cases i with
    | zero => exact ⟨_,rfl,.inl ⟨0,r.length,rfl,by simpa using hi.symm⟩⟩
    | succ i => simp at hi
   ·obtain ⟨q,hq⟩:∃ q,j - rows.length = q + 1:=⟨j - rows.length - 1,by omega⟩
    rw [hq] at hj
    have hj':rest[q]? = some cs2:=by simpa using hj
    refine ⟨cs2,by rw [List.getElem?_append_right (by rw [hlen]; omega),hlen,hq]; simpa using hj',rfl,fun i x2 hi => ⟨x2,hi,.inr ⟨rfl,.inr ?_⟩⟩⟩
    exact List.all_eq_true.1 (List.all_eq_true.1 hrest cs2 (List.mem_of_getElem? hj')) x2 (List.mem_of_getElem? hi)
theorem aj.dh {n p:Nat} {e:TypeId} {lens:List Nat} {cells:List (List CV)} (hc:cells = iJ p lens) (h:lk mm n = some (.row e cells)):aj P C σ mm σ ((n,.dh e p lens) :: mm):=fun R B g a w hs => by
 subst hc
 exact ⟨R,B,g,hs.obj (o:=.dh e p lens) h (show eU P w R B g n e (iJ p lens) from hs.ob n (.row e (iJ p lens)) h)⟩
def swp (i q j:Nat):Nat:=if j = q then i else if j = i then q else j
theorem aJq {i q j k:Nat} (h:swp i q j = swp i q k):j = k:=by
 unfold swp at h
 split at h <;> split at h <;> (try split at h) <;> (try split at h) <;> omega
theorem Xz {β:Type} {l:List β} {i q:Nat} {x y:β} (hi:l[i]? = some x) (hq:l[q]? = some y) (j:Nat):((l.set i y).set q x)[j]? = l[swp i q j]?:=by
 have hil:=(List.getElem?_eq_some_iff.1 hi).1
 have Hg:=(List.getElem?_eq_some_iff.1 hq).1
 rw [List.getElem?_set,List.getElem?_set]
 by_cases h1:q = j
 ·subst h1
  have:swp i q q = i:=if_pos rfl
  simp [Hg,hi,this]
 ·rw [if_neg h1]
  by_cases h2:i = j
  ·subst h2
   have:swp i q i = q:=by unfold swp; rw [if_neg fun e => h1 e.symm,if_pos rfl]
   simp [hil,hq,this]
  ·have:swp i q j = j:=by unfold swp; rw [if_neg fun e => h1 e.symm,if_neg fun e => h2 e.symm]
   rw [if_neg h2,this]
theorem aj.aJ4 {n p i q:Nat} {e e2:TypeId} {rows:List (List α)} {ri rq:List α} (hi:rows[i]? = some ri) (hq:rows[q]? = some rq) (hp:lk mm p = some (.pool e2 (rowsOf enc rows)))
  (hn:lk mm n = some (.row e (((iJ p (dV rows)).set i [.tl p q 0 rq.length]).set q [.tl p i 0 ri.length]))) (hd:(!Nat.beq n p && !C.pn.elem p) = true) :
  aj P C σ mm (lK [p] σ) ((p,.pool e2 (rowsOf enc ((rows.set i rq).set q ri))) :: (n,.dh e p (dV ((rows.set i rq).set q ri))) :: jV [p] mm):=fun R B g a w hs => by
 simp only [Bool.and_eq_true,Bool.not_eq_true'] at hd
 have hnp:=Nat.ne_of_beq_eq_false hd.1
 have hp1:=l9 hd.2
 have hw:=hs.wf
 obtain ⟨⟨bs,Ld,hbl⟩,hrows⟩:=hs.ob p _ hp
 rw [TL] at hbl
 have hrn:eU P w R B g n e (((iJ p (dV rows)).set i [.tl p q 0 rq.length]).set q [.tl p i 0 ri.length]):=hs.ob n _ hn
 have hil:=(List.getElem?_eq_some_iff.1 hi).1
 have Hg:=(List.getElem?_eq_some_iff.1 hq).1
 have hbi:bs[i]? = some (bs[i]'(by omega)):=List.getElem?_eq_getElem (by omega)
 have hbq:bs[q]? = some (bs[q]'(by omega)):=List.getElem?_eq_getElem (by omega)
 let o8:=(bs.set i (bs[q]'(by omega))).set q (bs[i]'(by omega))
 have hat:∀ j,(GS.pool o8).at j = (g p).at (swp i q j):=fun j => by
  rw [Ld]
  show (match o8[j]? with | some (some b) => GS.blk b | some none => .nil | none => .dead) = _
  rw [Xz hbi hbq]
  rfl
 have hhas:∀ b,(GS.pool o8).has b → (g p).has b:=fun b hb => by
  obtain ⟨j,hj⟩:=GS.Rw rfl hb
  rw [hat j] at hj
  exact GS.tH hj
 have y9:upd g p (.pool o8) p = .pool o8:=upd_same ..
 have hg2:∀ k,k ≠ p → upd g p (.pool o8) k = g k:=fun k hk => upd_ne g _ hk
 have MI:WF R B (upd g p (.pool o8)) w:=hw.upd p _ (Nat.le_refl _) (fun b hb => ⟨(hw.jZ p b (hhas b hb)).1,(hw.jZ p b (hhas b hb)).2,fun k hk hk2 => hk (hw.jk k p b hk2 (hhas b hb))⟩) (fun j k b hj hk => by
  rw [hat j] at hj
  rw [hat k] at hk
  exact aJq (hw.nd p _ _ b hj hk))
 have had:iH R B g w [p,n] [p] R B (upd g p (.pool o8)) w:=by
  refine ⟨MI,fun _ h => h,fun _ h => h,rfl,rfl,rfl,Nat.le_refl _,fun _ _ _ => rfl,fun k hk => hg2 k (by simpa using hk),fun k hk b hb => ?_,fun k hk hkX b cur e' hg hh => ⟨cur,hh,rfl⟩⟩
  have:k = p:=by simpa using hk
  subst this
  rw [y9] at hb
  exact .inr ⟨k,by simp,hhas b hb⟩
 have aLM:dV ((rows.set i rq).set q ri) = ((dV rows).set i rq.length).set q ri.length:=by simp [dV,List.map_set]
 have hst:=hs.step (us:=[(p,.pool e2 (rowsOf enc rows)),(n,.row e (((iJ p (dV rows)).set i [.tl p q 0 rq.length]).set q [.tl p i 0 ri.length]))]) (df:=[(p,.pool e2 (rowsOf enc ((rows.set i rq).set q ri))),(n,.dh e p (dV ((rows.set i rq).set q ri)))]) (W:=[p,n]) (X:=[p]) (d:=none) (v:=.dW []) (u:=undef) ⟨hp,hn,trivial⟩
  (fun k hk => by
   have:k = p ∨ k = n:=by simpa using hk
   rcases this with rfl | rfl
   ·exact ⟨.inl (by simp),_,List.mem_cons_self⟩
   ·exact ⟨.inr (by simp),_,List.mem_cons_of_mem _ List.mem_cons_self⟩)
  (fun k hk => by
   have:k = (p,.pool e2 (rowsOf enc ((rows.set i rq).set q ri))) ∨ k = (n,.dh e p (dV ((rows.set i rq).set q ri))):=by simpa using hk
   rcases this with rfl | rfl
   ·exact .inl (by simp)
   ·exact .inr (by simp)) rfl (fun k hk => by
   have:k = p:=by simpa using hk
   subst this
   exact hp1) had (fun b hb => .inl hb) (fun h => by cases h) (fun k hk => by
   have:k = (p,.pool e2 (rowsOf enc ((rows.set i rq).set q ri))) ∨ k = (n,.dh e p (dV ((rows.set i rq).set q ri))):=by simpa using hk
   rcases this with rfl | rfl
   ·refine ⟨⟨o8,y9,by simp [o8,hbl,TL]⟩,fun j jE hj => ?_⟩
    show tC P w R B ((upd g p (.pool o8) p).at j) e2 jE
    rw [y9,hat j]
    refine hrows _ jE ?_
    rw [rowsOf,List.getElem?_map,Xz hi hq] at hj
    rw [rowsOf,List.getElem?_map]
    exact hj
   ·show eU P w R B (upd g p (.pool o8)) n e (iJ p (dV ((rows.set i rq).set q ri)))
    have hgn:upd g p (.pool o8) n = g n:=hg2 n hnp
    have hlen:(iJ p (dV ((rows.set i rq).set q ri))).length = (((iJ p (dV rows)).set i [.tl p q 0 rq.length]).set q [.tl p i 0 ri.length]).length:=by simp [PG,CP]
    have hcell:∀ j cs2,(iJ p (dV ((rows.set i rq).set q ri)))[j]? = some cs2 → ∃ l,cs2 = [CV.tl p j 0 l] ∧ (((iJ p (dV rows)).set i [CV.tl p q 0 rq.length]).set q [CV.tl p i 0 ri.length])[j]? = some [CV.tl p (swp i q j) 0 l]:=fun j cs2 hj => by
     obtain ⟨l,hl,rfl⟩:=aCj hj
     refine ⟨l,rfl,?_⟩
     have hl0:(dV rows)[swp i q j]? = some l:=by
      rw [← hl,dV,dV,List.getElem?_map,List.getElem?_map,Xz hi hq]
     have hjl:j < (iJ p (dV rows)).length:=by
      have:=(List.getElem?_eq_some_iff.1 hj).1
      simpa [PG,CP] using this
     rw [List.getElem?_set,List.getElem?_set]
     by_cases h1:q = j
     ·subst h1
      have h7:swp i q q = i:=if_pos rfl
      rw [h7] at hl0 ⊢
      have:ri.length = l:=by
       rw [dV,List.getElem?_map,hi] at hl0
       simpa using hl0
      simp only [if_true,List.length_set,hjl,this]
     ·rw [if_neg h1]
      by_cases h2:i = j
      ·subst h2
       have h7:swp i q i = q:=by unfold swp; rw [if_neg fun e => h1 e.symm,if_pos rfl]
       rw [h7] at hl0 ⊢
       have:rq.length = l:=by
        rw [dV,List.getElem?_map,hq] at hl0
        simpa using hl0
       simp only [if_true,hjl,this]
      ·have h7:swp i q j = j:=by unfold swp; rw [if_neg fun e => h1 e.symm,if_neg fun e => h2 e.symm]
       rw [h7] at hl0 ⊢
       rw [if_neg h2]
       exact X4 hl0
    rcases hrn with ⟨h1,h2⟩ | ⟨b,cur,h1,h2,h3,h4,h5⟩
    ·exact .inl ⟨hgn.trans h1,List.eq_nil_of_length_eq_zero (by rw [hlen,h2]; rfl)⟩
    ·refine .inr ⟨b,cur,hgn.trans h1,h2,fun cs2 hcs2 => ?_,by rw [hlen]; exact h4,fun j k cs2 x2 hj hk => ?_⟩
     ·obtain ⟨j,hj⟩:=List.mem_iff_getElem?.1 hcs2
      obtain ⟨l,rfl,h6⟩:=hcell j cs2 hj
      have:=h3 _ (List.mem_of_getElem? h6)
      exact this
     ·obtain ⟨l,rfl,h6⟩:=hcell j cs2 hj
      cases k with
      | succ k => simp at hk
      | zero =>
       have:x2 = .tl p j 0 l:=by simpa using hk.symm
       subst this
       obtain ⟨u,hu,hr⟩:=h5 j 0 _ _ h6 rfl
       refine ⟨u,hu,hr.1,?_⟩
       have hk2:(upd g p (.pool o8) p).at j = (g p).at (swp i q j):=by rw [y9,hat j]
       rcases hr.2 with ⟨z1,z2⟩ | z1 | ⟨b2,cap,Kt,e3,z1,z2⟩
       ·exact .inl ⟨hk2.trans z1,z2⟩
       ·exact .inr (.inl z1)
       ·exact .inr (.inr ⟨b2,cap,Kt,e3,hk2.trans z1,z2⟩))
 exact ⟨R,B,_,hst⟩
end
end
section
section
variable {P:Program} {o:Oper} {α:Type} {enc:α → List PV}
theorem tC.blk {w:World} {R B:Nat → Prop} {s:GS} {e:TypeId} {els:List (List PV)} (h:tC P w R B s e els) {b:Nat} (hb:s = .blk b) {cur:Array Value} {e':TypeId} (hh:w.heap[b]? = some (.cells cur e' (0,0))) :
  e' = e ∧ (∀ cs ∈ els,cs.length = bZ P e) ∧ els.length * bZ P e ≤ cur.size ∧ ∀ (j k:Nat) cs x,els[j]? = some cs → cs[k]? = some x → ∃ u,cur[j * bZ P e + k]? = some u ∧ jH w R B x u:=by
 rcases h with ⟨h1,_⟩ | ⟨b',cur',h1,h2,h3,h4,h5⟩
 ·rw [hb] at h1; cases h1
 ·rw [hb] at h1
  injection h1 with h1
  subst h1
  rw [hh] at h2
  injection h2 with h2
  injection h2 with h2 h6 h7
  subst h2
  subst h6
  exact ⟨rfl,h3,h4,h5⟩
theorem LT.Jz {x y:Operand} {t e:TypeId} {i:Int} {p k len:Nat} {rows:List (List α)} {r:List α} {b:α} (hl:len = r.length) (ho:o.op = .indexAddr t x y) (h:uP P t = some e) (hk:rows[k]? = some r) (hi:idx r i = some b) :
  LT P o [(x,Cc (.tl p k 0 len)),(y,Iv i)] [(p,.pool e (rowsOf enc rows))] (Cc (.tpl p k (i.toNat * bZ P e))) [] [] []:=.calm fun R B g w a _ hin hu => by
 subst hl
 have h0:=Hu hi
 have h1:=RG hi
 have hy:=mJ (in2 hin)
 have hrow:=(xW (ob:=.pool e (rowsOf enc rows)) hu).2 k _ (Xd hk)
 obtain ⟨_,h2⟩:=in1 hin
 rcases h2 with ⟨_,_,h2,_⟩ | ⟨h2,_⟩ | ⟨b,cap,cur,e',k1,k2,k3,k4,k5,k6⟩
 ·omega
 ·omega
 ·have he:=(hrow.blk k1 k2).1
  subst he
  simp only [Nat.zero_mul] at k6
  exact ⟨.pointer (some ⟨b,i.toNat * bZ P e',none⟩),by simp [execOp,ho,k6,hy,run_indexAt h ⟨b,0,none⟩ r.length cap .i64 i h0 h1,add_lit],rfl,b,k1,rfl⟩
theorem LT.PI {x:Operand} {t e:TypeId} {p k off j:Nat} {i:Int} {rows:List (List α)} {r:List α} {b:α} {q:PV} (ho:o.op = .load t x) (h:kZ P t = some false) (hk:rows[k]? = some r) (hi:idx r i = some b) (hj:(enc b)[j]? = some q)
  (ha:off = i.toNat * bZ P e + j):LT P o [(x,Cc (.tpl p k off))] [(p,.pool e (rowsOf enc rows))] (Cc (.pv q)) [] [] []:=.calm fun R B g w a _ hin hu => by
 obtain ⟨_,bl,h2,h3⟩:=in1 hin
 rcases (xW (ob:=.pool e (rowsOf enc rows)) hu).2 k _ (Xd hk) with ⟨h4,_⟩ | ⟨b',cur,h4,h5,_,_,h8⟩
 ·rw [h2] at h4; cases h4
 ·rw [h2] at h4
  injection h4 with h4
  subst h4
  obtain ⟨u,hu1,hu2⟩:=h8 i.toNat j (enc b) q (by rw [List.getElem?_map,qC hi]; rfl) hj
  subst ha
  have hc:w.cell? ⟨bl,i.toNat * bZ P e + j,none⟩ = some u:=(DW h5 _).trans hu1
  exact ⟨u,by simp [execOp,ho,h3,Xg h hc],hu2.oneCell,hu2⟩
theorem LT.aJ1 {t e:TypeId} {p k off j s:Nat} (m:Nat) {x y:Operand} {i:Int} {rows:List (List α)} {r:List α} {b b':α} {v:Value} {it:TypeInfo} (ho:o.op = .store t x y) (hd:o.dst = none) (hit:P.info? t = some it) (hs:bZ P t = s) (hl:1 = s) (hk:rows[k]? = some r) (hi:idx r i = some b)
  (ha:off = i.toNat * bZ P e + j) (hjl:j + s ≤ (enc b).length) (hb:ow ((enc b).map CV.pv) j [CV.pv (.sc v)] = (enc b').map CV.pv) (hpm:Nat.beq p m = false) :
  LT P o [(x,Cc (.tpl p k off)),(y,Cc (.pv (.sc v)))] [(p,.pool e (rowsOf enc rows))] (.dW []) [(p,.pool e (rowsOf enc (rows.set k (r.set i.toNat b'))))] [p] [m]:=by
 have h0:=LT.aCq (P:=P) (o:=o) (n:=m) (e:=e) (v:=.c (.pv (.sc v))) ho hd hit hs (by simpa [kR] using hl) hi ha hjl hb
 have h1:=LT.focus (p:=p) (k:=k) (J7:=[]) (Gw:=[]) (rows:=rowsOf enc rows) h0 (Xd hk) (by simp [VB,hpm,LP,LU,zn,jO,Nat.beq_refl,Nat.ne_of_beq_eq_false hpm])
 have e1:(rowsOf enc rows).set k ((r.set i.toNat b').map enc) = rowsOf enc (rows.set k (r.set i.toNat b')):=by simp [rowsOf,List.map_set]
 have e2:Nat.beq m m = true:=Nat.beq_refl m
 simp only [List.map_cons,List.map_nil,Gn,Gp,yu,e2,cond_true,xR,e1] at h1
 exact h1
end
end
section
section
variable {P:Program} {C:Ctx} {σ:Slots} {mm:Mem} {α:Type} {enc:α → List PV}
theorem aIO {rows:List (List α)} {k:Nat} {r r':List α} (hk:rows[k]? = some r) (h:r'.length = r.length):dV rows = dV (rows.set k r'):=by
 refine List.ext_getElem? fun j => ?_
 have hl:=(List.getElem?_eq_some_iff.1 hk).1
 simp only [dV,List.getElem?_map,List.getElem?_set]
 by_cases hj:k = j
 ·subst hj
  rw [if_pos rfl,if_pos hl,hk,Option.map_some,Option.map_some,h]
 ·rw [if_neg hj]
theorem bg.SY (h:∀ a,vC (enc a)) {e:TypeId} (rows:List (List α)):bg (.pool e (rowsOf enc rows)):=fun els hels cs hcs p hp => by
 obtain ⟨r,_,rfl⟩:=List.mem_map.1 hels
 obtain ⟨a,_,rfl⟩:=List.mem_map.1 hcs
 exact (h a).spec p hp
theorem aj.lens {n p:Nat} {e:TypeId} {lens lens':List Nat} (he:lens = lens') (h:lk mm n = some (.dh e p lens)):aj P C σ mm σ ((n,.dh e p lens') :: mm):=fun R B g a w hs => by
 subst he
 exact ⟨R,B,g,hs.obj h (hs.ob n _ h)⟩
theorem pY.aJ5 {sh:Mem} {n p len:Nat} {e e2:TypeId} {rows:List (List α)} {Uw:List α → List PV} (hl:len = rows.length) (h1:lk sh n = some (.dh e p (dV rows))) (h2:lk sh p = some (.pool e2 (rowsOf enc rows))) (hE:∀ r,Uw r = [.xs false (r.map enc)]):pY sh (.loc n 0 len) (.pv (.xs false (rows.map Uw))):=by
 subst hl
 have:=pY.dh h1 h2 (by simp [dV,rowsOf,Function.comp_def])
 rw [CP] at this
 have e1:(rowsOf enc rows).map (fun r => [PV.xs false r]) = rows.map Uw:=by
  rw [rowsOf,List.map_map]
  exact List.map_congr_left fun r _ => (hE r).symm
 rwa [e1] at this
theorem aj.aB0 (p:Nat) (e2:TypeId) (hd:C.pn.elem p = false):aj P C σ mm (lK [p] σ) ((p,.pool e2 []) :: jV [p] mm):=fun R B g a w hs => by
 have hp1:=l9 hd
 have had:iH R B g w [] [p] R B (upd g p (.pool [])) w:=by
  refine ⟨hs.wf.upd p _ (Nat.le_refl _) (fun b hb => by cases hb) (fun i j b hi => by simp [GS.at] at hi),fun _ h => h,fun _ h => h,rfl,rfl,rfl,Nat.le_refl _,fun _ _ _ => rfl,fun q hq => upd_ne g _ (by simpa using hq),fun q hq b hb => ?_,fun q hq => by cases hq⟩
  have:q = p:=by simpa using hq
  subst this
  rw [upd_same] at hb
  cases hb
 exact ⟨R,B,_,hs.step (us:=[]) (df:=[(p,.pool e2 [])]) (W:=[]) (X:=[p]) (d:=none) (v:=.dW []) (u:=undef) trivial (fun _ h => by cases h) (fun q hq => by
   have:q = (p,.pool e2 []):=by simpa using hq
   subst this; exact .inl (by simp)) rfl (fun q hq => by
   have:q = p:=by simpa using hq
   subst this; exact hp1) had (fun b hb => .inl hb) (fun h => by cases h) (Jl ⟨⟨[],upd_same ..,rfl⟩,fun k els hk => by simp at hk⟩)⟩
end
end
section
section
variable {P:Program} {o:Oper} {α:Type} {enc:α → List PV}
theorem aCi {p:Nat} {lens:List Nat} {j:Nat} (h:j < lens.length):∃ c,(iJ p lens)[j]? = some [c]:=by
 obtain ⟨l,hl⟩:∃ l,lens[j]? = some l:=⟨lens[j],List.getElem?_eq_getElem h⟩
 exact ⟨_,X4 hl⟩
theorem LT.aLC {x y:Operand} {t e:TypeId} {n p off:Nat} {i:Int} {rows:List (List α)} {r:List α} {c:CV} {it:TypeInfo} (ho:o.op = .store t x y) (hd:o.dst = none) (hit:P.info? t = some it) (hs:bZ P t = 1) (hi:idx rows i = some r) (ha:off = i.toNat * bZ P e) :
  LT P o [(x,Cc (.pl n off)),(y,Cc c)] [(n,.dh e p (dV rows))] (.dW []) [(n,.row e ((iJ p (dV rows)).set i.toNat [c]))] [n] []:=by
 obtain ⟨c0,h0⟩:=aCi (p:=p) (lens:=dV rows) (j:=i.toNat) (by rw [CP]; exact (List.getElem?_eq_some_iff.1 (qC hi)).1)
 have:=LT.store (P:=P) (o:=o) (n:=n) (off:=off) (e:=e) (els:=iJ p (dV rows)) (k:=0) (v:=.c c) ho hd hit hs rfl h0 (by rw [ha,Nat.add_zero]) (Nat.le_refl _)
 exact LT.X8 this
theorem LT.aLD {x y:Operand} {t e:TypeId} {n p off k:Nat} {i:Int} {rows:List (List α)} {r:List α} {c c1:CV} {it:TypeInfo} (ho:o.op = .store t x y) (hd:o.dst = none) (hit:P.info? t = some it) (hs:bZ P t = 1) (hi:idx rows i = some r) (ha:off = i.toNat * bZ P e) :
  LT P o [(x,Cc (.pl n off)),(y,Cc c)] [(n,.row e ((iJ p (dV rows)).set k [c1]))] (.dW []) [(n,.row e (((iJ p (dV rows)).set k [c1]).set i.toNat [c]))] [n] []:=by
 have hl:i.toNat < (dV rows).length:=by rw [CP]; exact (List.getElem?_eq_some_iff.1 (qC hi)).1
 obtain ⟨c0,h0⟩:=aCi (p:=p) hl
 obtain ⟨c2,h2⟩:∃ c2,((iJ p (dV rows)).set k [c1])[i.toNat]? = some [c2]:=by
  rw [List.getElem?_set]
  by_cases hk:k = i.toNat
  ·rw [if_pos hk,if_pos (by rw [hk,PG]; exact hl)]; exact ⟨c1,rfl⟩
  ·rw [if_neg hk]; exact ⟨c0,h0⟩
 exact LT.store (P:=P) (o:=o) (n:=n) (off:=off) (e:=e) (k:=0) (v:=.c c) ho hd hit hs rfl h2 (by rw [ha,Nat.add_zero]) (Nat.le_refl _)
theorem LT.aLB {x y:Operand} {t e:TypeId} {i:Int} {n len:Nat} {els:List (List CV)} {rows:List (List α)} {r:List α} (hl:len = rows.length) (ho:o.op = .indexAddr t x y) (h:uP P t = some e) (hi:idx rows i = some r) :
  LT P o [(x,Cc (.loc n 0 len)),(y,Iv i)] [(n,.row e els)] (Cc (.pl n (i.toNat * bZ P e))) [] [] []:=by
 subst hl
 exact LT.WV ho h (Hu hi) (RG hi)
theorem aA9 {β:Type} {l:List β} {x:β}:l.length + 1 = (l ++ [x]).length:=by simp
end
end
section
inductive BX (n:Nat) (els:List (List PV)):CV → CV → Prop
 | same {x y:CV} (h:cO [n] x = y):BX n els x y
 | fr {l:Nat} (h:l = els.length):BX n els (.loc n 0 l) (.pv (.xs true els))
inductive xY (n:Nat) (els:List (List PV)):List CV → List CV → Prop
 | nil:xY n els [] []
 | cons {x y:CV} {xs ys:List CV} (h:BX n els x y) (t:xY n els xs ys):xY n els (x :: xs) (y :: ys)
inductive Dx (n:Nat) (els:List (List PV)):AV → AV → Prop
 | same {x y:AV} (h:pK [n] x = y):Dx n els x y
 | c {x y:CV} (h:BX n els x y):Dx n els (.s (.c x)) (.s (.c y))
 | agg {xs ys:List CV} (h:xY n els xs ys):Dx n els (.s (.agg xs)) (.s (.agg ys))
inductive GX (n:Nat) (els:List (List PV)):Ob → Ob → Prop
 | same {x y:Ob} (h:lD [n] x = y):GX n els x y
 | row {e:TypeId} {xs ys:List CV} (h:xY n els xs ys):GX n els (.row e [xs]) (.row e [ys])
def KO (n:Nat) (els:List (List PV)) (σ:Slots):Slots → Prop
 | [] => True
 | (t,v) :: r => (∃ x,lk σ t = some x ∧ Dx n els x v) ∧ KO n els σ r
def KN (n:Nat) (els:List (List PV)) (m:Mem):Mem → Prop
 | [] => True
 | (k,o) :: r => (Nat.beq k n = false ∧ ∃ x,lk m k = some x ∧ GX n els x o) ∧ KN n els m r
section
variable {P:Program} {C:Ctx} {σ σ':Slots} {m m':Mem} {n:Nat} {els:List (List PV)}
theorem KO.get:∀ {σ':Slots},KO n els σ σ' → ∀ t v,lk σ' t = some v → ∃ x,lk σ t = some x ∧ Dx n els x v
 | [],_,t,v,h => by cases h
 | (k,v') :: r,h,t,v,hl => by
  change (bif Nat.beq k t then some v' else lk r t) = some v at hl
  cases hb:Nat.beq k t with
  | true =>
   rw [hb,cond_true] at hl
   injection hl with hl
   subst hl
   have:=Nat.eq_of_beq_eq_true hb
   subst this
   exact h.1
  | false =>
   rw [hb,cond_false] at hl
   exact KO.get h.2 t v hl
theorem KN.get:∀ {m':Mem},KN n els m m' → ∀ k o,lk m' k = some o → k ≠ n ∧ ∃ x,lk m k = some x ∧ GX n els x o
 | [],_,t,v,h => by cases h
 | (k,v') :: r,h,t,v,hl => by
  change (bif Nat.beq k t then some v' else lk r t) = some v at hl
  cases hb:Nat.beq k t with
  | true =>
   rw [hb,cond_true] at hl
   injection hl with hl
   subst hl
   have:=Nat.eq_of_beq_eq_true hb
   subst this
   exact ⟨Nat.ne_of_beq_eq_false h.1.1,h.1.2⟩
  | false =>
   rw [hb,cond_false] at hl
   exact KN.get h.2 t v hl
theorem xY.get {xs ys:List CV} (h:xY n els xs ys):xs.length = ys.length ∧ ∀ (k:Nat) y,ys[k]? = some y → ∃ x,xs[k]? = some x ∧ BX n els x y:=by
 induction h with
 | nil => exact ⟨rfl,fun k y h => by simp at h⟩
 | cons h _ ih =>
  refine ⟨by simp [ih.1],fun k y hk => ?_⟩
  cases k with
  | zero => simp at hk; subst hk; exact ⟨_,rfl,h⟩
  | succ k => exact ih.2 k y (by simpa using hk)
section
variable {w:World} {R B R' B':Nat → Prop} {g g':Nat → GS}
theorem BX.rc (had:iH R B g w [] [n] R' B' g' w) (hw:WF R B g w) (hv:∀ v,RC P w R B g (.loc n 0 els.length) v → jH w R' B' (.xs true els) v) {x y:CV} {v:Value} (h:BX n els x y) (hx:RC P w R B g x v):RC P w R' B' g' y v:=by
 cases h with
 | same h => subst h; exact had.rc hw hx
 | fr h => subst h; exact ⟨hx.1,hv v hx⟩
theorem xY.rl (had:iH R B g w [] [n] R' B' g' w) (hw:WF R B g w) (hv:∀ v,RC P w R B g (.loc n 0 els.length) v → jH w R' B' (.xs true els) v) {xs ys:List CV} (h:xY n els xs ys) {us:Nat → Option Value} (hx:∀ (k:Nat) x,xs[k]? = some x → ∃ u,us k = some u ∧ RC P w R B g x u) :
  ∀ (k:Nat) y,ys[k]? = some y → ∃ u,us k = some u ∧ RC P w R' B' g' y u:=fun k y hk => by
 obtain ⟨x,h1,h2⟩:=h.get.2 k y hk
 obtain ⟨u,h3,h4⟩:=hx k x h1
 exact ⟨u,h3,h2.rc had hw hv h4⟩
theorem Dx.ra (had:iH R B g w [] [n] R' B' g' w) (hw:WF R B g w) (hv:∀ v,RC P w R B g (.loc n 0 els.length) v → jH w R' B' (.xs true els) v) {x y:AV} {v:Value} (h:Dx n els x y) (hx:RA P w R B g x v):RA P w R' B' g' y v:=by
 cases h with
 | same h => subst h; exact had.ra hw hx
 | c h => exact BX.rc had hw hv h hx
 | agg h =>
  obtain ⟨vs,h1,h2,h3⟩:=hx
  exact ⟨vs,h1,h2.trans h.get.1,xY.rl had hw hv h h3⟩
theorem GX.ro (had:iH R B g w [] [n] R' B' g' w) (hw:WF R B g w) (hv:∀ v,RC P w R B g (.loc n 0 els.length) v → jH w R' B' (.xs true els) v) {k:Nat} (hk:k ≠ n) {x y:Ob} (h:GX n els x y) (hx:RO P w R B g k x):RO P w R' B' g' k y:=by
 cases h with
 | same h => subst h; exact had.ro hw (by simpa using hk) (by simp) hx
 | @row e xs ys h =>
  have hg:g' k = g k:=had.names k (by simpa using hk)
  rcases hx with ⟨h1,h2⟩ | ⟨b,cur,h1,h2,h3,h4,h5⟩
  ·cases h2
  ·refine .inr ⟨b,cur,hg.trans h1,h2,fun cs hcs => ?_,h4,fun j i cs y hj hi => ?_⟩
   ·have:cs = ys:=by simpa using hcs
    subst this
    rw [← h.get.1]
    exact h3 xs (by simp)
   ·cases j with
    | succ j => simp at hj
    | zero =>
     have:ys = cs:=by simpa using hj
     subst this
     exact xY.rl had hw hv h (us:=fun i => cur[0 * bZ P e + i]?) (fun i x hi => h5 0 i xs x rfl hi) i y hi
end
variable {α:Type} {enc:α → List PV}
theorem aj.Bo (n:Nat) {e:TypeId} {xs:List α} (hU:∀ b,C.U0 b → ∃ k ∈ C.pn,(C.g0 k).has b) (hn:C.pn.elem n = false) (ho:lk m n = some (.fA e (xs.map enc)))
  (h1:KO n (xs.map enc) σ σ') (h2:KN n (xs.map enc) m m'):aj P C σ m σ' m':=fun R B g a w hs => by
 obtain ⟨R',B',g',had,hs',hv⟩:=hs.freeze ho (fun h => by rw [List.elem_eq_true_of_mem h] at hn; cases hn) hU
 refine ⟨R',B',g',{ hs' with sl:=fun t v hl => ?_,ob:=fun k o hl => ?_,ow:=fun k o b hl hg => ?_ }⟩
 ·obtain ⟨x,h3,h4⟩:=h1.get t v hl
  exact h4.ra had hs.wf hv (hs.sl t x h3)
 ·obtain ⟨hk,x,h3,h4⟩:=h2.get k o hl
  exact h4.ro had hs.wf hv hk (hs.ob k x h3)
 ·obtain ⟨hk,x,h3,h4⟩:=h2.get k o hl
  rw [had.names k (by simpa using hk)] at hg
  exact hs.ow k x b h3 hg
end
end
section
section
variable {P:Program} {w:World} {R B:Nat → Prop} {g:Nat → GS}
variable {o:Oper} {α:Type} {enc:α → List PV}
def rC (s:ByteArray) (i:Int):Option Int:=if 0 ≤ i then (s[i.toNat]?).map fun b => (b.toNat:Int) else none
theorem LT.indexStr {x y:Operand} {t:TypeId} {s:ByteArray} {i n:Int} {k:IntKind} (ho:o.op = .index t x y) (ht:P.underlying t = some .string) (h:rC s i = some n):LT P o [(x,Sv (.string s)),(y,Sv (.int k i))] [] (Sv (.int .u8 n)) [] [] []:=.calm fun R B g w a _ hi _ => by
 unfold rC at h
 by_cases h0:0 ≤ i
 ·rw [if_pos h0] at h
  cases hb:s[i.toNat]? with
  | none => rw [hb] at h; cases h
  | some b =>
   rw [hb] at h
   injection h with h
   subst h
   exact ⟨.int .u8 b.toNat,by simp [execOp,ho,mJ (in1 hi),mJ (in2 hi),Instr.index,asIntOf,run_underlying ht,h0,hb],qx rfl⟩
 ·rw [if_neg h0] at h; cases h
end
end
section
abbrev xF {α:Type} (enc:α → List PV) (l:List α):CV:=.pv (.xs false (l.map enc))
abbrev xT {α:Type} (enc:α → List PV) (l:List α):CV:=.pv (.xs true (l.map enc))
abbrev lo (n len:Nat):CV:=.loc n 0 len
abbrev pR {α:Type} (e:TypeId) (enc:α → List PV) (l:List α):Ob:=.fA e (l.map enc)
section
variable {P:Program} {C:Ctx} {σ:Slots} {m:Mem} {is:List It} {τ υ:Type} {M:Option τ} {K:τ → Post} {ops:Array Oper} {l:List Oper} {done:List Ct} {rest:List Oper} {o:Oper}
theorem On (h:aC P C is σ m M K):aT P C ops [] is σ m M K:=aT.nil h
theorem aU {x:Option υ} {f:υ → Option τ} (h:∀ u,x = some u → aT P C ops rest is σ m (f u) K):aT P C ops rest is σ m (x.bind f) K:=aT.bind h
theorem Ws {x y:Code} (h:aC P C (.code x :: .code y :: is) σ m M K):aC P C (.code (.seq x y) :: is) σ m M K:=aC.seq h
theorem Wr {id:Nat} {l:List Oper} (h:aT P C l.toArray l is σ m M K):aC P C (.code (.region id l.toArray false) :: is) σ m M K:=aC.region h
theorem Ok {j:Nat} {want:Bool} {d:Tmp} {c:Bool} (hg:o.guard = some (j,want)) (h1:(ops[j]?).bind (·.dst) = some d) (h2:lk σ d = some (Bv c)) (h3:(c == want) = false) (hd:gU C.N o.dst = true) (h:aT P C ops rest is (fB σ o.dst (.dW [])) m M K):aT P C ops (o :: rest) is σ m M K :=
 aT.skip (by unfold gX; rw [hg]; exact ⟨d,h1,.inl ⟨c,h2,h3.symm⟩⟩) hd h
theorem Oj {j:Nat} {want:Bool} {d:Tmp} (hg:o.guard = some (j,want)) (h1:(ops[j]?).bind (·.dst) = some d) (h2:lk σ d = some (.dW [])) (hd:gU C.N o.dst = true) (h:aT P C ops rest is (fB σ o.dst (.dW [])) m M K):aT P C ops (o :: rest) is σ m M K :=
 aT.skip (by unfold gX; rw [hg]; exact ⟨d,h1,.inr ⟨h2,rfl⟩⟩) hd h
theorem uX   {v:AV} (hlt:LT P o [] [] v [] [] [])   (hg:gX ops σ o true) (hd:gU C.N o.dst = true) (h:aT P C ops rest is (fB σ o.dst v) m M K):aT P C ops (o :: rest) is σ m M K:=aT.pure hlt trivial trivial hg hd h
theorem ny   {v:AV} {df:Mem} {W X:List Nat} (hlt:LT P o [] [] v df W X)   (hg:gX ops σ o true) (hs:(gU C.N o.dst && fF W (X ++ keys df) && fF W (keys ([]:Mem)) && fF (keys df) (X ++ W) && mY X C.pn) = true) (h:aT P C ops rest is (fB (lK X σ) o.dst v) (df ++ jV X m) M K):aT P C ops (o :: rest) is σ m M K:=aT.step hlt trivial trivial hg hs h
theorem zW   {v:AV} {df:Mem} {W X:List Nat} (hlt:LT P o [] [] v df W X)   (hg:gX l.toArray σ o true) (hs:(gU C.N o.dst && fF W (X ++ keys df) && fF W (keys ([]:Mem)) && fF (keys df) (X ++ W) && mY X C.pn) = true) (h:aN P C l (⟨[],[],v,df,W,X,true⟩ :: done) rest is (fB (lK X σ) o.dst v) (df ++ jV X m) M K):aN P C l done (o :: rest) is σ m M K:=aN.step hlt trivial trivial hg hs h
theorem au {x0:Operand} {v0:AV}  {v:AV} (hlt:LT P o [(x0,v0)] [] v [] [] []) (e0:fQ σ x0 v0)  (hg:gX ops σ o true) (hd:gU C.N o.dst = true) (h:aT P C ops rest is (fB σ o.dst v) m M K):aT P C ops (o :: rest) is σ m M K:=aT.pure hlt ⟨e0,trivial⟩ trivial hg hd h
theorem oC {x0:Operand} {v0:AV}  {v:AV} {df:Mem} {W X:List Nat} (hlt:LT P o [(x0,v0)] [] v df W X) (e0:fQ σ x0 v0)  (hg:gX ops σ o true) (hs:(gU C.N o.dst && fF W (X ++ keys df) && fF W (keys ([]:Mem)) && fF (keys df) (X ++ W) && mY X C.pn) = true) (h:aT P C ops rest is (fB (lK X σ) o.dst v) (df ++ jV X m) M K):aT P C ops (o :: rest) is σ m M K:=aT.step hlt ⟨e0,trivial⟩ trivial hg hs h
theorem bH {x0:Operand} {v0:AV}  {v:AV} (hlt:LT P o [(x0,v0)] [] v [] [] []) (e0:fQ σ x0 v0)  (hg:gX l.toArray σ o true) (hd:gU C.N o.dst = true) (h:aN P C l (⟨[(x0,v0)],[],v,[],[],[],true⟩ :: done) rest is (fB σ o.dst v) m M K):aN P C l done (o :: rest) is σ m M K:=aN.pure hlt ⟨e0,trivial⟩ trivial hg hd h
theorem Dw {x0:Operand} {v0:AV}  {v:AV} {df:Mem} {W X:List Nat} (hlt:LT P o [(x0,v0)] [] v df W X) (e0:fQ σ x0 v0)  (hg:gX l.toArray σ o true) (hs:(gU C.N o.dst && fF W (X ++ keys df) && fF W (keys ([]:Mem)) && fF (keys df) (X ++ W) && mY X C.pn) = true) (h:aN P C l (⟨[(x0,v0)],[],v,df,W,X,true⟩ :: done) rest is (fB (lK X σ) o.dst v) (df ++ jV X m) M K):aN P C l done (o :: rest) is σ m M K:=aN.step hlt ⟨e0,trivial⟩ trivial hg hs h
theorem cZ {x0:Operand} {v0:AV} {n0:Nat} {o0:Ob} {v:AV} (hlt:LT P o [(x0,v0)] [(n0,o0)] v [] [] []) (e0:fQ σ x0 v0) (l0:lk m n0 = some o0) (hg:gX ops σ o true) (hd:gU C.N o.dst = true) (h:aT P C ops rest is (fB σ o.dst v) m M K):aT P C ops (o :: rest) is σ m M K:=aT.pure hlt ⟨e0,trivial⟩ ⟨l0,trivial⟩ hg hd h
theorem bV {x0:Operand} {v0:AV} {n0:Nat} {o0:Ob} {v:AV} (hlt:LT P o [(x0,v0)] [(n0,o0)] v [] [] []) (e0:fQ σ x0 v0) (l0:lk m n0 = some o0) (hg:gX l.toArray σ o true) (hd:gU C.N o.dst = true) (h:aN P C l (⟨[(x0,v0)],[(n0,o0)],v,[],[],[],true⟩ :: done) rest is (fB σ o.dst v) m M K):aN P C l done (o :: rest) is σ m M K:=aN.pure hlt ⟨e0,trivial⟩ ⟨l0,trivial⟩ hg hd h
theorem dU {x0:Operand} {v0:AV} {x1:Operand} {v1:AV}  {v:AV} (hlt:LT P o [(x0,v0),(x1,v1)] [] v [] [] []) (e0:fQ σ x0 v0) (e1:fQ σ x1 v1)  (hg:gX ops σ o true) (hd:gU C.N o.dst = true) (h:aT P C ops rest is (fB σ o.dst v) m M K):aT P C ops (o :: rest) is σ m M K:=aT.pure hlt ⟨e0,e1,trivial⟩ trivial hg hd h
theorem YX {x0:Operand} {v0:AV} {x1:Operand} {v1:AV}  {v:AV} {df:Mem} {W X:List Nat} (hlt:LT P o [(x0,v0),(x1,v1)] [] v df W X) (e0:fQ σ x0 v0) (e1:fQ σ x1 v1)  (hg:gX ops σ o true) (hs:(gU C.N o.dst && fF W (X ++ keys df) && fF W (keys ([]:Mem)) && fF (keys df) (X ++ W) && mY X C.pn) = true) (h:aT P C ops rest is (fB (lK X σ) o.dst v) (df ++ jV X m) M K):aT P C ops (o :: rest) is σ m M K:=aT.step hlt ⟨e0,e1,trivial⟩ trivial hg hs h
theorem bQ {x0:Operand} {v0:AV} {x1:Operand} {v1:AV}  {v:AV} (hlt:LT P o [(x0,v0),(x1,v1)] [] v [] [] []) (e0:fQ σ x0 v0) (e1:fQ σ x1 v1)  (hg:gX l.toArray σ o true) (hd:gU C.N o.dst = true) (h:aN P C l (⟨[(x0,v0),(x1,v1)],[],v,[],[],[],true⟩ :: done) rest is (fB σ o.dst v) m M K):aN P C l done (o :: rest) is σ m M K:=aN.pure hlt ⟨e0,e1,trivial⟩ trivial hg hd h
theorem lS {x0:Operand} {v0:AV} {x1:Operand} {v1:AV} {n0:Nat} {o0:Ob} {v:AV} (hlt:LT P o [(x0,v0),(x1,v1)] [(n0,o0)] v [] [] []) (e0:fQ σ x0 v0) (e1:fQ σ x1 v1) (l0:lk m n0 = some o0) (hg:gX ops σ o true) (hd:gU C.N o.dst = true) (h:aT P C ops rest is (fB σ o.dst v) m M K):aT P C ops (o :: rest) is σ m M K:=aT.pure hlt ⟨e0,e1,trivial⟩ ⟨l0,trivial⟩ hg hd h
theorem dA {x0:Operand} {v0:AV} {x1:Operand} {v1:AV} {n0:Nat} {o0:Ob} {v:AV} {df:Mem} {W X:List Nat} (hlt:LT P o [(x0,v0),(x1,v1)] [(n0,o0)] v df W X) (e0:fQ σ x0 v0) (e1:fQ σ x1 v1) (l0:lk m n0 = some o0) (hg:gX ops σ o true) (hs:(gU C.N o.dst && fF W (X ++ keys df) && fF W (keys [(n0,o0)]) && fF (keys df) (X ++ W) && mY X C.pn) = true) (h:aT P C ops rest is (fB (lK X σ) o.dst v) (df ++ jV X m) M K):aT P C ops (o :: rest) is σ m M K:=aT.step hlt ⟨e0,e1,trivial⟩ ⟨l0,trivial⟩ hg hs h
theorem kJ {x0:Operand} {v0:AV} {x1:Operand} {v1:AV} {n0:Nat} {o0:Ob} {v:AV} (hlt:LT P o [(x0,v0),(x1,v1)] [(n0,o0)] v [] [] []) (e0:fQ σ x0 v0) (e1:fQ σ x1 v1) (l0:lk m n0 = some o0) (hg:gX l.toArray σ o true) (hd:gU C.N o.dst = true) (h:aN P C l (⟨[(x0,v0),(x1,v1)],[(n0,o0)],v,[],[],[],true⟩ :: done) rest is (fB σ o.dst v) m M K):aN P C l done (o :: rest) is σ m M K:=aN.pure hlt ⟨e0,e1,trivial⟩ ⟨l0,trivial⟩ hg hd h
theorem iY {x0:Operand} {v0:AV} {x1:Operand} {v1:AV} {n0:Nat} {o0:Ob} {v:AV} {df:Mem} {W X:List Nat} (hlt:LT P o [(x0,v0),(x1,v1)] [(n0,o0)] v df W X) (e0:fQ σ x0 v0) (e1:fQ σ x1 v1) (l0:lk m n0 = some o0) (hg:gX l.toArray σ o true) (hs:(gU C.N o.dst && fF W (X ++ keys df) && fF W (keys [(n0,o0)]) && fF (keys df) (X ++ W) && mY X C.pn) = true) (h:aN P C l (⟨[(x0,v0),(x1,v1)],[(n0,o0)],v,df,W,X,true⟩ :: done) rest is (fB (lK X σ) o.dst v) (df ++ jV X m) M K):aN P C l done (o :: rest) is σ m M K:=aN.step hlt ⟨e0,e1,trivial⟩ ⟨l0,trivial⟩ hg hs h
theorem oW {x0:Operand} {v0:AV} {x1:Operand} {v1:AV} {n0:Nat} {o0:Ob} {n1:Nat} {o1:Ob} {v:AV} {df:Mem} {W X:List Nat} (hlt:LT P o [(x0,v0),(x1,v1)] [(n0,o0),(n1,o1)] v df W X) (e0:fQ σ x0 v0) (e1:fQ σ x1 v1) (l0:lk m n0 = some o0) (l1:lk m n1 = some o1) (hg:gX ops σ o true) (hs:(gU C.N o.dst && fF W (X ++ keys df) && fF W (keys [(n0,o0),(n1,o1)]) && fF (keys df) (X ++ W) && mY X C.pn) = true) (h:aT P C ops rest is (fB (lK X σ) o.dst v) (df ++ jV X m) M K):aT P C ops (o :: rest) is σ m M K:=aT.step hlt ⟨e0,e1,trivial⟩ ⟨l0,l1,trivial⟩ hg hs h
theorem KI {x0:Operand} {v0:AV} {x1:Operand} {v1:AV} {n0:Nat} {o0:Ob} {n1:Nat} {o1:Ob} {v:AV} {df:Mem} {W X:List Nat} (hlt:LT P o [(x0,v0),(x1,v1)] [(n0,o0),(n1,o1)] v df W X) (e0:fQ σ x0 v0) (e1:fQ σ x1 v1) (l0:lk m n0 = some o0) (l1:lk m n1 = some o1) (hg:gX l.toArray σ o true) (hs:(gU C.N o.dst && fF W (X ++ keys df) && fF W (keys [(n0,o0),(n1,o1)]) && fF (keys df) (X ++ W) && mY X C.pn) = true) (h:aN P C l (⟨[(x0,v0),(x1,v1)],[(n0,o0),(n1,o1)],v,df,W,X,true⟩ :: done) rest is (fB (lK X σ) o.dst v) (df ++ jV X m) M K):aN P C l done (o :: rest) is σ m M K:=aN.step hlt ⟨e0,e1,trivial⟩ ⟨l0,l1,trivial⟩ hg hs h
theorem YW {x0:Operand} {v0:AV} {x1:Operand} {v1:AV} {x2:Operand} {v2:AV}  {v:AV} (hlt:LT P o [(x0,v0),(x1,v1),(x2,v2)] [] v [] [] []) (e0:fQ σ x0 v0) (e1:fQ σ x1 v1) (e2:fQ σ x2 v2)  (hg:gX ops σ o true) (hd:gU C.N o.dst = true) (h:aT P C ops rest is (fB σ o.dst v) m M K):aT P C ops (o :: rest) is σ m M K:=aT.pure hlt ⟨e0,e1,e2,trivial⟩ trivial hg hd h
theorem YV {x0:Operand} {v0:AV} {x1:Operand} {v1:AV} {x2:Operand} {v2:AV}  {v:AV} {df:Mem} {W X:List Nat} (hlt:LT P o [(x0,v0),(x1,v1),(x2,v2)] [] v df W X) (e0:fQ σ x0 v0) (e1:fQ σ x1 v1) (e2:fQ σ x2 v2)  (hg:gX l.toArray σ o true) (hs:(gU C.N o.dst && fF W (X ++ keys df) && fF W (keys ([]:Mem)) && fF (keys df) (X ++ W) && mY X C.pn) = true) (h:aN P C l (⟨[(x0,v0),(x1,v1),(x2,v2)],[],v,df,W,X,true⟩ :: done) rest is (fB (lK X σ) o.dst v) (df ++ jV X m) M K):aN P C l done (o :: rest) is σ m M K:=aN.step hlt ⟨e0,e1,e2,trivial⟩ trivial hg hs h
theorem mv (v:AV) {x:Operand} (ho:o.op = .move x) (e:fQ σ x v) (hg:gX ops σ o true) (hd:gU C.N o.dst = true) (h:aT P C ops rest is (fB σ o.dst v) m M K):aT P C ops (o :: rest) is σ m M K:=aT.pure (LT.move ho) ⟨e,trivial⟩ trivial hg hd h
theorem asg (v:AV) {x:Operand} (ho:o.op = .assign x) (e:fQ σ x v) (hg:gX ops σ o true) (hd:gU C.N o.dst = true) (h:aT P C ops rest is (fB σ o.dst v) m M K):aT P C ops (o :: rest) is σ m M K:=aT.pure (LT.assign ho) ⟨e,trivial⟩ trivial hg hd h
theorem en (σ':Slots) (m':Mem) (h1:zf σ' σ) (h2:zZ m' m) (k:aC P C is σ' m' M K):aC P C is σ m M K:=aC.ent (aj.of h1 h2) k
end
end
section
section
variable {P:Program} {o:Oper} {t t':TypeId} {x y:Operand} {k k':IntKind} {m n:Int}
theorem LT.aCe (ho:o.op = .binOp .sub t x y t'):LT P o [(x,Sv (.int k m)),(y,Sv (.int k n))] [] (Sv (.int k (k.wrap (m - n)))) [] [] []:=.bin ho rfl (by rw [binOp_sub]; rfl)
end
end
section
def alt {α τ:Type} (A:Option α) (f:α → Option τ) (B:Option τ):Option τ:=match A with
 | some a => f a
 | none => B
section
variable {P:Program} {C:Ctx} {σ:Slots} {m:Mem} {is:List It} {τ υ:Type} {K:τ → Post} {ops:Array Oper} {rest:List Oper}
theorem aT.alt {A:Option υ} {f:υ → Option τ} {B:Option τ} (h1:∀ u,A = some u → aT P C ops rest is σ m (f u) K) (h2:aT P C ops rest is σ m B K):aT P C ops rest is σ m (Fw.alt A f B) K:=fun t ht => by
 unfold Fw.alt at ht
 cases hA:A with
 | none => rw [hA] at ht; exact h2 t ht
 | some u => rw [hA] at ht; exact h1 u hA t ht
end
end
section
section
variable {P:Program} {C:Ctx} {σ:Slots} {mm:Mem} {α β γ:Type} {enc1:α → List PV} {enc2:β → List PV} {o:Oper}
theorem aj.lW {n p q:Nat} {e:TypeId} {fs:List (Int × Nat × Nat)} {cells:List (List CV)} (hc:cells = oZ p q fs) (h:lk mm n = some (.row e cells)):aj P C σ mm σ ((n,.lW e p q fs) :: mm):=fun R B g a w hs => by
 subst hc
 have h0:RO P w R B g n (.row e (oZ p q fs)):=hs.ob n _ h
 exact ⟨R,B,g,hs.obj h (show RO P w R B g n (.lW e p q fs) from h0)⟩
end
end
section
def kG (a b:ByteArray):Option ByteArray:=if a.size + b.size ≤ 9223372036854775807 then some (a ++ b) else none
theorem aJU {a b c:ByteArray} (h:kG a b = some c):a.size + b.size ≤ 9223372036854775807 ∧ a ++ b = c:=by
 unfold kG at h
 split at h
 ·injection h with h; exact ⟨by assumption,h⟩
 ·cases h
def nN (s:ByteArray) (l h:Int):Option ByteArray:=if 0 ≤ l ∧ l ≤ h ∧ h ≤ (s.size:Int) then some (s.extract l.toNat h.toNat) else none
theorem aJj {s r:ByteArray} {l h:Int} (e:nN s l h = some r):(0 ≤ l ∧ l ≤ h ∧ h ≤ (s.size:Int)) ∧ s.extract l.toNat h.toNat = r:=by
 unfold nN at e
 split at e
 ·injection e with e; exact ⟨by assumption,e⟩
 ·cases e
def yQ (l:List Int):ByteArray:=l.foldl (fun r n => r.push (UInt8.ofNat n.toNat)) ByteArray.empty
section
variable {P:Program} {o:Oper}
theorem LT.lT {t t':TypeId} {x y:Operand} {a b c:ByteArray} (ho:o.op = .binOp .add t x y t') (h:kG a b = some c):LT P o [(x,Sv (.string a)),(y,Sv (.string b))] [] (Sv (.string c)) [] [] []:=.calm fun R B g w z _ hi _ => by
 obtain ⟨h1,rfl⟩:=aJU h
 have:=run_string_add_sum (P:=P) (w:=w) a b h1
 refine ⟨.string (a ++ b),?_,qx rfl⟩
 simp [execOp,ho,mJ (in1 hi),mJ (in2 hi),binOp,this,eqGuard]
theorem aJQ {lo hi:Option Value} {len l h:Nat} (hlo:lo = some (.int .i64 (l:Int)) ∨ (lo = none ∧ l = 0)) (hhi:hi = some (.int .i64 (h:Int)) ∨ (hi = none ∧ h = len)) (h1:l ≤ h) (h2:h ≤ len) (w:World) :
  (Instr.sliceBounds false len len lo hi none).run P w = .ok (l,h,len) w:=by
 have e1:(Instr.sliceBound (.int .i64 (h:Int)) len .sliceAlen).run P w = .ok h w:=by
  have:(0:Int) ≤ (h:Int) ∧ (h:Int) ≤ (len:Int):=by omega
  simp [Instr.sliceBound,asIntOf,this]
 have e2:(Instr.sliceBound (.int .i64 (l:Int)) h .sliceB).run P w = .ok l w:=by
  have:(0:Int) ≤ (l:Int) ∧ (l:Int) ≤ (h:Int):=by omega
  simp [Instr.sliceBound,asIntOf,this]
 rcases hlo with rfl | ⟨rfl,rfl⟩ <;> rcases hhi with rfl | ⟨rfl,rfl⟩ <;> simp [Instr.sliceBounds,e1,e2,Result.andThen]
theorem LT.xP {x:Operand} {t:TypeId} {lo hi:Option Operand} {kU kT:Option (Operand × Int)} {s r:ByteArray} {l h:Int} (ho:o.op = .slice t x lo hi none) (hlo:lo = kU.map (·.1)) (hhi:hi = kT.map (·.1)) (ht:P.underlying t = some .string)
  (el:(kU.map fun q => q.2) = some l ∨ (kU = none ∧ l = 0)) (eh:(kT.map fun q => q.2) = some h ∨ (kT = none ∧ h = (s.size:Int))) (e:nN s l h = some r) :
  LT P o ((x,Sv (.string s)) :: (EC kU ++ EC kT)) [] (Sv (.string r)) [] [] []:=.calm fun R B g w a hw hi3 _ => by
 obtain ⟨⟨q0,q1,q2⟩,rfl⟩:=aJj e
 have e1:lo.map a.eval = kU.map fun q => Value.int .i64 q.2:=QB hlo fun p hp => hi3 p (List.mem_cons_of_mem _ (List.mem_append_left _ hp))
 have e2:hi.map a.eval = kT.map fun q => Value.int .i64 q.2:=QB hhi fun p hp => hi3 p (List.mem_cons_of_mem _ (List.mem_append_right _ hp))
 have el2:lo.map a.eval = some (.int .i64 (l.toNat:Int)) ∨ (lo.map a.eval = none ∧ l.toNat = 0):=by
  rw [e1]
  rcases el with h | ⟨rfl,rfl⟩
  ·cases kU with
   | none => cases h
   | some q =>
    injection h with h
    left
    show some (Value.int .i64 q.2) = _
    rw [show q.2 = l from h,Int.toNat_of_nonneg q0]
  ·exact .inr ⟨rfl,rfl⟩
 have Qb:hi.map a.eval = some (.int .i64 (h.toNat:Int)) ∨ (hi.map a.eval = none ∧ h.toNat = s.size):=by
  rw [e2]
  rcases eh with h | ⟨rfl,rfl⟩
  ·cases kT with
   | none => cases h
   | some q =>
    injection h with h
    left
    show some (Value.int .i64 q.2) = _
    rw [show q.2 = _ from h,Int.toNat_of_nonneg (by omega)]
  ·exact .inr ⟨rfl,by omega⟩
 have hb:=aJQ (P:=P) el2 Qb (by omega) (by omega) w
 refine ⟨.string (s.extract l.toNat h.toNat),?_,qx rfl⟩
 have hs:(Instr.sliceAt t (.string s) (lo.map a.eval) (hi.map a.eval) none).run P w = .ok (.string (s.extract l.toNat h.toNat)) w:=by
  simp [Instr.sliceAt,Instr.slice,run_underlying ht,hb,Result.andThen]
 simp only [execOp,ho,mJ (in1 hi3),Sem.run_bind,Option.map_none,hs,Result.andThen_ok,Sem.run_pure]
theorem aJO {w:World} {R B:Nat → Prop} {s d e:TypeId} {q:Bool} {l:List Int} {v:Value} (hs:P.underlying s = some (.slice e)) (he:P.underlying e = some (.int .u8)) (hd:P.underlying d = some .string)
  (hv:jH w R B (.xs q (l.map fun n => [.sc (.int .u8 n)])) v):(convert s d v).run P w = .ok (.string (yQ l)) w:=by
 generalize hE:(l.map fun n => [PV.sc (.int .u8 n)]) = E at hv
 cases hv with
 | @emp _ A c =>
  have hl:l = []:=by cases l with
   | nil => rfl
   | cons a l => cases hE
  subst hl
  rw [run_convert_bytes_string w s d e A 0 c hs he hd]
  cases A with
  | none => simp [Conv.bytesToString]; rfl
  | some A => exact run_bytesToString w A 0 c [] (by simp [loadCells,loadCellsFrom])
 | @xs _ _ A c sz n val hn hb hc hs2 hcell hr =>
  subst hE
  subst hn
  rw [run_convert_bytes_string w s d e (some A) _ c hs he hd,List.length_map]
  refine run_bytesToString w A _ c l ?_
  have:=run_loadCells_list (P:=P) w A (l.map (Value.int .u8)) (fun j v hj => by
   rw [List.getElem?_map] at hj
   cases hx:l[j]? with
   | none => rw [hx] at hj; cases hj
   | some n =>
    rw [hx] at hj
    injection hj with hj
    subst hj
    have hg:(l.map fun n => [PV.sc (.int .u8 n)])[j]? = some [PV.sc (.int .u8 n)]:=by rw [List.getElem?_map,hx]; rfl
    have h1:=hcell j 0 _ _ hg rfl
    have h2:=hr j 0 _ _ hg rfl
    have hsz:sz = 1:=by have:=hs2 _ (List.mem_of_getElem? hg); simpa using this.symm
    subst hsz
    rw [Nat.mul_one,Nat.add_zero] at h1
    rw [h1]
    generalize val j 0 = u at h2
    cases h2
    rfl)
  rw [List.length_map] at this
  exact this
theorem LT.Ko {x:Operand} {s d e e':TypeId} {n len:Nat} {l:List Int} (hl:len = l.length) (ho:o.op = .convert s d x) (hs:P.underlying s = some (.slice e)) (he:P.underlying e = some (.int .u8)) (hd:P.underlying d = some .string) :
  LT P o [(x,Cc (.loc n 0 len))] [(n,.fA e' (l.map fun n => [.sc (.int .u8 n)]))] (Sv (.string (yQ l))) [] [] []:=.calm fun R B g w a hw hi hu => by
 subst hl
 have h0:RC P w R B g (.loc n 0 (l.map fun n => [PV.sc (.int .u8 n)]).length) (a.eval x):=by rw [List.length_map]; exact in1 hi
 have hv:=(pY.rc (sh:=[(n,.fA e' (l.map fun n => [.sc (.int .u8 n)]))]) hw hu (.loc (e:=e') (by show (bif Nat.beq n n then _ else _) = _; rw [Nat.beq_refl]; rfl)) h0).2
 exact ⟨.string (yQ l),by simp [execOp,ho,aJO hs he hd hv],qx rfl⟩
end
end
end Go.Fw
end
section
open Go Go.Fw
namespace Go.Proofs.Ytdmlaldifbmkpaa
structure aV where
  mk ::
  A:Int
  B:Int
structure bM where
  mk ::
  aF:Int
  aA:(List aV)
structure bG where
  mk ::
  X:Int
  Y:Int
structure aW where
  mk ::
  Graph:bM
  Places:(List bG)
structure dJ where
  mk ::
  b:(List Int)
  i:Int
  h:Int
structure lg where
  mk ::
  Free:(List Int)
  nR:(List Int)
  lZ:(List Int)
def bn (a:Int):List PV:=[.sc (.int .u8 a)]
theorem oh (a:Int):vC (bn a):=⟨.sc, trivial⟩
theorem aI6 (a:Int):yc (bn a) (bn a):=⟨.sc, trivial⟩
def aK (a:aV):List PV:=[.sc (.int .i64 a.A), .sc (.int .i64 a.B)]
theorem iP (a:aV):vC (aK a):=⟨.sc, .sc, trivial⟩
def aJ (a:bG):List PV:=[.sc (.int .i64 a.X), .sc (.int .i64 a.Y)]
theorem jo (a:bG):vC (aJ a):=⟨.sc, .sc, trivial⟩
theorem jA (a:bG):yc (aJ a) (aJ a):=⟨.sc, .sc, trivial⟩
def aQ (a:Int):List PV:=[.sc (.int .i64 a)]
theorem rY (a:Int):vC (aQ a):=⟨.sc, trivial⟩
theorem XY (a:Int):yc (aQ a) (aQ a):=⟨.sc, trivial⟩
def iR (q:Bool) (a:(List Int)):List PV:=[.xs q (a.map aQ)]
theorem aBv (a:(List Int)):vC (iR true a):=⟨aIx rY _, trivial⟩
theorem aI7 (a:(List Int)):yc (iR true a) (iR false a):=⟨QW.iL XY (fun h => by cases h) _, trivial⟩
def encStr (a:ByteArray):List PV:=[.sc (.string a)]
theorem aBw (a:ByteArray):vC (encStr a):=⟨.sc, trivial⟩
theorem aI8 (a:ByteArray):yc (encStr a) (encStr a):=⟨.sc, trivial⟩
def Rt (code:List Int):Option Bool:=some (decide (1048576 < (code.length:Int)))
def FM (code:List Int) (s1:Int × Int):Option ((Int × Int) ⊕ Int):=((bif decide (s1.2 < (code.length:Int)) then some (decide (s1.2 < 4000)) else some false):Option Bool).bind fun j14 => bif j14 then (idx code s1.2).bind (fun x17 => some (.inl ((bits .and .i64 (aB ((aB ((aB (s1.1 * 131)) + (aB x17))) + 7)) 1073741823),(aB (s1.2 + 1))))) else some (.inr s1.1)
def zG (code:List Int):Option dJ:=(bW (FM code) BIG ((aB (10101 + (code.length:Int))),0)).bind fun b12 => some (dJ.mk code 0 b12)
def yL (c:dJ):Option (Int × dJ):=((bif decide (c.i < (c.b.length:Int)) then (idx c.b c.i).bind (fun x5 => some ((bits .and .i64 (aB ((bits .and .i64 (bits .xor .i64 (qy (aB ((aB (c.h * 6364136223846793005)) + 1442695040888963407)) 33) (qy (aB ((aB (c.h * 6364136223846793005)) + 1442695040888963407)) 45)) 255) + (aB x5))) 255),(aB (c.i + 1)))) else some ((bits .and .i64 (bits .xor .i64 (qy (aB ((aB (c.h * 6364136223846793005)) + 1442695040888963407)) 33) (qy (aB ((aB (c.h * 6364136223846793005)) + 1442695040888963407)) 45)) 255),c.i)):Option (Int × Int)).bind fun j3 => some (j3.1,(dJ.mk c.b j3.2 (aB ((aB (c.h * 6364136223846793005)) + 1442695040888963407))))
def lM (c:dJ) (n:Int):Option (Int × dJ):=bif decide (n ≤ 0) then some (0,c) else bif decide (n ≤ 256) then (yL c).bind (fun r3 =>(nz n).bind fun u4 => some ((Int.tmod r3.1 n),r3.2)) else (yL c).bind fun r5 =>(yL r5.2).bind fun r6 =>(yL r6.2).bind fun r7 =>(yL r7.2).bind fun r8 =>(nz n).bind fun u9 => some ((Int.tmod (aB ((aB ((aB ((aB (r5.1 * 16777216)) + (aB (r6.1 * 65536)))) + (aB (r7.1 * 256)))) + r8.1)) n),r8.2)
def JV (n:Int) (odd:Int) (s1:Int × (List Int) × Int × Int × (List aV)) (ja:Int × (List Int) × Int × Int × (List aV)):Option ((Int × (List Int) × Int × Int × (List aV)) ⊕ (Int × (List Int) × Int × Int × (List aV))):=bif decide (ja.1 < n) then ((((lM (dJ.mk ja.2.1 ja.2.2.1 ja.2.2.2.1) 10).bind fun fU => bif decide (fU.1 < odd) then some ((decide ((ja.2.2.2.2.length:Int) < 24)),fU.2.b,fU.2.i,fU.2.h) else some (false,fU.2.b,fU.2.i,fU.2.h)):Option (Bool × (List Int) × Int × Int)).bind fun j81 =>((bif j81.1 then (lim (ja.2.2.2.2.length + [(aV.mk s1.1 ja.1)].length)).bind (fun u88 => some (ja.2.2.2.2 ++ [(aV.mk s1.1 ja.1)])) else some ja.2.2.2.2):Option (List aV)).bind fun j86 => some (.inl ((aB (ja.1 + 1)),j81.2.1,j81.2.2.1,j81.2.2.2,j86))) else some (.inr (s1.1,ja.2.1,ja.2.2.1,ja.2.2.2.1,ja.2.2.2.2))
def N8 (n:Int) (odd:Int) (s1:Int × (List Int) × Int × Int × (List aV)):Option ((Int × (List Int) × Int × Int × (List aV)) ⊕ ((List Int) × Int × Int × (List aV))):=bif decide (s1.1 < n) then ((bW (JV n odd s1) BIG ((aB (s1.1 + 1)),s1.2.1,s1.2.2.1,s1.2.2.2.1,s1.2.2.2.2)).bind fun uY => some (.inl ((aB (uY.1 + 1)),uY.2.1,uY.2.2.1,uY.2.2.2.1,uY.2.2.2.2))) else some (.inr (s1.2.1,s1.2.2.1,s1.2.2.2.1,s1.2.2.2.2))
def N7 (c:dJ) (n:Int) (odd:Int):Option (bM × dJ):=(bW (N8 n odd) BIG (0,c.b,c.i,c.h,([]:List aV))).bind fun iO => some ((bM.mk n iO.2.2.2),(dJ.mk iO.1 iO.2.1 iO.2.2.1))
def Nw (g:bM) (s1:Int × (List Int) × Int × Int × (List bG)):Option ((Int × (List Int) × Int × Int × (List bG)) ⊕ ((List Int) × Int × Int × (List bG))):=bif decide (s1.1 < g.aF) then (lM (dJ.mk s1.2.1 s1.2.2.1 s1.2.2.2.1) 5).bind (fun r12 =>(lM r12.2 5).bind fun r13 =>(lim (s1.2.2.2.2.length + [(bG.mk r12.1 r13.1)].length)).bind fun u14 => some (.inl ((aB (s1.1 + 1)),r13.2.b,r13.2.i,r13.2.h,(s1.2.2.2.2 ++ [(bG.mk r12.1 r13.1)])))) else some (.inr (s1.2.1,s1.2.2.1,s1.2.2.2.1,s1.2.2.2.2))
def JQ (g:bM) (b10:(List Int) × Int × Int × (List bG)) (s15:Int × (List aV)):Option ((Int × (List aV)) ⊕ ((List Int) × Int × Int × (List aV) × (List bG))):=bif decide (s15.1 < (g.aA.length:Int)) then (idx g.aA s15.1).bind (fun x54 =>(((idx b10.2.2.2 x54.A).bind fun GK =>(idx b10.2.2.2 x54.B).bind fun GL => bif !(jM [GK.X,GK.Y] [GL.X,GL.Y]) then (bif s15.1 == 0 then some true else (idx g.aA (aB (s15.1 - 1))).bind fun mQ => some (!(jM [mQ.A,mQ.B] [x54.A,x54.B]))) else some false):Option Bool).bind fun j60 =>((bif j60 then (lim (s15.2.length + [x54].length)).bind (fun u70 => some (s15.2 ++ [x54])) else some s15.2):Option (List aV)).bind fun j68 => some (.inl ((aB (s15.1 + 1)),j68))) else some (.inr (b10.1,b10.2.1,b10.2.2.1,s15.2,b10.2.2.2))
def DC (c:dJ) (g:bM):Option (aW × dJ):=(bW (Nw g) BIG (0,c.b,c.i,c.h,([]:List bG))).bind fun b10 =>(bW (JQ g b10) BIG (0,([]:List aV))).bind fun iO => some ((aW.mk (bM.mk g.aF iO.2.2.2.1) iO.2.2.2.2),(dJ.mk iO.1 iO.2.1 iO.2.2.1))
def FO (a:aV) (b:aV):Option Bool:=((bif decide (a.A < b.A) then some true else bif a.A == b.A then some (decide (a.B ≤ b.B)) else some false):Option Bool).bind fun j3 => some j3
def A7 (g:bM) (x:aV) (s1:Bool × Int × (List aV)):Option ((Bool × Int × (List aV)) ⊕ (Bool × (List aV))):=bif decide (s1.2.1 < (g.aA.length:Int)) then (((bif !s1.1 then (idx g.aA s1.2.1).bind (fun Pn =>(FO Pn x).bind fun sF => some (!sF)) else some false):Option Bool).bind fun j34 =>((bif j34 then (lim (s1.2.2.length + [x].length)).bind (fun u42 => some (true,(s1.2.2 ++ [x]))) else some (s1.1,s1.2.2)):Option (Bool × (List aV))).bind fun j40 =>(idx g.aA s1.2.1).bind fun x43 =>(lim (j40.2.length + [x43].length)).bind fun u44 => some (.inl (j40.1,(aB (s1.2.1 + 1)),(j40.2 ++ [x43])))) else some (.inr (s1.1,s1.2.2))
def yM (g:bM) (x:aV):Option bM:=(bW (A7 g x) BIG (false,0,([]:List aV))).bind fun vg =>((bif !vg.1 then (lim (vg.2.length + [x].length)).bind (fun u49 => some (vg.2 ++ [x])) else some vg.2):Option (List aV)).bind fun j47 => some (bM.mk g.aF j47)
def FN (c:dJ) (n:Int):Option (Bool × dJ):=(lM c n).bind fun r1 => some ((r1.1 == 0),r1.2)
def OB (c:dJ) (n:Int) (x:aV) (other:Int):Option (Int × dJ):=(lM c n).bind fun r1 =>((bif r1.1 == x.A then some true else some (r1.1 == x.B)):Option Bool).bind fun j3 => bif j3 then some (other,r1.2) else some (r1.1,r1.2)
def xH (x:Int) (low:Int) (high:Int):Option Bool:=((bif decide (low ≤ x) then some (decide (x ≤ high)) else some false):Option Bool).bind fun j2 => some j2
def Np (g:bM) (s7:Int):Option (Int ⊕ (Unit ⊕ Bool)):=bif decide (s7 < (g.aA.length:Int)) then (idx g.aA s7).bind (fun gu =>((bif decide (gu.A < 0) then some true else bif decide (gu.B ≤ gu.A) then some true else bif decide (g.aF ≤ gu.B) then some true else bif decide (0 < s7) then (idx g.aA (aB (s7 - 1))).bind (fun x54 =>(FO x54 gu).bind fun yP => some (!yP)) else some false):Option Bool).bind fun j49 => bif j49 then some (.inr (.inr false)) else some (.inl (aB (s7 + 1)))) else some (.inr (.inl ()))
def Cb (g:bM):Option Bool:=(((xH g.aF 1 8).bind fun r4 => bif !r4 then some true else some (decide (24 < (g.aA.length:Int)))):Option Bool).bind fun j3 => bif j3 then some false else (bW (Np g) BIG 0).bind (Sum.elim (fun KR =>(some true)) (fun r => some r))
def DF (g:bM):Option bM:=(lim (([]:List aV).length + g.aA.length)).bind fun u1 => some (bM.mk g.aF (([]:List aV) ++ g.aA))
def Ns (g:bM) (k:Int):Option (bM × Bool):=(((Cb g).bind fun r5 => bif !r5 then some true else bif decide (k < 0) then some true else some (decide ((g.aA.length:Int) ≤ k))):Option Bool).bind fun j4 => bif j4 then (DF g).bind (fun r9 => some (r9,false)) else (slc g.aA 0 k).bind fun v10 =>(lim (([]:List aV).length + ((g.aA.take k.toNat).drop 0).length)).bind fun u11 =>(slc g.aA (aB (k + 1)) (g.aA.length:Int)).bind fun v12 =>(lim ((([]:List aV) ++ ((g.aA.take k.toNat).drop 0)).length + ((g.aA.take g.aA.length).drop ((aB (k + 1)).toNat)).length)).bind fun u13 => some ((bM.mk g.aF ((([]:List aV) ++ ((g.aA.take k.toNat).drop 0)) ++ ((g.aA.take g.aA.length).drop ((aB (k + 1)).toNat)))),true)
def N9 (s3:Int × (List Int) × Int × Int × Int × (List aV)) (oq:Int × dJ) (rE:aV) (vT:Int):Option (Int ⊕ (Int × Int × Int × (List Int) × Int × Int × Int × (List aV) × Int × Int)):=((bif vT == rE.A then some true else some (vT == rE.B)):Option Bool).bind fun RN => bif RN then some (.inl (aB (vT + 1))) else some (.inr (s3.1,oq.1,vT,oq.2.b,oq.2.i,oq.2.h,s3.2.2.2.2.1,s3.2.2.2.2.2,rE.A,rE.B))
def JX (n:Int) (s3:Int × (List Int) × Int × Int × Int × (List aV)):Option ((Int × (List Int) × Int × Int × Int × (List aV)) ⊕ ((List Int) × Int × Int × Int × (List aV))):=bif decide (s3.1 < n) then (lM (dJ.mk s3.2.1 s3.2.2.1 s3.2.2.2.1) s3.1).bind (fun qR =>(lM qR.2 (aB (s3.1 - 1))).bind fun wQ =>(nz s3.1).bind fun aKB =>(((FN wQ.2 2).bind fun zL => bif zL.1 then some ((decide (2 < s3.1)),zL.2.b,zL.2.i,zL.2.h) else some (false,zL.2.b,zL.2.i,zL.2.h)):Option (Bool × (List Int) × Int × Int)).bind fun j110 =>((bif j110.1 then (lM (dJ.mk j110.2.1 j110.2.2.1 j110.2.2.2) (s3.2.2.2.2.2.length:Int)).bind (fun oq =>(idx s3.2.2.2.2.2 oq.1).bind fun rE =>(bW (N9 s3 oq rE) BIG 0).bind fun eY =>(OB (dJ.mk eY.2.2.2.1 eY.2.2.2.2.1 eY.2.2.2.2.2.1) eY.1 (aV.mk eY.2.2.2.2.2.2.2.2.1 eY.2.2.2.2.2.2.2.2.2) eY.2.2.1).bind fun ru =>(Ns (bM.mk eY.2.2.2.2.2.2.1 eY.2.2.2.2.2.2.2.1) eY.2.1).bind fun nX =>(yM nX.1 (aV.mk eY.2.2.2.2.2.2.2.2.1 eY.1)).bind fun Fe =>(yM Fe (aV.mk eY.2.2.2.2.2.2.2.2.2 eY.1)).bind fun Fg =>(yM Fg (aV.mk ru.1 eY.1)).bind fun xM => some (eY.1,ru.2.b,ru.2.i,ru.2.h,xM.aF,xM.aA)) else (yM (bM.mk s3.2.2.2.2.1 s3.2.2.2.2.2) (aV.mk qR.1 s3.1)).bind fun wR =>(yM wR (aV.mk (Int.tmod (aB ((aB (qR.1 + 1)) + wQ.1)) s3.1) s3.1)).bind fun BA => some (s3.1,j110.2.1,j110.2.2.1,j110.2.2.2,BA.aF,BA.aA)):Option (Int × (List Int) × Int × Int × Int × (List aV))).bind fun j133 => some (.inl ((aB (j133.1 + 1)),j133.2.1,j133.2.2.1,j133.2.2.2.1,j133.2.2.2.2.1,j133.2.2.2.2.2))) else some (.inr (s3.2.1,s3.2.2.1,s3.2.2.2.1,s3.2.2.2.2.1,s3.2.2.2.2.2))
def JW (c:dJ) (n:Int):Option (bM × dJ):=bif decide (n < 2) then some ((bM.mk n ([]:List aV)),c) else (yM (bM.mk n ([]:List aV)) (aV.mk 0 1)).bind fun r2 =>(bW (JX n) BIG (2,c.b,c.i,c.h,r2.aF,r2.aA)).bind fun mW => some ((bM.mk mW.2.2.2.1 mW.2.2.2.2),(dJ.mk mW.1 mW.2.1 mW.2.2.1))
def NW (g:bM) (a:Int) (b:Int):Option (bM × Bool):=(((Cb g).bind fun r9 => bif !r9 then some true else bif decide (a < 0) then some true else bif decide (b < 0) then some true else bif decide (g.aF ≤ a) then some true else bif decide (g.aF ≤ b) then some true else bif a == b then some true else some (decide (24 ≤ (g.aA.length:Int)))):Option Bool).bind fun j8 => bif j8 then (DF g).bind (fun kL => some (kL,false)) else (yM g (aV.mk (if b < a then b else a) (if a < b then b else a))).bind fun oP => some (oP,true)
def Nv (c:dJ):Option (aW × dJ):=(lM c 3).bind fun r1 => bif r1.1 == 0 then (lM r1.2 5).bind (fun r3 =>(N7 r3.2 (aB (2 + r3.1)) 7).bind fun r4 =>(DC r4.2 r4.1).bind fun r5 => some (r5.1,r5.2)) else bif r1.1 == 1 then (lM r1.2 4).bind (fun r7 =>(JW r7.2 (aB (2 + r7.1))).bind fun r8 =>(lM r8.2 (aB (2 + r7.1))).bind fun r9 =>(lM r9.2 (aB (2 + r7.1))).bind fun r10 =>(NW r8.1 r9.1 r10.1).bind fun r11 =>(DC r10.2 r11.1).bind fun r12 => some (r12.1,r12.2)) else (lM r1.2 5).bind fun r13 =>(JW r13.2 (aB (2 + r13.1))).bind fun uD =>(DC uD.2 uD.1).bind fun iT => some (iT.1,iT.2)
def JR (c:dJ) (list:List Int):Option (Int × dJ):=(lM c (list.length:Int)).bind fun r1 =>(idx list r1.1).bind fun x2 => some (x2,r1.2)
def yK (c:dJ):Option (aW × dJ):=(Nv c).bind fun r1 =>(lM r1.2 14).bind fun r2 =>((bif r2.1 == 0 then (JR r2.2 ([(-1),5,9]:List Int)).bind (fun r10 =>(idx r1.1.Places 0).bind fun x11 => some (r10.2.b,r10.2.i,r10.2.h,(r1.1.Places.set (Int.toNat 0) (bG.mk r10.1 x11.Y)))) else bif r2.1 == 1 then (slc r1.1.Places 1 (r1.1.Places.length:Int)).bind (fun v13 => some (r2.2.b,r2.2.i,r2.2.h,((r1.1.Places.take r1.1.Places.length).drop (Int.toNat 1)))) else some (r2.2.b,r2.2.i,r2.2.h,r1.1.Places)):Option ((List Int) × Int × Int × (List bG))).bind fun j8 => some ((aW.mk r1.1.Graph j8.2.2.2),(dJ.mk j8.1 j8.2.1 j8.2.2.1))
def Am (x:Int) (IE:Int) (hi:Int):Option Bool:=((bif decide (IE ≤ x) then some (decide (x ≤ hi)) else some false):Option Bool).bind fun j2 => some j2
def Ii (a:Int) (b:Int):Option Int:=bif decide (a < b) then some (-1) else bif decide (b < a) then some 1 else some 0
def Ih (x:aV) (y:aV):Option Int:=(Ii x.A y.A).bind fun r1 => bif r1 != 0 then some r1 else (Ii x.B y.B).bind fun r3 => some r3
def CS (g:bM) (s7:Int):Option (Int ⊕ (Unit ⊕ Bool)):=bif decide (s7 < (g.aA.length:Int)) then (idx g.aA s7).bind (fun gu =>((bif decide (gu.A < 0) then some true else bif decide (gu.B ≤ gu.A) then some true else bif decide (g.aF ≤ gu.B) then some true else bif decide (0 < s7) then (idx g.aA (aB (s7 - 1))).bind (fun x54 =>(Ih x54 gu).bind fun yP => some (decide (0 < yP))) else some false):Option Bool).bind fun j49 => bif j49 then some (.inr (.inr false)) else some (.inl (aB (s7 + 1)))) else some (.inr (.inl ()))
def Et (g:bM):Option Bool:=(((Am g.aF 1 8).bind fun r4 => bif !r4 then some true else some (decide (24 < (g.aA.length:Int)))):Option Bool).bind fun j3 => bif j3 then some false else (bW (CS g) BIG 0).bind (Sum.elim (fun KR =>(some true)) (fun r => some r))
def CX (p:bG):Option Bool:=(((Am p.X 0 4).bind fun r5 => bif r5 then (Am p.Y 0 4).bind (fun r7 => some r7) else some false):Option Bool).bind fun j4 => some j4
def IY (f:aW) (s11:Int):Option (Int ⊕ (Unit ⊕ Bool)):=bif decide (s11 < (f.Places.length:Int)) then (idx f.Places s11).bind (fun uK =>(CX uK).bind fun sD => bif !sD then some (.inr (.inr false)) else some (.inl (aB (s11 + 1)))) else some (.inr (.inl ()))
def IZ (f:aW) (nZ:Int):Option (Int ⊕ (Unit ⊕ Bool)):=bif decide (nZ < (f.Graph.aA.length:Int)) then (idx f.Graph.aA nZ).bind (fun jb =>((bif decide (0 < nZ) then (idx f.Graph.aA (aB (nZ - 1))).bind (fun BR => bif jM [BR.A,BR.B] [jb.A,jb.B] then some true else (idx f.Places jb.A).bind fun GN =>(idx f.Places jb.B).bind fun GR => some (jM [GN.X,GN.Y] [GR.X,GR.Y])) else (idx f.Places jb.A).bind fun GU =>(idx f.Places jb.B).bind fun GV => some (jM [GU.X,GU.Y] [GV.X,GV.Y])):Option Bool).bind fun j72 => bif j72 then some (.inr (.inr false)) else some (.inl (aB (nZ + 1)))) else some (.inr (.inl ()))
def sU (f:aW):Option Bool:=(((Et f.Graph).bind fun r6 => bif !r6 then some true else bif decide (6 < f.Graph.aF) then some true else bif decide (15 < (f.Graph.aA.length:Int)) then some true else some ((f.Places.length:Int) != f.Graph.aF)):Option Bool).bind fun j5 => bif j5 then some false else (bW (IY f) BIG 0).bind (Sum.elim (fun b20 =>(bW (IZ f) BIG 0).bind (Sum.elim (fun wX =>(some true)) (fun r => some r))) (fun r => some r))
def Ie (f:aW) (s3:Int × (List (List Int))):Option ((Int × (List (List Int))) ⊕ (List (List Int))):=bif decide (s3.1 < (f.Graph.aA.length:Int)) then (idx f.Graph.aA s3.1).bind (fun fH =>(H8 (aB (2 * f.Graph.aF))).bind fun u27 =>(idx f.Places fH.A).bind fun x28 =>(idx f.Places fH.B).bind fun x29 =>(idx (List.replicate (aB (2 * f.Graph.aF)).toNat (0:Int)) (aB (2 * fH.A))).bind fun x30 =>(idx ((List.replicate (aB (2 * f.Graph.aF)).toNat (0:Int)).set (aB (2 * fH.A)).toNat (aB (x28.X - x29.X))) (aB ((aB (2 * fH.A)) + 1))).bind fun x31 =>(idx (((List.replicate (aB (2 * f.Graph.aF)).toNat (0:Int)).set (aB (2 * fH.A)).toNat (aB (x28.X - x29.X))).set (aB ((aB (2 * fH.A)) + 1)).toNat (aB (x28.Y - x29.Y))) (aB (2 * fH.B))).bind fun x32 =>(idx ((((List.replicate (aB (2 * f.Graph.aF)).toNat (0:Int)).set (aB (2 * fH.A)).toNat (aB (x28.X - x29.X))).set (aB ((aB (2 * fH.A)) + 1)).toNat (aB (x28.Y - x29.Y))).set (aB (2 * fH.B)).toNat (aB (x29.X - x28.X))) (aB ((aB (2 * fH.B)) + 1))).bind fun UF =>(lim (s3.2.length + 1)).bind fun u34 => some (.inl ((aB (s3.1 + 1)),(s3.2 ++ [(((((List.replicate (aB (2 * f.Graph.aF)).toNat (0:Int)).set (aB (2 * fH.A)).toNat (aB (x28.X - x29.X))).set (aB ((aB (2 * fH.A)) + 1)).toNat (aB (x28.Y - x29.Y))).set (aB (2 * fH.B)).toNat (aB (x29.X - x28.X))).set (aB ((aB (2 * fH.B)) + 1)).toNat (aB (x29.Y - x28.Y)))])))) else some (.inr s3.2)
def NK (f:aW):Option (List (List Int)):=(sU f).bind fun r1 => bif !r1 then some ([]:List (List Int)) else (bW (Ie f) BIG (0,([]:List (List Int)))).bind fun gG => some gG
def Ij (l:List Int):Option (List Int):=(lim (([]:List Int).length + l.length)).bind fun u1 => some (([]:List Int) ++ l)
def Ik (l:List (List Int)) (s1:Int × (List (List Int))):Option ((Int × (List (List Int))) ⊕ (List (List Int))):=bif decide (s1.1 < (l.length:Int)) then (idx l s1.1).bind (fun x12 =>(Ij x12).bind fun r13 =>(lim (s1.2.length + 1)).bind fun u14 => some (.inl ((aB (s1.1 + 1)),(s1.2 ++ [r13])))) else some (.inr s1.2)
def NP (l:List (List Int)):Option (List (List Int)):=(bW (Ik l) BIG (0,([]:List (List Int)))).bind fun b10 => some b10
def Iq (s2:Int × (List (List Int)) × Int × (List Int)) (wU:Int):Option (Int ⊕ (Int × Int × Int × Int × (List (List Int)) × (List Int))):=((bif decide (wU < (s2.2.1.length:Int)) then (idx s2.2.1 wU).bind (fun KF =>(idx KF s2.1).bind fun YP => some (YP == 0)) else some false):Option Bool).bind fun RV => bif RV then some (.inl (aB (wU + 1))) else some (.inr (s2.2.2.1,s2.1,(s2.2.2.2.length:Int),wU,s2.2.1,s2.2.2.2))
def Ir (columns:Int) (dK:Int × Int × Int × Int × Int × Int × (List Int) × (List (List Int))) (sZ:Int) (kQ:Int × (List (List Int))):Option ((Int × (List (List Int))) ⊕ (Int × Int × Int × Int × Int × Int × (List (List Int)) × (List Int))):=bif decide (kQ.1 < columns) then (idx kQ.2 dK.1).bind (fun GH =>(idx kQ.2 dK.1).bind fun aDZ =>(idx aDZ kQ.1).bind fun Dp =>(idx kQ.2 dK.2.2.2.1).bind fun aDa =>(idx aDa kQ.1).bind fun Dq =>(nz dK.2.1).bind fun aKD =>(idx GH kQ.1).bind fun aLA => some (.inl ((aB (kQ.1 + 1)),(kQ.2.set dK.1.toNat (GH.set kQ.1.toNat (aB (Int.tdiv (aB ((aB (dK.2.2.2.2.1 * Dp)) - (aB (sZ * Dq)))) dK.2.1))))))) else some (.inr (dK.2.1,dK.2.2.1,dK.2.2.2.1,dK.2.2.2.2.1,dK.2.2.2.2.2.1,dK.1,kQ.2,dK.2.2.2.2.2.2.1))
def E8 (columns:Int) (dK:Int × Int × Int × Int × Int × Int × (List Int) × (List (List Int))):Option ((Int × Int × Int × Int × Int × Int × (List Int) × (List (List Int))) ⊕ (Int × Int × (List (List Int)) × (List Int))):=bif decide (dK.1 < dK.2.2.2.2.2.1) then (bif dK.1 == dK.2.2.2.1 then some (.inl ((aB (dK.1 + 1)),dK.2.1,dK.2.2.1,dK.2.2.2.1,dK.2.2.2.2.1,dK.2.2.2.2.2.1,dK.2.2.2.2.2.2.1,dK.2.2.2.2.2.2.2)) else (idx dK.2.2.2.2.2.2.2 dK.1).bind fun aDY =>(idx aDY dK.2.2.1).bind fun sZ =>(bW (Ir columns dK sZ) BIG (0,dK.2.2.2.2.2.2.2)).bind fun pz => some (.inl ((aB (pz.2.2.2.2.2.1 + 1)),pz.1,pz.2.1,pz.2.2.1,pz.2.2.2.1,pz.2.2.2.2.1,pz.2.2.2.2.2.2.2,pz.2.2.2.2.2.2.1))) else some (.inr (dK.2.2.1,dK.2.2.2.2.1,dK.2.2.2.2.2.2.2,dK.2.2.2.2.2.2.1))
def CY (columns:Int) (s2:Int × (List (List Int)) × Int × (List Int)):Option ((Int × (List (List Int)) × Int × (List Int)) ⊕ (Int × (List (List Int)) × (List Int))):=((bif decide (s2.1 < columns) then some (decide ((s2.2.2.2.length:Int) < (s2.2.1.length:Int))) else some false):Option Bool).bind fun RQ => bif RQ then ((bW (Iq s2) BIG (s2.2.2.2.length:Int)).bind fun gZ => bif gZ.2.2.2.1 == (gZ.2.2.2.2.1.length:Int) then some (.inl ((aB (gZ.2.1 + 1)),gZ.2.2.2.2.1,gZ.1,gZ.2.2.2.2.2)) else (idx gZ.2.2.2.2.1 gZ.2.2.2.1).bind fun uV =>(idx gZ.2.2.2.2.1 gZ.2.2.1).bind fun F9 =>(idx gZ.2.2.2.2.1 gZ.2.2.1).bind fun Pj =>(idx gZ.2.2.2.2.1 gZ.2.2.2.1).bind fun YQ =>(idx ((gZ.2.2.2.2.1.set gZ.2.2.1.toNat uV).set gZ.2.2.2.1.toNat F9) gZ.2.2.1).bind fun aDW =>(idx aDW gZ.2.1).bind fun YR =>(bW (E8 columns) BIG (0,gZ.1,gZ.2.1,gZ.2.2.1,YR,(gZ.2.2.2.2.1.length:Int),gZ.2.2.2.2.2,((gZ.2.2.2.2.1.set gZ.2.2.1.toNat uV).set gZ.2.2.2.1.toNat F9))).bind fun kS =>(lim (kS.2.2.2.length + ([kS.1]:List Int).length)).bind fun aKE => some (.inl ((aB (kS.1 + 1)),kS.2.2.1,kS.2.1,(kS.2.2.2 ++ ([kS.1]:List Int))))) else some (.inr (s2.2.2.1,s2.2.1,s2.2.2.2))
def NQ (m:List (List Int)) (columns:Int):Option ((List (List Int)) × (List Int) × Int):=(NP m).bind fun r1 =>(bW (CY columns) BIG (0,r1,1,([]:List Int))).bind fun mX => some (mX.2.1,mX.2.2,mX.1)
def JE (f:aW) (s11:Int):Option (Int ⊕ (Unit ⊕ Bool)):=bif decide (s11 < (f.Places.length:Int)) then ((((idx f.Places s11).bind fun jr =>(xH jr.X 0 4).bind fun BD => bif !BD then some true else (idx f.Places s11).bind fun KG =>(xH KG.Y 0 4).bind fun Sz => some (!Sz)):Option Bool).bind fun j45 => bif j45 then some (.inr (.inr false)) else some (.inl (aB (s11 + 1)))) else some (.inr (.inl ()))
def JF (f:aW) (uJ:Int):Option (Int ⊕ (Unit ⊕ Bool)):=bif decide (uJ < (f.Graph.aA.length:Int)) then (idx f.Graph.aA uJ).bind (fun x83 =>(((idx f.Places x83.A).bind fun x90 =>(idx f.Places x83.B).bind fun x91 => bif jM [x90.X,x90.Y] [x91.X,x91.Y] then some true else bif decide (0 < uJ) then (idx f.Graph.aA (aB (uJ - 1))).bind (fun BU => some (jM [BU.A,BU.B] [x83.A,x83.B])) else some false):Option Bool).bind fun j89 => bif j89 then some (.inr (.inr false)) else some (.inl (aB (uJ + 1)))) else some (.inr (.inl ()))
def qm (f:aW):Option Bool:=(((Cb f.Graph).bind fun r6 => bif !r6 then some true else bif decide (6 < f.Graph.aF) then some true else bif (f.Places.length:Int) != f.Graph.aF then some true else some (decide (15 < (f.Graph.aA.length:Int)))):Option Bool).bind fun j5 => bif j5 then some false else (bW (JE f) BIG 0).bind (Sum.elim (fun Ym =>(bW (JF f) BIG 0).bind (Sum.elim (fun Yn =>(some true)) (fun r => some r))) (fun r => some r))
def Cj (f:aW) (s1:Int × (List (List Int))):Option ((Int × (List (List Int))) ⊕ (List (List Int))):=((bif decide (s1.1 < (f.Graph.aA.length:Int)) then (qm f).bind (fun eH => some eH) else some false):Option Bool).bind fun j39 => bif j39 then (idx f.Graph.aA s1.1).bind (fun x43 =>(H8 (aB (2 * f.Graph.aF))).bind fun u44 =>(idx f.Places x43.A).bind fun je =>(idx f.Places x43.B).bind fun jr =>(idx f.Places x43.A).bind fun nH =>(idx f.Places x43.B).bind fun nI =>(idx (List.replicate (aB (2 * f.Graph.aF)).toNat (0:Int)) (aB (2 * x43.A))).bind fun KG =>(idx ((List.replicate (aB (2 * f.Graph.aF)).toNat (0:Int)).set (aB (2 * x43.A)).toNat (aB (je.X - jr.X))) (aB ((aB (2 * x43.A)) + 1))).bind fun Po =>(idx (((List.replicate (aB (2 * f.Graph.aF)).toNat (0:Int)).set (aB (2 * x43.A)).toNat (aB (je.X - jr.X))).set (aB ((aB (2 * x43.A)) + 1)).toNat (aB (nH.Y - nI.Y))) (aB (2 * x43.B))).bind fun x51 =>(idx ((((List.replicate (aB (2 * f.Graph.aF)).toNat (0:Int)).set (aB (2 * x43.A)).toNat (aB (je.X - jr.X))).set (aB ((aB (2 * x43.A)) + 1)).toNat (aB (nH.Y - nI.Y))).set (aB (2 * x43.B)).toNat (aB (-(aB (je.X - jr.X))))) (aB ((aB (2 * x43.B)) + 1))).bind fun x52 =>(lim (s1.2.length + [(((((List.replicate (aB (2 * f.Graph.aF)).toNat (0:Int)).set (aB (2 * x43.A)).toNat (aB (je.X - jr.X))).set (aB ((aB (2 * x43.A)) + 1)).toNat (aB (nH.Y - nI.Y))).set (aB (2 * x43.B)).toNat (aB (-(aB (je.X - jr.X))))).set (aB ((aB (2 * x43.B)) + 1)).toNat (aB (-(aB (nH.Y - nI.Y)))))].length)).bind fun u53 => some (.inl ((aB (s1.1 + 1)),(s1.2 ++ [(((((List.replicate (aB (2 * f.Graph.aF)).toNat (0:Int)).set (aB (2 * x43.A)).toNat (aB (je.X - jr.X))).set (aB ((aB (2 * x43.A)) + 1)).toNat (aB (nH.Y - nI.Y))).set (aB (2 * x43.B)).toNat (aB (-(aB (je.X - jr.X))))).set (aB ((aB (2 * x43.B)) + 1)).toNat (aB (-(aB (nH.Y - nI.Y)))))])))) else some (.inr s1.2)
def Nu (f:aW):Option (List (List Int)):=(bW (Cj f) BIG (0,([]:List (List Int)))).bind fun jT => some jT
def Nl  (s9:Int × Int):Option ((Int × Int) ⊕ Int):=bif decide (0 < s9.2) then (nz s9.2).bind (fun u16 => some (.inl (s9.2,(Int.tmod s9.1 s9.2)))) else some (.inr s9.1)
def JC (a:Int) (b:Int):Option Int:=(((xH a (-9000000000000000000) 9000000000000000000).bind fun r5 => bif !r5 then some true else (xH b (-9000000000000000000) 9000000000000000000).bind fun r7 => some (!r7)):Option Bool).bind fun j4 => bif j4 then some 0 else (bW (Nl) BIG ((if a < (aB (-a)) then (aB (-a)) else a),(if b < (aB (-b)) then (aB (-b)) else b))).bind fun b14 => some b14
def JK (v:List Int) (s1:Int × Int):Option ((Int × Int) ⊕ (Int ⊕ (List Int))):=bif decide (s1.2 < (v.length:Int)) then (idx v s1.2).bind (fun x18 =>(xH x18 (-9000000000000000000) 9000000000000000000).bind fun pV => bif !pV then (lim (([]:List Int).length + v.length)).bind (fun u21 => some (.inr (.inr (([]:List Int) ++ v)))) else (idx v s1.2).bind fun uK =>(JC s1.1 uK).bind fun sD => some (.inl (sD,(aB (s1.2 + 1))))) else some (.inr (.inl s1.1))
def JL (v:List Int) (b16:Int) (s26:Int × Int):Option ((Int × Int) ⊕ (Int × Int)):=bif decide (s26.2 < (v.length:Int)) then (((bif s26.1 == 0 then (idx v s26.2).bind (fun je => some je) else some s26.1):Option Int).bind fun j43 => some (.inl (j43,(aB (s26.2 + 1))))) else some (.inr (b16,s26.1))
def JM (v:List Int) (j47:Int) (s49:Int × (List Int)):Option ((Int × (List Int)) ⊕ (List Int)):=bif decide (s49.1 < (v.length:Int)) then (idx v s49.1).bind (fun Du =>(nz j47).bind fun u61 =>(lim (s49.2.length + ([(aB (Int.tdiv Du j47))]:List Int).length)).bind fun u62 => some (.inl ((aB (s49.1 + 1)),(s49.2 ++ ([(aB (Int.tdiv Du j47))]:List Int))))) else some (.inr s49.2)
def Nr (v:List Int):Option (List Int):=(bW (JK v) BIG (0,0)).bind (Sum.elim (fun b16 => bif b16 == 0 then (lim (([]:List Int).length + v.length)).bind (fun u25 => some (([]:List Int) ++ v)) else (bW (JL v b16) BIG (0,0)).bind fun yt =>((bif decide (yt.2 < 0) then some (aB (-yt.1)) else some yt.1):Option Int).bind fun j47 =>(bW (JM v j47) BIG (0,([]:List Int))).bind fun xg => some xg) (fun r => some r))
def FP (row:List Int):Option (List Int):=(Nr row).bind fun r1 => some r1
def Jc (a:List Int) (row:List Int) (r3:Int) (x4:Int) (x6:Int) (s8:Int × (List Int)):Option ((Int × (List Int)) ⊕ (List Int)):=bif decide (s8.1 < (a.length:Int)) then (idx a s8.1).bind (fun x19 =>(idx row s8.1).bind fun x20 =>(lim (s8.2.length + ([(aB ((aB (x19 * (aB (Int.tdiv x4 r3)))) - (aB (x20 * (aB (Int.tdiv x6 r3))))))]:List Int).length)).bind fun u21 => some (.inl ((aB (s8.1 + 1)),(s8.2 ++ ([(aB ((aB (x19 * (aB (Int.tdiv x4 r3)))) - (aB (x20 * (aB (Int.tdiv x6 r3))))))]:List Int))))) else some (.inr s8.2)
def OE (a:List Int) (row:List Int) (j:Int):Option (List Int):=(idx a j).bind fun x1 =>(idx row j).bind fun x2 =>(JC x1 x2).bind fun r3 =>(idx row j).bind fun x4 =>(nz r3).bind fun u5 =>(idx a j).bind fun x6 =>(nz r3).bind fun u7 =>(bW (Jc a row r3 x4 x6) BIG (0,([]:List Int))).bind fun b17 =>(FP b17).bind fun r22 => some r22
def JZ (m:List (List Int)) (s1:Int × (List (List Int))):Option ((Int × (List (List Int))) ⊕ (List (List Int))):=bif decide (s1.1 < (m.length:Int)) then (idx m s1.1).bind (fun x12 =>(FP x12).bind fun r13 =>(lim (s1.2.length + [r13].length)).bind fun u14 => some (.inl ((aB (s1.1 + 1)),(s1.2 ++ [r13])))) else some (.inr s1.2)
def Ja (s15:Int × (List (List Int)) × (List Int)) (wS:Int):Option (Int ⊕ (Int × Int × (List (List Int)) × (List Int))):=((bif decide (wS < (s15.2.1.length:Int)) then (idx s15.2.1 wS).bind (fun aDV =>(idx aDV s15.1).bind fun KF => some (KF == 0)) else some false):Option Bool).bind fun RU => bif RU then some (.inl (aB (wS + 1))) else some (.inr (s15.1,wS,s15.2.1,s15.2.2))
def Jb (fK:Int × Int × (List (List Int)) × (List Int)) (rF:List Int) (kE:Int × (List (List Int))):Option ((Int × (List (List Int))) ⊕ (Int × (List (List Int)) × (List Int))):=bif decide (kE.1 < (kE.2.length:Int)) then (((bif kE.1 != (fK.2.2.2.length:Int) then (idx kE.2 kE.1).bind (fun aDX =>(idx aDX fK.1).bind fun YT => some (YT != 0)) else some false):Option Bool).bind fun RX =>((bif RX then (idx kE.2 kE.1).bind (fun UE =>(OE UE rF fK.1).bind fun Jp =>(idx kE.2 kE.1).bind fun sZ => some (kE.2.set kE.1.toNat Jp)) else some kE.2):Option (List (List Int))).bind fun ND => some (.inl ((aB (kE.1 + 1)),ND))) else some (.inr (fK.1,kE.2,fK.2.2.2))
def DJ  (s15:Int × (List (List Int)) × (List Int)):Option ((Int × (List (List Int)) × (List Int)) ⊕ ((List (List Int)) × (List Int))):=((bif decide (0 < (s15.2.1.length:Int)) then (idx s15.2.1 0).bind (fun x153 => some (decide (s15.1 < (x153.length:Int)))) else some false):Option Bool).bind fun RP => bif RP then ((bW (Ja s15) BIG (s15.2.2.length:Int)).bind fun fK => bif fK.2.1 == (fK.2.2.1.length:Int) then some (.inl ((aB (fK.1 + 1)),fK.2.2.1,fK.2.2.2)) else (idx fK.2.2.1 fK.2.1).bind fun rF =>(idx fK.2.2.1 (fK.2.2.2.length:Int)).bind fun uV =>(idx fK.2.2.1 fK.2.1).bind fun F9 =>(idx (fK.2.2.1.set fK.2.1.toNat uV) (fK.2.2.2.length:Int)).bind fun Pj =>(bW (Jb fK rF) BIG (0,((fK.2.2.1.set fK.2.1.toNat uV).set (fK.2.2.2.length:Int).toNat rF))).bind fun qJ =>(lim (qJ.2.2.length + ([qJ.1]:List Int).length)).bind fun aKC => some (.inl ((aB (qJ.1 + 1)),qJ.2.1,(qJ.2.2 ++ ([qJ.1]:List Int))))) else some (.inr (s15.2.1,s15.2.2))
def OD (m:List (List Int)):Option ((List (List Int)) × (List Int)):=(bW (JZ m) BIG (0,([]:List (List Int)))).bind fun b10 =>(bW (DJ) BIG (0,b10,([]:List Int))).bind fun qY => some (qY.1,qY.2)
def Iw (a:List Int) (b:List Int) (s2:Int):Option (Int ⊕ (Unit ⊕ Bool)):=bif decide (s2 < (a.length:Int)) then (idx a s2).bind (fun oU =>(idx b s2).bind fun x14 => bif oU != x14 then some (.inr (.inr false)) else some (.inl (aB (s2 + 1)))) else some (.inr (.inl ()))
def Iu (a:List Int) (b:List Int):Option Bool:=bif (a.length:Int) != (b.length:Int) then some false else (bW (Iw a b) BIG 0).bind (Sum.elim (fun b11 =>(some true)) (fun r => some r))
def Ro (m:List (List Int)) (columns:Int):Option Int:=(NQ m columns).bind fun r1 => some (r1.2.1.length:Int)
def IW (f:aW):Option Int:=(sU f).bind fun r1 => bif !r1 then some (-1) else (NK f).bind fun r3 =>(Ro r3 (aB (2 * f.Graph.aF))).bind fun r4 => some r4
def aIQ (x:aV) (v:Int):Option Int:=bif x.A == v then some x.B else some x.A
def JB (f:aW):Option Int:=(qm f).bind fun r1 => bif !r1 then some (-1) else (Nu f).bind fun r3 =>(OD r3).bind fun r4 => some (r4.2.length:Int)
def Az (f:aW):Option aW:=(DF f.Graph).bind fun r1 =>(lim (([]:List bG).length + f.Places.length)).bind fun u2 => some (aW.mk r1 (([]:List bG) ++ f.Places))
def Nk (a:bM) (b:bM) (s5:Int):Option (Int ⊕ (Unit ⊕ Bool)):=bif decide (s5 < (a.aA.length:Int)) then (idx a.aA s5).bind (fun x16 =>(idx b.aA s5).bind fun x17 => bif !(jM [x16.A,x16.B] [x17.A,x17.B]) then some (.inr (.inr false)) else some (.inl (aB (s5 + 1)))) else some (.inr (.inl ()))
def I5 (a:bM) (b:bM):Option Bool:=((bif a.aF != b.aF then some true else some ((a.aA.length:Int) != (b.aA.length:Int))):Option Bool).bind fun j2 => bif j2 then some false else (bW (Nk a b) BIG 0).bind (Sum.elim (fun b14 =>(some true)) (fun r => some r))
def Cm (f:aW) (s1:Int × (List Int)):Option ((Int × (List Int)) ⊕ (List Int)):=((bif decide (s1.1 < (f.Graph.aA.length:Int)) then (qm f).bind (fun sV => some sV) else some false):Option Bool).bind fun j27 => bif j27 then (idx f.Graph.aA s1.1).bind (fun x31 =>(idx f.Places x31.A).bind fun x32 =>(idx f.Graph.aA s1.1).bind fun UF =>(idx f.Places UF.B).bind fun x34 =>(lim (s1.2.length + ([(aB ((aB ((aB (x32.X - x34.X)) * (aB (x32.X - x34.X)))) + (aB ((aB (x32.Y - x34.Y)) * (aB (x32.Y - x34.Y))))))]:List Int).length)).bind fun u35 => some (.inl ((aB (s1.1 + 1)),(s1.2 ++ ([(aB ((aB ((aB (x32.X - x34.X)) * (aB (x32.X - x34.X)))) + (aB ((aB (x32.Y - x34.Y)) * (aB (x32.Y - x34.Y))))))]:List Int))))) else some (.inr s1.2)
def FI (f:aW):Option (List Int):=(bW (Cm f) BIG (0,([]:List Int))).bind fun gG => some gG
def OA (a:List Int) (b:List Int) (s2:Int):Option (Int ⊕ (Unit ⊕ Bool)):=bif decide (s2 < (a.length:Int)) then (idx a s2).bind (fun oU =>(idx b s2).bind fun x14 => bif oU != x14 then some (.inr (.inr false)) else some (.inl (aB (s2 + 1)))) else some (.inr (.inl ()))
def JY (a:List Int) (b:List Int):Option Bool:=bif (a.length:Int) != (b.length:Int) then some false else (bW (OA a b) BIG 0).bind (Sum.elim (fun b11 =>(some true)) (fun r => some r))
def I4 (a:aW) (b:aW):Option Bool:=(((qm a).bind fun r11 => bif r11 then (qm b).bind (fun r13 => bif r13 then (I5 a.Graph b.Graph).bind (fun iT => bif iT then (FI a).bind (fun kL =>(FI b).bind fun oP =>(JY kL oP).bind fun pV => some pV) else some false) else some false) else some false):Option Bool).bind fun j10 => some j10
def Rj (g:bM):Option bM:=(lim (([]:List aV).length + g.aA.length)).bind fun u1 => some (bM.mk g.aF (([]:List aV) ++ g.aA))
def CU (f:aW):Option aW:=(Rj f.Graph).bind fun r1 =>(lim (([]:List bG).length + f.Places.length)).bind fun u2 => some (aW.mk r1 (([]:List bG) ++ f.Places))
def NS (jF:List aV) (kF:List aV) (s2:Int):Option (Int ⊕ (Unit ⊕ Bool)):=bif decide (s2 < (jF.length:Int)) then (idx jF s2).bind (fun oU =>(idx kF s2).bind fun x14 => bif !(jM [oU.A,oU.B] [x14.A,x14.B]) then some (.inr (.inr false)) else some (.inl (aB (s2 + 1)))) else some (.inr (.inl ()))
def NR (jF:List aV) (kF:List aV):Option Bool:=bif (jF.length:Int) != (kF.length:Int) then some false else (bW (NS jF kF) BIG 0).bind (Sum.elim (fun b11 =>(some true)) (fun r => some r))
def II (a:bM) (b:bM):Option Bool:=((bif a.aF == b.aF then (NR a.aA b.aA).bind (fun r5 => some r5) else some false):Option Bool).bind fun j3 => some j3
def IX (f:aW) (a:Int) (b:Int):Option Int:=(idx f.Places a).bind fun x1 =>(idx f.Places b).bind fun x2 =>(idx f.Places a).bind fun x3 =>(idx f.Places b).bind fun x4 => some (aB ((aB ((aB (x1.X - x2.X)) * (aB (x1.X - x2.X)))) + (aB ((aB (x3.Y - x4.Y)) * (aB (x3.Y - x4.Y))))))
def Ig (f:aW) (s3:Int × (List Int)):Option ((Int × (List Int)) ⊕ (List Int)):=bif decide (s3.1 < (f.Graph.aA.length:Int)) then (idx f.Graph.aA s3.1).bind (fun x14 =>(IX f x14.A x14.B).bind fun iT =>(lim (s3.2.length + ([iT]:List Int).length)).bind fun u16 => some (.inl ((aB (s3.1 + 1)),(s3.2 ++ ([iT]:List Int))))) else some (.inr s3.2)
def Ez (f:aW):Option (List Int):=(sU f).bind fun r1 => bif !r1 then some ([]:List Int) else (bW (Ig f) BIG (0,([]:List Int))).bind fun b12 => some b12
def NT (jF:List Int) (kF:List Int) (s2:Int):Option (Int ⊕ (Unit ⊕ Bool)):=bif decide (s2 < (jF.length:Int)) then (idx jF s2).bind (fun oU =>(idx kF s2).bind fun x14 => bif oU != x14 then some (.inr (.inr false)) else some (.inl (aB (s2 + 1)))) else some (.inr (.inl ()))
def Iy (jF:List Int) (kF:List Int):Option Bool:=bif (jF.length:Int) != (kF.length:Int) then some false else (bW (NT jF kF) BIG 0).bind (Sum.elim (fun b11 =>(some true)) (fun r => some r))
def CQ (a:aW) (b:aW):Option Bool:=(((sU a).bind fun r11 => bif r11 then (sU b).bind (fun r13 => bif r13 then (II a.Graph b.Graph).bind (fun iT => bif iT then (Ez a).bind (fun kL =>(Ez b).bind fun oP =>(Iy kL oP).bind fun pV => some pV) else some false) else some false) else some false):Option Bool).bind fun j10 => some j10
def NI (g:bM) (v:Int):Option Bool:=(Am v 0 (aB (g.aF - 1))).bind fun r1 => some r1
def aIU (p:lg) (a:Int) (nY:Int × (List (Int × Int)) × (List Int)) (uF:Int) (Pm:Int) (YS:Int) (BH:Int × (List Int)):Option ((Int × (List Int)) ⊕ ((List Int) × (List Int))):=bif BH.1 != a then (idx BH.2 (uq (wL nY.2.1 uF nY.1) BH.1)).bind (fun aK9 =>(idx BH.2 (uq (wL nY.2.1 uF nY.1) BH.1)).bind fun aLR => some (.inl (aK9,(BH.2.set (uq (wL nY.2.1 uF nY.1) BH.1).toNat BH.1)))) else some (.inr (((p.Free.set uF.toNat (aB (Pm - 1))).set a.toNat (aB (YS + 1))),BH.2))
def aIT (bars:List aV) (p:lg) (a:Int) (b:Int) (s1:Int × (List (Int × Int)) × (List Int)) (nY:Int × (List (Int × Int)) × (List Int)):Option ((Int × (List (Int × Int)) × (List Int)) ⊕ ((Int × (List (Int × Int)) × (List Int)) ⊕ (Bool × lg))):=bif decide (nY.1 < (p.lZ.length:Int)) then (idx p.lZ nY.1).bind (fun aK7 =>(idx p.nR nY.1).bind fun rF =>(idx nY.2.2 s1.1).bind fun uV => bif rF != uV then some (.inl ((aB (nY.1 + 1)),nY.2.1,nY.2.2)) else (idx bars aK7).bind fun Pj =>(idx nY.2.2 s1.1).bind fun YQ =>(aIQ Pj YQ).bind fun uF => bif DK nY.2.1 uF then some (.inl ((aB (nY.1 + 1)),nY.2.1,nY.2.2)) else ((bif uF == b then some true else (idx p.Free uF).bind fun aK8 => some (aK8 == 0)):Option Bool).bind fun aIB => bif aIB then (lim (nY.2.2.length + ([uF]:List Int).length)).bind (fun aLO => some (.inl ((aB (nY.1 + 1)),(wL nY.2.1 uF nY.1),(nY.2.2 ++ ([uF]:List Int))))) else (idx p.Free uF).bind fun Pm =>(idx p.Free uF).bind fun aLP =>(idx (p.Free.set uF.toNat (aB (Pm - 1))) a).bind fun YS =>(idx (p.Free.set uF.toNat (aB (Pm - 1))) a).bind fun aLQ =>(bW (aIU p a nY uF Pm YS) BIG (uF,p.nR)).bind fun Yl => some (.inr (.inr (true,(lg.mk Yl.1 Yl.2 p.lZ))))) else some (.inr (.inl (s1.1,nY.2.1,nY.2.2)))
def aIV (bars:List aV) (p:lg) (a:Int) (b:Int) (s1:Int × (List (Int × Int)) × (List Int)):Option ((Int × (List (Int × Int)) × (List Int)) ⊕ (Unit ⊕ (Bool × lg))):=bif decide (s1.1 < (s1.2.2.length:Int)) then ((bW (aIT bars p a b s1) BIG (0,s1.2.1,s1.2.2)).bind (Sum.elim (fun UX =>(some (.inl ((aB (UX.1 + 1)),UX.2.1,UX.2.2)))) (fun r => some (.inr (.inr r))))) else some (.inr (.inl ()))
def aBK (bars:List aV) (p:lg) (a:Int) (b:Int):Option (Bool × lg):=(bW (aIV bars p a b) BIG (0,(wL ([]:List (Int × Int)) a (-1)),([a]:List Int))).bind (Sum.elim (fun aLG =>(some (false,p))) (fun r => some r))
def aIS (bars:List aV) (a:Int) (b:Int) (want:Int) (s1:(List Int) × (List Int) × (List Int)):Option (((List Int) × (List Int) × (List Int)) ⊕ (((List Int) × (List Int) × (List Int)) ⊕ (Bool × lg))):=(idx s1.1 a).bind fun x25 =>(idx s1.1 b).bind fun fH => bif decide ((aB (x25 + fH)) < want) then ((((aBK bars (lg.mk s1.1 s1.2.1 s1.2.2) a b).bind fun r32 => bif !r32.1 then (aBK bars r32.2 b a).bind (fun zM => some ((!zM.1),zM.2.Free,zM.2.nR,zM.2.lZ)) else some (false,r32.2.Free,r32.2.nR,r32.2.lZ)):Option (Bool × (List Int) × (List Int) × (List Int))).bind fun j31 => bif j31.1 then some (.inr (.inr (false,(lg.mk j31.2.1 j31.2.2.1 j31.2.2.2)))) else some (.inl (j31.2.1,j31.2.2.1,j31.2.2.2))) else some (.inr (.inl (s1.1,s1.2.1,s1.2.2)))
def aIR (bars:List aV) (p:lg) (a:Int) (b:Int) (want:Int):Option (Bool × lg):=(bW (aIS bars a b want) BIG (p.Free,p.nR,p.lZ)).bind (Sum.elim (fun gG =>(some (true,(lg.mk gG.1 gG.2.1 gG.2.2)))) (fun r => some r))
def aIW (bars:List aV) (l:Int) (p:lg) (e:Int):Option (Bool × lg):=(idx bars e).bind fun x1 =>(aIR bars p x1.A x1.B (aB (l + 1))).bind fun r2 => bif !r2.1 then some (false,r2.2) else (idx r2.2.Free x1.A).bind fun x4 =>((bif x4 == 0 then some x1.B else some x1.A):Option Int).bind fun j6 =>(idx r2.2.Free j6).bind fun x8 =>(idx r2.2.Free j6).bind fun x9 =>(lim (r2.2.nR.length + ([j6]:List Int).length)).bind fun u10 =>(lim (r2.2.lZ.length + ([e]:List Int).length)).bind fun u11 => some (true,(lg.mk (r2.2.Free.set j6.toNat (aB (x8 - 1))) (r2.2.nR ++ ([j6]:List Int)) (r2.2.lZ ++ ([e]:List Int))))
def Nh (code:List Int):Option aW:=(zG code).bind fun r1 =>(yK r1).bind fun r2 => some r2.1
def Ri (p:bG):Option bG:=some (bG.mk (aB (4 - p.Y)) p.X)
def Io (f:aW) (r1:aW) (s16:Int × (List bG)):Option ((Int × (List bG)) ⊕ ((List aV) × (List bG) × Int)):=bif decide (s16.1 < (f.Places.length:Int)) then (idx f.Places s16.1).bind (fun x27 =>(Ri x27).bind fun r28 =>(idx s16.2 s16.1).bind fun x29 => some (.inl ((aB (s16.1 + 1)),(s16.2.set s16.1.toNat r28)))) else some (.inr (r1.Graph.aA,s16.2,r1.Graph.aF))
def Rk (f:aW):Option aW:=(CU f).bind fun r1 =>(sU f).bind fun r2 =>((bif r2 then ((bW (Io f r1) BIG (0,r1.Places)).bind fun b25 => some (b25.2.2,b25.1,b25.2.1)) else some (r1.Graph.aF,r1.Graph.aA,r1.Places)):Option (Int × (List aV) × (List bG))).bind fun j14 => some (aW.mk (bM.mk j14.1 j14.2.1) j14.2.2)
def NM (f:aW):Option aW:=(Rk f).bind fun r1 => some r1
def Rh (p:bG):Option bG:=some (bG.mk (aB (4 - p.X)) p.Y)
def Ip (f:aW) (r1:aW) (s16:Int × (List bG)):Option ((Int × (List bG)) ⊕ ((List aV) × (List bG) × Int)):=bif decide (s16.1 < (f.Places.length:Int)) then (idx f.Places s16.1).bind (fun x27 =>(Rh x27).bind fun r28 =>(idx s16.2 s16.1).bind fun x29 => some (.inl ((aB (s16.1 + 1)),(s16.2.set s16.1.toNat r28)))) else some (.inr (r1.Graph.aA,s16.2,r1.Graph.aF))
def Rn (f:aW):Option aW:=(CU f).bind fun r1 =>(sU f).bind fun r2 =>((bif r2 then ((bW (Ip f r1) BIG (0,r1.Places)).bind fun b25 => some (b25.2.2,b25.1,b25.2.1)) else some (r1.Graph.aF,r1.Graph.aA,r1.Places)):Option (Int × (List aV) × (List bG))).bind fun j14 => some (aW.mk (bM.mk j14.1 j14.2.1) j14.2.2)
def Ia (f:aW):Option aW:=(Rn f).bind fun r1 => some r1
def C9 (f:aW) (r1:aW) (s2:Int × (List bG)):Option ((Int × (List bG)) ⊕ ((List aV) × (List bG) × Int)):=((bif decide (s2.1 < (s2.2.length:Int)) then (qm f).bind (fun qE => some qE) else some false):Option Bool).bind fun j24 => bif j24 then (idx f.Places s2.1).bind (fun x28 =>(idx f.Places s2.1).bind fun x29 =>(idx s2.2 s2.1).bind fun x30 => some (.inl ((aB (s2.1 + 1)),(s2.2.set s2.1.toNat (bG.mk (aB (4 - x28.Y)) x29.X))))) else some (.inr (r1.Graph.aA,s2.2,r1.Graph.aF))
def JO (f:aW):Option aW:=(Az f).bind fun r1 =>(bW (C9 f r1) BIG (0,r1.Places)).bind fun oD => some (aW.mk (bM.mk oD.2.2 oD.1) oD.2.1)
def Nj (a:aW) (b:aW) (s7:Int):Option (Int ⊕ (Unit ⊕ Bool)):=bif decide (s7 < (a.Places.length:Int)) then (idx a.Places s7).bind (fun x18 =>(idx b.Places s7).bind fun x19 => bif !(jM [x18.X,x18.Y] [x19.X,x19.Y]) then some (.inr (.inr false)) else some (.inl (aB (s7 + 1)))) else some (.inr (.inl ()))
def xE (a:aW) (b:aW):Option Bool:=(((I5 a.Graph b.Graph).bind fun r4 => bif !r4 then some true else some ((a.Places.length:Int) != (b.Places.length:Int))):Option Bool).bind fun j3 => bif j3 then some false else (bW (Nj a b) BIG 0).bind (Sum.elim (fun b16 =>(some true)) (fun r => some r))
def Ce (f:aW) (r1:aW) (s2:Int × (List bG)):Option ((Int × (List bG)) ⊕ ((List aV) × (List bG) × Int)):=((bif decide (s2.1 < (s2.2.length:Int)) then (qm f).bind (fun pW => some pW) else some false):Option Bool).bind fun j22 => bif j22 then (idx f.Places s2.1).bind (fun fH =>(idx s2.2 s2.1).bind fun x27 => some (.inl ((aB (s2.1 + 1)),(s2.2.set s2.1.toNat (bG.mk (aB (4 - fH.X)) x27.Y))))) else some (.inr (r1.Graph.aA,s2.2,r1.Graph.aF))
def JG (f:aW):Option aW:=(Az f).bind fun r1 =>(bW (Ce f r1) BIG (0,r1.Places)).bind fun b19 => some (aW.mk (bM.mk b19.2.2 b19.1) b19.2.1)
def Ib (f:aW) (s3:Int × (List Int)) (s24:Int × (List Int)):Option ((Int × (List Int)) ⊕ (Int × (List Int))):=bif decide (s24.1 < (f.Places.length:Int)) then (IX f s3.1 s24.1).bind (fun jL =>(lim (s24.2.length + ([jL]:List Int).length)).bind fun u34 => some (.inl ((aB (s24.1 + 1)),(s24.2 ++ ([jL]:List Int))))) else some (.inr (s3.1,s24.2))
def Ew (f:aW) (s3:Int × (List Int)):Option ((Int × (List Int)) ⊕ (List Int)):=bif decide (s3.1 < (f.Places.length:Int)) then ((bW (Ib f s3) BIG ((aB (s3.1 + 1)),s3.2)).bind fun Ba => some (.inl ((aB (Ba.1 + 1)),Ba.2))) else some (.inr s3.2)
def Eu (f:aW):Option (List Int):=(sU f).bind fun r1 => bif !r1 then some ([]:List Int) else (bW (Ew f) BIG (0,([]:List Int))).bind fun b22 => some b22
def JH (f:aW) (s1:Int × (List Int)) (s49:Int × (List Int)):Option ((Int × (List Int)) ⊕ (Int × (List Int))):=bif decide (s49.1 < (f.Places.length:Int)) then (idx f.Places s1.1).bind (fun jb =>(idx f.Places s49.1).bind fun mQ =>(idx f.Places s1.1).bind fun x66 =>(idx f.Places s49.1).bind fun sJ =>(lim (s49.2.length + ([(aB ((aB ((aB (jb.X - mQ.X)) * (aB (jb.X - mQ.X)))) + (aB ((aB (x66.Y - sJ.Y)) * (aB (x66.Y - sJ.Y))))))]:List Int).length)).bind fun u68 => some (.inl ((aB (s49.1 + 1)),(s49.2 ++ ([(aB ((aB ((aB (jb.X - mQ.X)) * (aB (jb.X - mQ.X)))) + (aB ((aB (x66.Y - sJ.Y)) * (aB (x66.Y - sJ.Y))))))]:List Int))))) else some (.inr (s1.1,s49.2))
def Ap (f:aW) (s1:Int × (List Int)):Option ((Int × (List Int)) ⊕ (List Int)):=((bif decide (s1.1 < (f.Places.length:Int)) then (qm f).bind (fun BD => some BD) else some false):Option Bool).bind fun j45 => bif j45 then ((bW (JH f s1) BIG ((aB (s1.1 + 1)),s1.2)).bind fun wX => some (.inl ((aB (wX.1 + 1)),wX.2))) else some (.inr s1.2)
def FD (f:aW):Option (List Int):=(bW (Ap f) BIG (0,([]:List Int))).bind fun xZ => some xZ
def Es (a:aW) (b:aW):Option Bool:=(((sU a).bind fun r10 => bif r10 then (sU b).bind (fun r12 => bif r12 then (bif a.Graph.aF == b.Graph.aF then (Eu a).bind (fun iT =>(Eu b).bind fun r16 =>(Iy iT r16).bind fun kL => some kL) else some false) else some false) else some false):Option Bool).bind fun j9 => some j9
def IU  (s2:Int × (List Int)):Option ((Int × (List Int)) ⊕ (List Int)):=bif s2.1 != 0 then (((bif decide ((Int.tmod s2.1 10) < 0) then some (aB (-(Int.tmod s2.1 10))) else some (Int.tmod s2.1 10)):Option Int).bind fun j16 =>(lim (s2.2.length + ([(IntKind.u8.wrap (aB (48 + j16)))]:List Int).length)).bind fun u18 => some (.inl ((aB (Int.tdiv s2.1 10)),(s2.2 ++ ([(IntKind.u8.wrap (aB (48 + j16)))]:List Int))))) else some (.inr s2.2)
def IV  (s24:Int × Int × (List Int)):Option ((Int × Int × (List Int)) ⊕ (List Int)):=bif decide (s24.1 < s24.2.1) then (idx s24.2.2 s24.2.1).bind (fun Dt =>(idx s24.2.2 s24.1).bind fun x38 =>(idx s24.2.2 s24.1).bind fun x39 =>(idx (s24.2.2.set s24.1.toNat Dt) s24.2.1).bind fun x40 => some (.inl ((aB (s24.1 + 1)),(aB (s24.2.1 - 1)),((s24.2.2.set s24.1.toNat Dt).set s24.2.1.toNat x38)))) else some (.inr s24.2.2)
def xC (n:Int):Option ByteArray:=bif n == 0 then some (ByteArray.mk #[48]) else (bW (IU) BIG (n,([]:List Int))).bind fun b13 =>((bif decide (n < 0) then (lim (b13.length + ([45]:List Int).length)).bind (fun u23 => some (b13 ++ ([45]:List Int))) else some b13):Option (List Int)).bind fun j21 =>(bW (IV) BIG (0,(aB ((j21.length:Int) - 1)),j21)).bind fun D9 => some (yQ D9)
def IQ (g:bM) (s5:ByteArray × Int):Option ((ByteArray × Int) ⊕ ByteArray):=bif decide (s5.2 < (g.aA.length:Int)) then (idx g.aA s5.2).bind (fun x24 =>(kG s5.1 (ByteArray.mk #[32])).bind fun nZ =>(xC x24.A).bind fun qE =>(kG nZ qE).bind fun qU =>(kG qU (ByteArray.mk #[45])).bind fun vU =>(xC x24.B).bind fun sV =>(kG vU sV).bind fun oJ => some (.inl (oJ,(aB (s5.2 + 1))))) else some (.inr s5.1)
def IL (g:bM):Option ByteArray:=(Et g).bind fun r1 => bif !r1 then some ByteArray.empty else (xC g.aF).bind fun r3 =>(kG r3 (ByteArray.mk #[58])).bind fun s4 =>(bW (IQ g) BIG (s4,0)).bind fun b22 => some b22
def IK (f:aW) (s5:ByteArray × Int):Option ((ByteArray × Int) ⊕ ByteArray):=bif decide (s5.2 < (f.Places.length:Int)) then (idx f.Places s5.2).bind (fun x24 =>(kG s5.1 (ByteArray.mk #[32])).bind fun nZ =>(xC x24.X).bind fun qE =>(kG nZ qE).bind fun qU =>(kG qU (ByteArray.mk #[44])).bind fun vU =>(xC x24.Y).bind fun sV =>(kG vU sV).bind fun oJ => some (.inl (oJ,(aB (s5.2 + 1))))) else some (.inr s5.1)
def IJ (f:aW):Option ByteArray:=(sU f).bind fun r1 => bif !r1 then some ByteArray.empty else (IL f.Graph).bind fun r3 =>(kG r3 (ByteArray.mk #[32,97,116])).bind fun s4 =>(bW (IK f) BIG (s4,0)).bind fun b22 => some b22
def Il (s:ByteArray) (ku:Int) (s1:Int × Int × (List ByteArray)):Option ((Int × Int × (List ByteArray)) ⊕ (Int × (List ByteArray))):=bif decide (s1.2.1 < (s.size:Int)) then (rC s s1.2.1).bind (fun uK =>((bif uK == ku then (nN s s1.1 s1.2.1).bind (fun vU =>(lim (s1.2.2.length + [vU].length)).bind fun u29 => some ((aB (s1.2.1 + 1)),(s1.2.2 ++ [vU]))) else some (s1.1,s1.2.2)):Option (Int × (List ByteArray))).bind fun j26 => some (.inl (j26.1,(aB (s1.2.1 + 1)),j26.2))) else some (.inr (s1.1,s1.2.2))
def CW (s:ByteArray) (ku:Int):Option (List ByteArray):=(bW (Il s ku) BIG (0,0,([]:List ByteArray))).bind fun b20 =>(nN s b20.1 (s.size:Int)).bind fun oJ =>(lim (b20.2.length + [oJ].length)).bind fun u31 => some (b20.2 ++ [oJ])
def CZ (s:List ByteArray) (v:ByteArray) (s1:Int):Option (Int ⊕ (Unit ⊕ Int)):=bif decide (s1 < (s.length:Int)) then (idx s s1).bind (fun x10 => bif v.toList == x10.toList then some (.inr (.inr s1)) else some (.inl (aB (s1 + 1)))) else some (.inr (.inl ()))
def FB (s:List ByteArray) (v:ByteArray):Option Int:=(bW (CZ s v) BIG 0).bind (Sum.elim (fun b8 =>(some (-1))) (fun r => some r))
def Ak (l:List ByteArray) (ku:ByteArray) (s1:ByteArray × Int):Option ((ByteArray × Int) ⊕ ByteArray):=bif decide (s1.2 < (l.length:Int)) then (idx l s1.2).bind (fun x20 =>((bif decide (0 < s1.2) then (kG s1.1 ku).bind (fun nZ => some nZ) else some s1.1):Option ByteArray).bind fun j23 =>(kG j23 x20).bind fun s26 => some (.inl (s26,(aB (s1.2 + 1))))) else some (.inr s1.1)
def E5 (l:List ByteArray) (ku:ByteArray):Option ByteArray:=(bW (Ak l ku) BIG (ByteArray.empty,0)).bind fun b18 => some b18
def Ic (s:ByteArray) (j7:Int) (s11:Int × Int):Option ((Int × Int) ⊕ ((Int × Int) ⊕ (Int × Bool))):=bif decide (s11.2 < (s.size:Int)) then ((((rC s s11.2).bind fun x38 => bif decide (x38 < 48) then some true else (rC s s11.2).bind fun x40 => some (decide (57 < x40))):Option Bool).bind fun j37 => bif j37 then some (.inr (.inr (0,false))) else (rC s s11.2).bind fun gu => some (.inl ((aB ((aB (10 * s11.1)) + (aB (IntKind.u8.wrap (gu - 48))))),(aB (s11.2 + 1))))) else some (.inr (.inl (j7,s11.1)))
def zF (s:ByteArray):Option (Int × Bool):=((bif decide (0 < (s.size:Int)) then (rC s 0).bind (fun x5 => some (x5 == 45)) else some false):Option Bool).bind fun j3 =>((bif j3 then some 1 else some 0):Option Int).bind fun j7 =>(Am (aB ((s.size:Int) - j7)) 1 9).bind fun r9 => bif !r9 then some (0,false) else (bW (Ic s j7) BIG (0,j7)).bind (Sum.elim (fun b32 =>((bif b32.1 == 1 then some (aB (-b32.2)) else some b32.2):Option Int).bind fun j44 =>(xC j44).bind fun XZ => bif !(XZ.toList == s.toList) then some (0,false) else some (j44,true)) (fun r => some r))
def Aj (r1:List ByteArray) (r5:Int × Bool) (s7:Int × (List aV)):Option ((Int × (List aV)) ⊕ ((Int × (List aV)) ⊕ (bM × Bool))):=bif decide (s7.1 < (((r1.take r1.length).drop (Int.toNat 1)).length:Int)) then (idx ((r1.take r1.length).drop (Int.toNat 1)) s7.1).bind (fun x34 =>(CW x34 45).bind fun jX =>((bif (jX.length:Int) != 2 then some true else some ((s7.2.length:Int) == 24)):Option Bool).bind fun j37 => bif j37 then some (.inr (.inr ((bM.mk 0 ([]:List aV)),false))) else (idx jX 0).bind fun x40 =>(zF x40).bind fun eH =>(idx jX 1).bind fun gu =>(zF gu).bind fun qF =>(lim (s7.2.length + [(aV.mk eH.1 qF.1)].length)).bind fun u44 => some (.inl ((aB (s7.1 + 1)),(s7.2 ++ [(aV.mk eH.1 qF.1)])))) else some (.inr (.inl (r5.1,s7.2)))
def Ey (s:ByteArray):Option (bM × Bool):=(CW s 32).bind fun r1 =>(idx r1 0).bind fun x2 =>(idx r1 0).bind fun x3 =>(nN x2 0 (if 0 < (aB ((x3.size:Int) - 1)) then (aB ((x3.size:Int) - 1)) else 0)).bind fun s4 =>(zF s4).bind fun r5 =>(slc r1 1 (r1.length:Int)).bind fun v6 =>(bW (Aj r1 r5) BIG (0,([]:List aV))).bind (Sum.elim (fun b32 =>((bif s.toList == ByteArray.empty.toList then some true else (IL (bM.mk b32.1 b32.2)).bind fun Sr => some (!(Sr.toList == s.toList))):Option Bool).bind fun j47 => bif j47 then some ((bM.mk 0 ([]:List aV)),false) else some ((bM.mk b32.1 b32.2),true)) (fun r => some r))
def Ai (r1:List ByteArray) (r2:Int) (r6:bM × Bool) (s8:Int × (List bG)):Option ((Int × (List bG)) ⊕ ((Int × (List aV) × (List bG)) ⊕ (aW × Bool))):=bif decide (s8.1 < (((r1.take r1.length).drop ((aB (r2 + 1)).toNat)).length:Int)) then (idx ((r1.take r1.length).drop ((aB (r2 + 1)).toNat)) s8.1).bind (fun x29 =>(CW x29 44).bind fun mG => bif (mG.length:Int) != 2 then some (.inr (.inr ((aW.mk (bM.mk 0 ([]:List aV)) ([]:List bG)),false))) else (idx mG 0).bind fun x32 =>(zF x32).bind fun jL =>(idx mG 1).bind fun x34 =>(zF x34).bind fun jX =>(lim (s8.2.length + [(bG.mk jL.1 jX.1)].length)).bind fun u36 => some (.inl ((aB (s8.1 + 1)),(s8.2 ++ [(bG.mk jL.1 jX.1)])))) else some (.inr (.inl (r6.1.aF,r6.1.aA,s8.2)))
def yJ (s:ByteArray):Option (aW × Bool):=(CW s 32).bind fun r1 =>(FB r1 (ByteArray.mk #[97,116])).bind fun r2 => bif decide (r2 < 0) then some ((aW.mk (bM.mk 0 ([]:List aV)) ([]:List bG)),false) else (slc r1 0 r2).bind fun v4 =>(E5 ((r1.take r2.toNat).drop 0) (ByteArray.mk #[32])).bind fun r5 =>(Ey r5).bind fun r6 =>(slc r1 (aB (r2 + 1)) (r1.length:Int)).bind fun v7 =>(bW (Ai r1 r2 r6) BIG (0,([]:List bG))).bind (Sum.elim (fun b27 =>(IJ (aW.mk (bM.mk b27.1 b27.2.1) b27.2.2)).bind fun sF => bif !(sF.toList == s.toList) then some ((aW.mk (bM.mk 0 ([]:List aV)) ([]:List bG)),false) else some ((aW.mk (bM.mk b27.1 b27.2.1) b27.2.2),true)) (fun r => some r))
def JA  (s2:Int × ByteArray):Option ((Int × ByteArray) ⊕ ByteArray):=bif s2.1 != 0 then (((bif decide ((Int.tmod s2.1 10) < 0) then some (aB (-(Int.tmod s2.1 10))) else some (Int.tmod s2.1 10)):Option Int).bind fun j16 =>(kG (yQ ([(IntKind.u8.wrap (aB (48 + j16)))]:List Int)) s2.2).bind fun Xh => some (.inl ((aB (Int.tdiv s2.1 10)),Xh))) else some (.inr s2.2)
def xG (n:Int):Option ByteArray:=bif n == 0 then some (ByteArray.mk #[48]) else (bW (JA) BIG (n,ByteArray.empty)).bind fun b13 => bif decide (n < 0) then (kG (ByteArray.mk #[45]) b13).bind (fun s20 => some s20) else some b13
def I9 (g:bM) (s5:ByteArray × Int):Option ((ByteArray × Int) ⊕ ByteArray):=bif decide (s5.2 < (g.aA.length:Int)) then (kG s5.1 (ByteArray.mk #[32])).bind (fun s26 =>(idx g.aA s5.2).bind fun x27 =>(xG x27.A).bind fun r28 =>(kG s26 r28).bind fun O6 =>(kG O6 (ByteArray.mk #[45])).bind fun oJ =>(idx g.aA s5.2).bind fun x31 =>(xG x31.B).bind fun r32 =>(kG oJ r32).bind fun BI => some (.inl (BI,(aB (s5.2 + 1))))) else some (.inr s5.1)
def I8 (g:bM):Option ByteArray:=(Cb g).bind fun r1 => bif !r1 then some ByteArray.empty else (xG g.aF).bind fun r3 =>(kG r3 (ByteArray.mk #[58])).bind fun s4 =>(bW (I9 g) BIG (s4,0)).bind fun gG => some gG
def I7 (f:aW) (s5:ByteArray × Int):Option ((ByteArray × Int) ⊕ ByteArray):=bif decide (s5.2 < (f.Places.length:Int)) then (kG s5.1 (ByteArray.mk #[32])).bind (fun s26 =>(idx f.Places s5.2).bind fun x27 =>(xG x27.X).bind fun r28 =>(kG s26 r28).bind fun O6 =>(kG O6 (ByteArray.mk #[44])).bind fun oJ =>(idx f.Places s5.2).bind fun x31 =>(xG x31.Y).bind fun r32 =>(kG oJ r32).bind fun BI => some (.inl (BI,(aB (s5.2 + 1))))) else some (.inr s5.1)
def FC (f:aW):Option ByteArray:=(qm f).bind fun r1 => bif !r1 then some ByteArray.empty else (I8 f.Graph).bind fun r3 =>(kG r3 (ByteArray.mk #[32,97,116])).bind fun s4 =>(bW (I7 f) BIG (s4,0)).bind fun gG => some gG
def JS (r1:Int × dJ) (s3:Int × (List Int) × Int × Int × (List Int)):Option ((Int × (List Int) × Int × Int × (List Int)) ⊕ ((List Int) × Int × Int × (List Int))):=bif decide (0 < s3.1) then (yL (dJ.mk s3.2.1 s3.2.2.1 s3.2.2.2.1)).bind (fun pW =>((bif r1.1 == 1 then some (Int.tmod pW.1 2) else some pW.1):Option Int).bind fun j26 =>((bif r1.1 == 2 then some (aB (97 + (Int.tmod j26 4))) else some j26):Option Int).bind fun j29 =>(lim (s3.2.2.2.2.length + ([(IntKind.u8.wrap j29)]:List Int).length)).bind fun u31 => some (.inl ((aB (s3.1 - 1)),pW.2.b,pW.2.i,pW.2.h,(s3.2.2.2.2 ++ ([(IntKind.u8.wrap j29)]:List Int))))) else some (.inr (s3.2.1,s3.2.2.1,s3.2.2.2.1,s3.2.2.2.2))
def Nz (c:dJ) (most:Int):Option (ByteArray × dJ):=(lM c 4).bind fun r1 =>(lM r1.2 (aB (most + 1))).bind fun r2 =>(bW (JS r1) BIG (r2.1,r2.2.b,r2.2.i,r2.2.h,([]:List Int))).bind fun b22 => some ((yQ b22.2.2.2),(dJ.mk b22.1 b22.2.1 b22.2.2.1))
def Ny (c:dJ) (s:ByteArray):Option (ByteArray × dJ):=bif (s.size:Int) == 0 then (Nz c 3).bind (fun r2 => some (r2.1,r2.2)) else (lM c (s.size:Int)).bind fun r3 =>(lM r3.2 4).bind fun r4 => bif r4.1 == 0 then (nN s 0 r3.1).bind (fun s6 =>(nN s (aB (r3.1 + 1)) (s.size:Int)).bind fun s7 =>(kG s6 s7).bind fun s8 => some (s8,r4.2)) else bif r4.1 == 1 then (nN s 0 r3.1).bind (fun s10 =>(yL r4.2).bind fun r11 =>(kG s10 (yQ ([(IntKind.u8.wrap r11.1)]:List Int))).bind fun s12 =>(nN s r3.1 (s.size:Int)).bind fun s13 =>(kG s12 s13).bind fun s14 => some (s14,r11.2)) else bif r4.1 == 2 then (nN s 0 r3.1).bind (fun s16 => some (s16,r4.2)) else (nN s 0 r3.1).bind fun s17 =>(rC s r3.1).bind fun x18 =>(lM r4.2 255).bind fun pV =>(kG s17 (yQ ([(IntKind.u8.wrap (bits .xor .i64 (aB x18) (aB (1 + pV.1))))]:List Int))).bind fun s20 =>(nN s (aB (r3.1 + 1)) (s.size:Int)).bind fun s21 =>(kG s20 s21).bind fun Xi => some (Xi,pV.2)
def Ru (c:dJ) (list:List ByteArray):Option (ByteArray × dJ):=(lM c (list.length:Int)).bind fun r1 =>(idx list r1.1).bind fun x2 => some (x2,r1.2)
def Nc (code:List Int):Option ByteArray:=(zG code).bind fun r1 =>(yK r1).bind fun r2 =>(FC r2.1).bind fun r3 =>(lM r2.2 4).bind fun r4 => bif r4.1 == 0 then (Ny r4.2 r3).bind (fun r6 => some r6.1) else bif r4.1 == 1 then (Ru r4.2 [ByteArray.empty,(ByteArray.mk #[97,116]),(ByteArray.mk #[50,58,32,48,45,49,32,97,116,32,48,44,48,32,49,44,48]),(ByteArray.mk #[50,58,32,48,45,49,32,97,116,32,48,44,48,32,48,44,48]),(ByteArray.mk #[50,58,32,97,116,32,48,44,48,32,48,44,48]),(ByteArray.mk #[50,58,32,48,45,49,32,97,116,32,48,44,48]),(ByteArray.mk #[50,58,32,48,45,49,32,97,116,32,48,44,48,32,53,44,48]),(ByteArray.mk #[49,58,32,97,116,32,48])]).bind (fun r8 => some r8.1) else some r3
def JU (s:ByteArray) (ku:Int) (s1:ByteArray × Int × (List ByteArray)):Option ((ByteArray × Int × (List ByteArray)) ⊕ (ByteArray × (List ByteArray))):=bif decide (s1.2.1 < (s.size:Int)) then (rC s s1.2.1).bind (fun fH =>((bif fH == ku then (lim (s1.2.2.length + [s1.1].length)).bind (fun u33 => some (ByteArray.empty,(s1.2.2 ++ [s1.1]))) else (nN s s1.2.1 (aB (s1.2.1 + 1))).bind fun s34 =>(kG s1.1 s34).bind fun Xj => some (Xj,s1.2.2)):Option (ByteArray × (List ByteArray))).bind fun j31 => some (.inl (j31.1,(aB (s1.2.1 + 1)),j31.2))) else some (.inr (s1.1,s1.2.2))
def DI (s:ByteArray) (ku:Int):Option (List ByteArray):=(bW (JU s ku) BIG (ByteArray.empty,0,([]:List ByteArray))).bind fun gG =>(lim (gG.2.length + [gG.1].length)).bind fun u36 => some (gG.2 ++ [gG.1])
def JJ (s:ByteArray) (s1:Int × Int × Int):Option ((Int × Int × Int) ⊕ (Int × Int)):=((bif decide (s1.2.2 < (s.size:Int)) then some (decide (s1.2.2 < 11)) else some false):Option Bool).bind fun j36 => bif j36 then ((((rC s s1.2.2).bind fun x43 => bif decide (48 ≤ x43) then (rC s s1.2.2).bind (fun je => some (decide (je ≤ 57))) else some false):Option Bool).bind fun j42 =>((bif j42 then (rC s s1.2.2).bind (fun Po => some ((aB ((aB (s1.1 * 10)) + (aB (IntKind.u8.wrap (Po - 48))))),(aB (s1.2.1 + 1)))) else some (s1.1,s1.2.1)):Option (Int × Int)).bind fun j48 => some (.inl (j48.1,j48.2,(aB (s1.2.2 + 1))))) else some (.inr (s1.1,s1.2.1))
def JI (s:ByteArray):Option (Int × Bool):=(bW (JJ s) BIG (0,0,0)).bind fun vH =>((bif decide (0 < (s.size:Int)) then (rC s 0).bind (fun x55 => some (x55 == 45)) else some false):Option Bool).bind fun j53 =>((bif j53 then some (aB (-vH.1)) else some vH.1):Option Int).bind fun j57 =>((bif decide (9 < vH.2) then some true else bif decide (10 < (s.size:Int)) then some true else (xG j57).bind fun TB => some (!(TB.toList == s.toList))):Option Bool).bind fun j62 => bif j62 then some (0,false) else some (j57,true)
def wK (s:ByteArray):Option Int:=(JI s).bind fun r1 => bif !r1.2 then some (-1) else some r1.1
def Aw (r1:List ByteArray) (r7:Int) (s8:Int × (List aV)):Option ((Int × (List aV)) ⊕ (((List aV) × Int) ⊕ (bM × Bool))):=bif decide (s8.1 < (r1.length:Int)) then (idx r1 s8.1).bind (fun x29 =>(DI x29 45).bind fun mG => bif (mG.length:Int) != 2 then some (.inr (.inr ((bM.mk 0 ([]:List aV)),false))) else (idx mG 0).bind fun x32 =>(wK x32).bind fun jL =>(idx mG 1).bind fun x34 =>(wK x34).bind fun jX =>(lim (s8.2.length + [(aV.mk jL jX)].length)).bind fun u36 => some (.inl ((aB (s8.1 + 1)),(s8.2 ++ [(aV.mk jL jX)])))) else some (.inr (.inl (s8.2,r7)))
def FH (s:ByteArray):Option (bM × Bool):=(DI s 32).bind fun r1 =>(idx r1 0).bind fun x2 => bif decide ((x2.size:Int) < 2) then some ((bM.mk 0 ([]:List aV)),false) else (idx r1 0).bind fun x4 =>(idx r1 0).bind fun x5 =>(nN x4 0 (aB ((x5.size:Int) - 1))).bind fun s6 =>(wK s6).bind fun r7 =>(bW (Aw r1 r7) BIG (1,([]:List aV))).bind (Sum.elim (fun b27 =>(I8 (bM.mk b27.2 b27.1)).bind fun sF => bif !(sF.toList == s.toList) then some ((bM.mk 0 ([]:List aV)),false) else some ((bM.mk b27.2 b27.1),true)) (fun r => some r))
def Ci (r1:List ByteArray) (s2:Int):Option (Int ⊕ (Int × (List ByteArray))):=((bif decide (s2 < (r1.length:Int)) then (idx r1 s2).bind (fun x20 => some (!(x20.toList == (ByteArray.mk #[97,116]).toList))) else some false):Option Bool).bind fun j18 => bif j18 then some (.inl (aB (s2 + 1))) else some (.inr (s2,r1))
def Ar (b15:Int × (List ByteArray)) (qU:ByteArray × Int):Option ((ByteArray × Int) ⊕ (Int × ByteArray × (List ByteArray))):=bif decide (qU.2 < b15.1) then (kG qU.1 (ByteArray.mk #[32])).bind (fun s38 =>(idx b15.2 qU.2).bind fun x39 =>(kG s38 x39).bind fun TM => some (.inl (TM,(aB (qU.2 + 1))))) else some (.inr (b15.1,qU.1,b15.2))
def Au (jT:Int × ByteArray × (List ByteArray)) (eH:bM × Bool) (oz:Int × (List bG)):Option ((Int × (List bG)) ⊕ ((Bool × (List aV) × (List bG) × Int) ⊕ (aW × Bool))):=bif decide (oz.1 < (jT.2.2.length:Int)) then (idx jT.2.2 oz.1).bind (fun UG =>(DI UG 44).bind fun uG => bif (uG.length:Int) != 2 then some (.inr (.inr ((aW.mk (bM.mk 0 ([]:List aV)) ([]:List bG)),false))) else (idx uG 0).bind fun x66 =>(wK x66).bind fun uH =>(idx uG 1).bind fun UH =>(wK UH).bind fun uI =>(lim (oz.2.length + [(bG.mk uH uI)].length)).bind fun u70 => some (.inl ((aB (oz.1 + 1)),(oz.2 ++ [(bG.mk uH uI)])))) else some (.inr (.inl (eH.2,eH.1.aA,oz.2,eH.1.aF)))
def Aq (s:ByteArray):Option (aW × Bool):=(DI s 32).bind fun r1 =>(bW (Ci r1) BIG 0).bind fun b15 =>((bif b15.1 == 0 then some true else some (b15.1 == (b15.2.length:Int))):Option Bool).bind fun j23 => bif j23 then some ((aW.mk (bM.mk 0 ([]:List aV)) ([]:List bG)),false) else (idx b15.2 0).bind fun fH =>(bW (Ar b15) BIG (fH,1)).bind fun jT =>(FH jT.2.1).bind fun eH =>(bW (Au jT eH) BIG ((aB (jT.1 + 1)),([]:List bG))).bind (Sum.elim (fun jJ =>((bif !jJ.1 then some true else (FC (aW.mk (bM.mk jJ.2.2.2 jJ.2.1) jJ.2.2.1)).bind fun dY => some (!(dY.toList == s.toList))):Option Bool).bind fun j73 => bif j73 then some ((aW.mk (bM.mk 0 ([]:List aV)) ([]:List bG)),false) else some ((aW.mk (bM.mk jJ.2.2.2 jJ.2.1) jJ.2.2.1),true)) (fun r => some r))
def NZ (code:List Int):Option (aW × aW):=(zG code).bind fun r1 =>(yK r1).bind fun r2 =>(lM r2.2 3).bind fun r3 => bif r3.1 == 0 then (JG r2.1).bind (fun r5 => some (r2.1,r5)) else bif r3.1 == 1 then (JO r2.1).bind (fun r7 => some (r2.1,r7)) else (yK r3.2).bind fun r8 => some (r2.1,r8.1)
def Nb (code:List Int):Option (aW × Int × bG):=(zG code).bind fun r1 =>(yK r1).bind fun r2 =>(lM r2.2 8).bind fun r3 =>(lM r3.2 6).bind fun r4 =>(lM r4.2 6).bind fun r5 =>(lM r5.2 2).bind fun r6 => some (r2.1,(aB (r3.1 - 1)),(bG.mk r4.1 (aB (r5.1 - r6.1))))
def NJ (f:aW) (v:Int) (p:bG):Option (aW × Bool):=(CU f).bind fun r1 =>(((sU f).bind fun r6 => bif !r6 then some true else (NI f.Graph v).bind fun r8 => some (!r8)):Option Bool).bind fun j5 => bif j5 then some (r1,false) else (idx r1.Places v).bind fun x10 =>(sU (aW.mk r1.Graph (r1.Places.set v.toNat p))).bind fun r11 => bif !r11 then (CU f).bind (fun r13 => some (r13,false)) else some ((aW.mk r1.Graph (r1.Places.set v.toNat p)),true)
def Nq (f:aW) (v:Int) (p:bG):Option (aW × Bool):=(Az f).bind fun r1 =>(((qm f).bind fun r6 => bif !r6 then some true else bif decide (v < 0) then some true else some (decide ((f.Places.length:Int) ≤ v))):Option Bool).bind fun j5 => bif j5 then some (r1,false) else (idx r1.Places v).bind fun x10 =>(qm (aW.mk r1.Graph (r1.Places.set v.toNat p))).bind fun r11 => bif !r11 then (Az f).bind (fun r13 => some (r13,false)) else some ((aW.mk r1.Graph (r1.Places.set v.toNat p)),true)
def NY (code:List Int):Option (bG × bG × bG):=(zG code).bind fun r1 =>(DC r1 (bM.mk 3 ([]:List aV))).bind fun r2 =>(FN r2.2 10).bind fun r3 =>((bif r3.1 then (JR r3.2 ([(-1),5,1000000007]:List Int)).bind (fun r9 =>(idx r2.1.Places 0).bind fun x10 => some (r2.1.Places.set (Int.toNat 0) (bG.mk r9.1 x10.Y))) else some r2.1.Places):Option (List bG)).bind fun j7 =>(idx j7 0).bind fun x11 =>(idx j7 1).bind fun x12 =>(idx j7 2).bind fun oU => some (x11,x12,oU)
def Na (code:List Int):Option (aW × aW):=(zG code).bind fun r1 =>(yK r1).bind fun r2 =>(FN r2.2 2).bind fun r3 => bif r3.1 then (Az r2.1).bind (fun r5 => some (r2.1,r5)) else (yK r3.2).bind fun r6 => some (r2.1,r6.1)
def JD (a:aW) (b:aW):Option Bool:=(((qm a).bind fun r10 => bif r10 then (qm b).bind (fun r12 => bif r12 then (bif a.Graph.aF == b.Graph.aF then (FD a).bind (fun iT =>(FD b).bind fun r16 =>(JY iT r16).bind fun kL => some kL) else some false) else some false) else some false):Option Bool).bind fun j9 => some j9
def xB (a:bG) (b:bG) (c:bG):Option Bool:=(((CX a).bind fun r8 => bif r8 then (CX b).bind (fun r10 => bif r10 then (CX c).bind (fun r12 => bif r12 then some ((aB ((aB (b.X - a.X)) * (aB (c.Y - a.Y)))) == (aB ((aB (c.X - a.X)) * (aB (b.Y - a.Y))))) else some false) else some false) else some false):Option Bool).bind fun j7 => some j7
def FK (p:bG):Option Bool:=(((xH p.X 0 4).bind fun r5 => bif r5 then (xH p.Y 0 4).bind (fun r7 => some r7) else some false):Option Bool).bind fun j4 => some j4
def Iz (a:bG) (b:bG) (c:bG):Option Bool:=(((FK a).bind fun r7 => bif !r7 then some true else (FK b).bind fun r9 => bif !r9 then some true else (FK c).bind fun r11 => some (!r11)):Option Bool).bind fun j6 => bif j6 then some false else some ((aB ((aB (b.X - a.X)) * (aB (c.Y - a.Y)))) == (aB ((aB (b.Y - a.Y)) * (aB (c.X - a.X)))))
def NV (jF:List bG) (kF:List bG) (s2:Int):Option (Int ⊕ (Unit ⊕ Bool)):=bif decide (s2 < (jF.length:Int)) then (idx jF s2).bind (fun oU =>(idx kF s2).bind fun x14 => bif !(jM [oU.X,oU.Y] [x14.X,x14.Y]) then some (.inr (.inr false)) else some (.inl (aB (s2 + 1)))) else some (.inr (.inl ()))
def NU (jF:List bG) (kF:List bG):Option Bool:=bif (jF.length:Int) != (kF.length:Int) then some false else (bW (NV jF kF) BIG 0).bind (Sum.elim (fun b11 =>(some true)) (fun r => some r))
def IG (a:aW) (b:aW):Option Bool:=(((II a.Graph b.Graph).bind fun r5 => bif r5 then (NU a.Places b.Places).bind (fun r7 => some r7) else some false):Option Bool).bind fun j4 => some j4
def Rq (code:List Int):Option Bool:=(Rt code).bind fun r1 => bif r1 then some true else (Nh code).bind fun r3 =>(NM r3).bind fun r4 =>(Ia r3).bind fun r5 =>(((JO r3).bind fun sD =>(xE r4 sD).bind fun pW => bif !pW then some true else (JG r3).bind fun qE =>(xE r5 qE).bind fun r27 => bif !r27 then some true else (sU r3).bind fun sV =>(qm r3).bind fun mG => bif sV != mG then some true else (Ez r3).bind fun r32 =>(FI r3).bind fun jL =>(Iu r32 jL).bind fun zM => bif !zM then some true else (Eu r3).bind fun Jq =>(FD r3).bind fun sF =>(Iu Jq sF).bind fun Sm => some (!Sm)):Option Bool).bind fun j22 => bif j22 then some false else (((qm r3).bind fun S9 => bif S9 then (CQ r3 r4).bind (fun TA => bif !TA then some true else (CQ r3 r5).bind fun O0 => bif !O0 then some true else (IW r4).bind fun O1 =>(JB r3).bind fun uG => bif O1 != uG then some true else (IW r5).bind fun O3 =>(JB r3).bind fun uH => bif O3 != uH then some true else (Es r3 r5).bind fun uI => bif !uI then some true else (Ia r5).bind fun BG =>(xE BG r3).bind fun O4 => some (!O4)) else some false):Option Bool).bind fun j56 => bif j56 then some false else (IJ r3).bind fun sG =>(yJ sG).bind fun dY =>(Nc code).bind fun xO =>(yJ xO).bind fun mP =>(Aq xO).bind fun mr =>(NZ code).bind fun bF =>(Nb code).bind fun fO =>(NJ fO.1 fO.2.1 fO.2.2).bind fun gQ =>(Nq fO.1 fO.2.1 fO.2.2).bind fun fU =>(NY code).bind fun bJ =>(Na code).bind fun dP =>(((FC r3).bind fun Sl => bif sG.toList == Sl.toList then (qm r3).bind (fun OX => bif dY.2 == OX then (bif !dY.2 then (bif mP.2 == mr.2 then (CQ bF.1 bF.2).bind (fun oq =>(I4 bF.1 bF.2).bind fun OY => bif oq == OY then (Es bF.1 bF.2).bind (fun OZ =>(JD bF.1 bF.2).bind fun Oa => bif OZ == Oa then (bif gQ.2 == fU.2 then (xE gQ.1 fU.1).bind (fun Oc => bif Oc then (xB bJ.1 bJ.2.1 bJ.2.2).bind (fun Oe =>(Iz bJ.1 bJ.2.1 bJ.2.2).bind fun Og => bif Oe == Og then (xB bJ.1 bJ.2.1 bJ.2.2).bind (fun Oh =>(xB bJ.2.2 bJ.1 bJ.2.1).bind fun Oi => bif Oh == Oi then (IG dP.1 dP.2).bind (fun Ol =>(xE dP.1 dP.2).bind fun ru => some (Ol == ru)) else some false) else some false) else some false) else some false) else some false) else some false) else some false) else (xE dY.1 r3).bind fun nX => bif nX then (bif mP.2 == mr.2 then (CQ bF.1 bF.2).bind (fun xM =>(I4 bF.1 bF.2).bind fun wR => bif xM == wR then (Es bF.1 bF.2).bind (fun Om =>(JD bF.1 bF.2).bind fun Oo => bif Om == Oo then (bif gQ.2 == fU.2 then (xE gQ.1 fU.1).bind (fun Oq => bif Oq then (xB bJ.1 bJ.2.1 bJ.2.2).bind (fun Ot =>(Iz bJ.1 bJ.2.1 bJ.2.2).bind fun Ou => bif Ot == Ou then (xB bJ.1 bJ.2.1 bJ.2.2).bind (fun Ov =>(xB bJ.2.2 bJ.1 bJ.2.1).bind fun Ox => bif Ov == Ox then (IG dP.1 dP.2).bind (fun Oy =>(xE dP.1 dP.2).bind fun Oz => some (Oy == Oz)) else some false) else some false) else some false) else some false) else some false) else some false) else some false) else some false) else some false) else some false):Option Bool).bind fun j128 => some j128
abbrev SM (n:Nat):Prop:=n ≤ 2147483648
theorem NH (x lo hi:Int):xH x lo hi = some (decide (lo ≤ x) && decide (x ≤ hi)):=by
 unfold xH
 cases decide (lo ≤ x) <;> simp
theorem KE (x lo hi:Int):Am x lo hi = some (decide (lo ≤ x) && decide (x ≤ hi)):=by
 unfold Am
 cases decide (lo ≤ x) <;> simp
theorem ZQ (a b:Int):Ii a b = some (if a < b then -1 else if b < a then 1 else 0):=by
 unfold Ii
 by_cases h1:a < b
 ·simp [h1]
 ·by_cases h2:b < a <;> simp [h1,h2]
def uZ (x y:aV):Bool:=decide (y.A < x.A) || (x.A == y.A && decide (y.B < x.B))
theorem ZP (x y:aV):∃ c,Ih x y = some c ∧ decide (0 < c) = uZ x y:=by
 unfold Ih uZ
 rw [ZQ,ZQ]
 by_cases h1:x.A < y.A
 ·have h3:(x.A == y.A) = false:=by simp; omega
  exact ⟨-1,by simp [h1],by simp [h3]; omega⟩
 ·by_cases h2:y.A < x.A
  ·exact ⟨1,by simp [h1,h2],by simp [h2]⟩
  ·have:x.A = y.A:=by omega
   by_cases h3:x.B < y.B
   ·exact ⟨-1,by simp [this,h3],by simp [this]; omega⟩
   ·by_cases h4:y.B < x.B
    ·exact ⟨1,by simp [this,h3,h4],by simp [this,h4]⟩
    ·exact ⟨0,by simp [this,h3,h4],by simp [this]; omega⟩
theorem aA1 (x y:aV):FO x y = some (!uZ x y):=by
 unfold FO uZ
 by_cases h1:x.A < y.A
 ·have h3:(x.A == y.A) = false:=by simp; omega
  simp [h1,h3]; omega
 ·by_cases h2:y.A < x.A
  ·have h3:(x.A == y.A) = false:=by simp; omega
   simp [h1,h2,h3]
  ·have:x.A = y.A:=by omega
   by_cases h4:y.B < x.B
   ·have h5:¬ x.B ≤ y.B:=by omega
    simp [this,h4,h5]
   ·have h5:x.B ≤ y.B:=by omega
    simp [this,h4,h5]
def Gl (g:bM) (k:Nat):Bool:=match g.aA[k]? with
 | none => false
 | some x => decide (x.A < 0) || decide (x.B ≤ x.A) || decide (g.aF ≤ x.B) || (decide (0 < k) && match g.aA[k - 1]? with
  | none => false
  | some y => uZ y x)
def vG (g:bM):Bool:=decide (1 ≤ g.aF) && decide (g.aF ≤ 8) && !decide (24 < (g.aA.length:Int)) && !(List.range' 0 g.aA.length).any (Gl g)
theorem WZ (g:bM) (h:SM g.aA.length):Et g = some (vG g):=by
 have e:bW (CS g) BIG 0 = some (bif (List.range' 0 g.aA.length).any (Gl g) then .inr false else .inl ()):=by
  refine BZ (Gl g) false g.aA.length (by omega) (fun k hk => ?_) (by simp [CS])
  unfold CS Gl
  rw [decide_eq_true (by omega),cond_true,oH hk,Option.bind_some,List.getElem?_eq_getElem hk]
  simp only
  cases decide (g.aA[k].A < 0)
  ·cases decide (g.aA[k].B ≤ g.aA[k].A)
   ·cases decide (g.aF ≤ g.aA[k].B)
    ·by_cases h0:0 < k
     ·have e1:aB ((k:Int) - 1) = ((k - 1:Nat):Int):=by rw [fD (by omega) (by omega)]; omega
      obtain ⟨c,hc,hd⟩:=ZP (g.aA[k - 1]'(by omega)) g.aA[k]
      rw [decide_eq_true (show (0:Int) < (k:Int) by omega),decide_eq_true h0,e1,oH (show k - 1 < g.aA.length by omega),List.getElem?_eq_getElem (show k - 1 < g.aA.length by omega)]
      simp only [cond_false,cond_true,Option.bind_some,hc,hd,Bool.false_or,Bool.true_and]
     ·rw [decide_eq_false (show ¬ (0:Int) < (k:Int) by omega),decide_eq_false h0]
      rfl
    ·rfl
   ·rfl
  ·rfl
 unfold Et vG
 rw [KE,e]
 simp only [Option.bind_some]
 cases decide (1 ≤ g.aF) && decide (g.aF ≤ 8)
 ·rfl
 ·cases decide (24 < (g.aA.length:Int))
  ·cases (List.range' 0 g.aA.length).any (Gl g) <;> rfl
  ·rfl
theorem aIA (g:bM):Np g = CS g:=by
 funext s
 unfold Np CS
 have e:∀ x y,((FO x y).bind fun r => some (!r)) = (Ih x y).bind fun r => some (decide (0 < r)):=fun x y => by
  obtain ⟨c,hc,hd⟩:=ZP x y
  rw [aA1,hc]
  simp [hd]
 simp only [e]
theorem RI (g:bM) (h:SM g.aA.length):Cb g = some (vG g):=by
 rw [← WZ g h]
 unfold Cb Et
 rw [NH,KE,aIA]
structure VG (g:bM):Prop where
 p1:1 ≤ g.aF
 p8:g.aF ≤ 8
 len:g.aA.length ≤ 24
 a0:∀ {k:Nat} {x:aV},g.aA[k]? = some x → 0 ≤ x.A
 ab:∀ {k:Nat} {x:aV},g.aA[k]? = some x → x.A < x.B
 bp:∀ {k:Nat} {x:aV},g.aA[k]? = some x → x.B < g.aF
 srt:∀ {k:Nat} {x y:aV},g.aA[k]? = some x → g.aA[k + 1]? = some y → uZ x y = false
theorem yX {g:bM} (h:vG g = true):VG g:=by
 unfold vG at h
 simp only [Bool.and_eq_true,Bool.not_eq_true',decide_eq_true_eq,decide_eq_false_iff_not] at h
 obtain ⟨⟨⟨h1,h2⟩,h3⟩,h4⟩:=h
 rw [D7] at h4
 have hb:∀ {k:Nat} {x:aV},g.aA[k]? = some x → 0 ≤ x.A ∧ x.A < x.B ∧ x.B < g.aF ∧ ∀ {y:aV},0 < k → g.aA[k - 1]? = some y → uZ y x = false:=fun {k x} hx => by
  have hk:k < g.aA.length:=(List.getElem?_eq_some_iff.1 hx).1
  have:=h4 k (by omega) (by omega)
  unfold Gl at this
  rw [hx] at this
  simp only [Bool.or_eq_false_iff,decide_eq_false_iff_not,Bool.and_eq_false_iff] at this
  obtain ⟨⟨⟨a,b⟩,c⟩,d⟩:=this
  refine ⟨by omega,by omega,by omega,fun {y} hk hy => ?_⟩
  rw [hy] at d
  rcases d with d | d
  ·exact absurd hk d
  ·exact d
 exact ⟨h1,h2,by omega,fun hx => (hb hx).1,fun hx => (hb hx).2.1,fun hx => (hb hx).2.2.1,fun {k x y} hx hy => (hb hy).2.2.2 (by omega) (by simpa using hx)⟩
theorem VG.sm {g:bM} (h:VG g):SM g.aA.length:=by have:=h.len; omega
def aAJ (l:List Int) (x:Int):Bool:=l.any (· == x)
def yj {α:Type} (l:List α) (p:α → Bool) (k:Nat):Bool:=match l[k]? with
 | some x => p x
 | none => false
theorem Yk {α:Type} {l:List α} {k:Nat} (h:k < l.length) (p:α → Bool):yj l p k = p l[k]:=by simp [yj,h]
theorem CB {α:Type} {l:List α} {i:Int} (d:α) (h0:0 ≤ i) (h1:i < (l.length:Int)):idx l i = some ((l[i.toNat]?).getD d):=by
 unfold idx
 rw [if_pos h0,List.getElem?_eq_getElem (by omega)]
 rfl
def dH (f:aW) (v:Int):bG:=(f.Places[v.toNat]?).getD ⟨0,0⟩
def mO (p:bG):Bool:=(decide (0 ≤ p.X) && decide (p.X ≤ 4)) && (decide (0 ≤ p.Y) && decide (p.Y ≤ 4))
theorem aAv (p:bG):CX p = some (mO p):=by
 unfold CX mO
 rw [KE,KE]
 simp only [Option.bind_some]
 cases decide (0 ≤ p.X) && decide (p.X ≤ 4) <;> rfl
def xk (f:aW) (k:Nat):Bool:=match f.Graph.aA[k]? with
 | none => false
 | some x => jM [(dH f x.A).X,(dH f x.A).Y] [(dH f x.B).X,(dH f x.B).Y] || (decide (0 < k) && match f.Graph.aA[k - 1]? with
  | none => false
  | some y => jM [y.A,y.B] [x.A,x.B])
def vF (f:aW):Bool:=vG f.Graph && !decide (6 < f.Graph.aF) && !((f.Places.length:Int) != f.Graph.aF) && !decide (15 < (f.Graph.aA.length:Int)) && !(List.range' 0 f.Places.length).any (yj f.Places fun p => !mO p) && !(List.range' 0 f.Graph.aA.length).any (xk f)
theorem aH6 (f:aW) (h:SM f.Places.length):bW (IY f) BIG 0 = some (bif (List.range' 0 f.Places.length).any (yj f.Places fun p => !mO p) then .inr false else .inl ()):=by
 refine BZ _ false f.Places.length (by omega) (fun k hk => ?_) (by simp [IY])
 unfold IY
 rw [decide_eq_true (by omega),cond_true,oH hk,Option.bind_some,Yk hk,aAv,Option.bind_some]
theorem aH8 (f:aW) (h:SM f.Places.length):bW (JE f) BIG 0 = some (bif (List.range' 0 f.Places.length).any (yj f.Places fun p => !mO p) then .inr false else .inl ()):=by
 refine BZ _ false f.Places.length (by omega) (fun k hk => ?_) (by simp [JE])
 unfold JE mO
 rw [decide_eq_true (by omega),cond_true,oH hk,Yk hk]
 simp only [NH,Option.bind_some]
 cases decide (0 ≤ f.Places[k].X) && decide (f.Places[k].X ≤ 4) <;> rfl
theorem aH7 (f:aW) (hv:VG f.Graph) (hp:(f.Places.length:Int) = f.Graph.aF):bW (IZ f) BIG 0 = some (bif (List.range' 0 f.Graph.aA.length).any (xk f) then .inr false else .inl ()):=by
 refine BZ _ false f.Graph.aA.length (by have:=hv.len; omega) (fun k hk => ?_) (by simp [IZ])
 have hx:=List.getElem?_eq_getElem hk
 have a0:=hv.a0 hx
 have ab:=hv.ab hx
 have bp:=hv.bp hx
 unfold IZ xk
 rw [decide_eq_true (by omega),cond_true,oH hk,Option.bind_some,hx]
 simp only [CB (⟨0,0⟩:bG) a0 (show f.Graph.aA[k].A < (f.Places.length:Int) by omega),CB (⟨0,0⟩:bG) (show 0 ≤ f.Graph.aA[k].B by omega) (show f.Graph.aA[k].B < (f.Places.length:Int) by omega),Option.bind_some]
 by_cases h0:0 < k
 ·have hl:=hv.len
  have e1:aB ((k:Int) - 1) = ((k - 1:Nat):Int):=by rw [fD (by omega) (by omega)]; omega
  rw [decide_eq_true (show (0:Int) < (k:Int) by omega),decide_eq_true h0,cond_true,e1,oH (show k - 1 < f.Graph.aA.length by omega),Option.bind_some,List.getElem?_eq_getElem (show k - 1 < f.Graph.aA.length by omega)]
  simp only [Bool.true_and,dH]
  cases jM [f.Graph.aA[k - 1].A,f.Graph.aA[k - 1].B] [f.Graph.aA[k].A,f.Graph.aA[k].B] <;> simp
 ·rw [decide_eq_false (show ¬ (0:Int) < (k:Int) by omega),decide_eq_false h0]
  simp [dH]
theorem aH9 (f:aW) (hv:VG f.Graph) (hp:(f.Places.length:Int) = f.Graph.aF):bW (JF f) BIG 0 = some (bif (List.range' 0 f.Graph.aA.length).any (xk f) then .inr false else .inl ()):=by
 refine BZ _ false f.Graph.aA.length (by have:=hv.len; omega) (fun k hk => ?_) (by simp [JF])
 have hx:=List.getElem?_eq_getElem hk
 have a0:=hv.a0 hx
 have ab:=hv.ab hx
 have bp:=hv.bp hx
 unfold JF xk
 rw [decide_eq_true (by omega),cond_true,oH hk,Option.bind_some,hx]
 simp only [CB (⟨0,0⟩:bG) a0 (show f.Graph.aA[k].A < (f.Places.length:Int) by omega),CB (⟨0,0⟩:bG) (show 0 ≤ f.Graph.aA[k].B by omega) (show f.Graph.aA[k].B < (f.Places.length:Int) by omega),Option.bind_some]
 by_cases h0:0 < k
 ·have hl:=hv.len
  have e1:aB ((k:Int) - 1) = ((k - 1:Nat):Int):=by rw [fD (by omega) (by omega)]; omega
  rw [decide_eq_true (show (0:Int) < (k:Int) by omega),decide_eq_true h0,cond_true,e1,oH (show k - 1 < f.Graph.aA.length by omega),Option.bind_some,List.getElem?_eq_getElem (show k - 1 < f.Graph.aA.length by omega)]
  simp only [Bool.true_and,dH]
  generalize jM [((f.Places[f.Graph.aA[k].A.toNat]?).getD ⟨0,0⟩).X,_] _ = c
  cases c <;> simp
 ·rw [decide_eq_false (show ¬ (0:Int) < (k:Int) by omega),decide_eq_false h0]
  simp only [cond_false,Bool.false_and,Bool.or_false,dH]
  generalize jM [((f.Places[f.Graph.aA[k].A.toNat]?).getD ⟨0,0⟩).X,_] _ = c
  cases c <;> simp
theorem zk {a b:Int}:(a != b) = false ↔ a = b:=by simp
theorem vN (f:aW) (h:SM f.Graph.aA.length) (h2:SM f.Places.length):sU f = some (vF f):=by
 unfold sU vF
 rw [WZ _ h,aH6 f h2]
 cases hg:vG f.Graph
 ·rfl
 ·cases decide (6 < f.Graph.aF)
  ·cases decide (15 < (f.Graph.aA.length:Int))
   ·cases hp:((f.Places.length:Int) != f.Graph.aF)
    ·rw [aH7 f (yX hg) (zk.1 hp)]
     cases (List.range' 0 f.Places.length).any (yj f.Places fun p => !mO p)
     ·cases (List.range' 0 f.Graph.aA.length).any (xk f) <;> rfl
     ·rfl
    ·rfl
   ·cases ((f.Places.length:Int) != f.Graph.aF) <;> rfl
  ·rfl
theorem rX (f:aW) (h:SM f.Graph.aA.length) (h2:SM f.Places.length):qm f = some (vF f):=by
 unfold qm vF
 rw [RI _ h,aH8 f h2]
 cases hg:vG f.Graph
 ·rfl
 ·cases decide (6 < f.Graph.aF)
  ·cases hp:((f.Places.length:Int) != f.Graph.aF)
   ·cases decide (15 < (f.Graph.aA.length:Int))
    ·rw [aH9 f (yX hg) (zk.1 hp)]
     cases (List.range' 0 f.Places.length).any (yj f.Places fun p => !mO p)
     ·cases (List.range' 0 f.Graph.aA.length).any (xk f) <;> rfl
     ·rfl
    ·rfl
   ·rfl
  ·rfl
structure VF (f:aW):Prop where
 g:VG f.Graph
 p6:f.Graph.aF ≤ 6
 len:f.Graph.aA.length ≤ 15
 oO:(f.Places.length:Int) = f.Graph.aF
 grid:∀ {k:Nat} {p:bG},f.Places[k]? = some p → 0 ≤ p.X ∧ p.X ≤ 4 ∧ 0 ≤ p.Y ∧ p.Y ≤ 4
 dif:∀ {k:Nat} {x:aV},f.Graph.aA[k]? = some x → jM [(dH f x.A).X,(dH f x.A).Y] [(dH f x.B).X,(dH f x.B).Y] = false
 nod:∀ {k:Nat} {x y:aV},f.Graph.aA[k]? = some x → f.Graph.aA[k + 1]? = some y → jM [x.A,x.B] [y.A,y.B] = false
theorem lY {f:aW} (h:vF f = true):VF f:=by
 unfold vF at h
 simp only [Bool.and_eq_true,Bool.not_eq_true',decide_eq_false_iff_not] at h
 obtain ⟨⟨⟨⟨⟨h1,h2⟩,h3⟩,h4⟩,h5⟩,h6⟩:=h
 rw [D7] at h5 h6
 refine ⟨yX h1,by omega,by omega,zk.1 h3,fun {k p} hk => ?_,fun {k x} hk => ?_,fun {k x y} hx hy => ?_⟩
 ·have hl:=(List.getElem?_eq_some_iff.1 hk).1
  have:=h5 k (by omega) (by omega)
  unfold yj at this
  rw [hk] at this
  simp only [Bool.not_eq_false',mO,Bool.and_eq_true,decide_eq_true_eq] at this
  exact ⟨this.1.1,this.1.2,this.2.1,this.2.2⟩
 ·have hl:=(List.getElem?_eq_some_iff.1 hk).1
  have:=h6 k (by omega) (by omega)
  unfold xk at this
  rw [hk] at this
  simp only [Bool.or_eq_false_iff] at this
  exact this.1
 ·have hl:=(List.getElem?_eq_some_iff.1 hy).1
  have:=h6 (k + 1) (by omega) (by omega)
  unfold xk at this
  rw [hy] at this
  simp only [Bool.or_eq_false_iff,Nat.add_sub_cancel,hx] at this
  simpa using this.2
theorem VF.yO {f:aW} (h:VF f) {v:Int} (h0:0 ≤ v) (h1:v < f.Graph.aF):idx f.Places v = some (dH f v):=CB _ h0 (by have:=h.oO; omega)
theorem VF.xK {f:aW} (h:VF f) {v:Int} (h0:0 ≤ v) (h1:v < f.Graph.aF):0 ≤ (dH f v).X ∧ (dH f v).X ≤ 4 ∧ 0 ≤ (dH f v).Y ∧ (dH f v).Y ≤ 4:=by
 have hp:=h.oO
 have hl:v.toNat < f.Places.length:=by omega
 have e:f.Places[v.toNat]? = some (dH f v):=by unfold dH; rw [List.getElem?_eq_getElem hl]; rfl
 exact h.grid e
theorem YB {a b c d:Int} (h1:0 ≤ a ∧ a ≤ 4) (h2:0 ≤ b ∧ b ≤ 4) (h3:0 ≤ c ∧ c ≤ 4) (h4:0 ≤ d ∧ d ≤ 4):aB (aB (aB (a - b) * aB (a - b)) + aB (aB (c - d) * aB (c - d))) = (a - b) * (a - b) + (c - d) * (c - d):=by
 have sq:∀ x y:Int,0 ≤ x ∧ x ≤ 4 → 0 ≤ y ∧ y ≤ 4 → 0 ≤ (x - y) * (x - y) ∧ (x - y) * (x - y) ≤ 16:=fun x y hx hy => by
  have hz:∀ z:Int,-4 ≤ z → z ≤ 4 → 0 ≤ z * z ∧ z * z ≤ 16:=fun z h1 h2 => by
   have:z = -4 ∨ z = -3 ∨ z = -2 ∨ z = -1 ∨ z = 0 ∨ z = 1 ∨ z = 2 ∨ z = 3 ∨ z = 4:=by omega
   rcases this with h | h | h | h | h | h | h | h | h <;> subst h <;> decide
  exact hz _ (by omega) (by omega)
 have a1:=sq a b h1 h2
 have a2:=sq c d h3 h4
 rw [fD (n:=a - b) (by omega) (by omega),fD (n:=c - d) (by omega) (by omega),fD (n:=(a - b) * (a - b)) (by omega) (by omega),fD (n:=(c - d) * (c - d)) (by omega) (by omega),fD (by omega) (by omega)]
def xQ (p q:bG):Int:=(p.X - q.X) * (p.X - q.X) + (p.Y - q.Y) * (p.Y - q.Y)
theorem aCZ {f:aW} (h:VF f) {a b:Int} (a0:0 ≤ a) (a1:a < f.Graph.aF) (b0:0 ≤ b) (b1:b < f.Graph.aF):IX f a b = some (xQ (dH f a) (dH f b)):=by
 have ga:=h.xK a0 a1
 have gb:=h.xK b0 b1
 unfold IX xQ
 simp only [h.yO a0 a1,h.yO b0 b1,Option.bind_some]
 rw [YB ⟨ga.1,ga.2.1⟩ ⟨gb.1,gb.2.1⟩ ⟨ga.2.2.1,ga.2.2.2⟩ ⟨gb.2.2.1,gb.2.2.2⟩]
def FY (f:aW) (a:Nat):List Int:=pieces (fun j => [xQ (dH f a) (dH f ((a + 1 + j:Nat):Int))]) (f.Places.length - (a + 1))
theorem XO (f:aW) (a:Nat):(FY f a).length ≤ f.Places.length:=by
 have:=pieces_len (f:=fun j => [xQ (dH f a) (dH f ((a + 1 + j:Nat):Int))]) (c:=1) (f.Places.length - (a + 1)) (fun k _ => by simp)
 unfold FY
 omega
def pairs (f:aW):List Int:=pieces (FY f) f.Places.length
theorem VF.small {f:aW} (h:VF f):f.Places.length ≤ 6:=by have:=h.oO; have:=h.p6; omega
theorem aIn {f:aW} (h:VF f):bW (Ew f) BIG (0,[]) = some (pairs f):=by
 have hs:=h.small
 have hp:=h.oO
 have:=Gj (b:=Ew f) (s:=(0,[])) (fun k out => ((k:Int),out)) (FY f) id 6 f.Places.length [] (by omega) rfl (fun k hk => by have:=XO f k; omega) (fun k out hk ho => by
  simp only [List.length_nil,Nat.zero_add] at ho
  have e:=Gj (b:=Ib f ((k:Int),out)) (s:=(aB ((k:Int) + 1),out)) (fun j o => (((k + 1 + j:Nat):Int),o)) (fun j => [xQ (dH f k) (dH f ((k + 1 + j:Nat):Int))]) (fun o => ((k:Int),o)) 1 (f.Places.length - (k + 1)) out (by omega) (by rw [fP (by omega)]) (fun _ _ => by simp)
   (fun j o hj ho2 => by
    unfold Ib
    simp only [aCZ h (a:=(k:Int)) (b:=((k + 1 + j:Nat):Int)) (by omega) (by omega) (by omega) (by omega),Option.bind_some]
    rw [decide_eq_true (by omega),cond_true,jy (by simp; omega),Option.bind_some,fP (by omega)]
    rfl)
   (fun o => by
    unfold Ib
    simp only
    rw [decide_eq_false (by omega)]
    rfl)
  unfold Ew
  simp only [e,Option.bind_some]
  rw [decide_eq_true (by omega),cond_true,fP (by omega)]
  rfl) (fun out => by simp [Ew])
 rw [this]
 rfl
theorem aIo {f:aW} (h:VF f) (hv:vF f = true):bW (Ap f) BIG (0,[]) = some (pairs f):=by
 have hs:=h.small
 have hp:=h.oO
 have hb:=h.len
 have:=Gj (b:=Ap f) (s:=(0,[])) (fun k out => ((k:Int),out)) (FY f) id 6 f.Places.length [] (by omega) rfl (fun k hk => by have:=XO f k; omega) (fun k out hk ho => by
  simp only [List.length_nil,Nat.zero_add] at ho
  have e:=Gj (b:=JH f ((k:Int),out)) (s:=(aB ((k:Int) + 1),out)) (fun j o => (((k + 1 + j:Nat):Int),o)) (fun j => [xQ (dH f k) (dH f ((k + 1 + j:Nat):Int))]) (fun o => ((k:Int),o)) 1 (f.Places.length - (k + 1)) out (by omega) (by rw [fP (by omega)]) (fun _ _ => by simp)
   (fun j o hj ho2 => by
    have ga:=h.xK (v:=(k:Int)) (by omega) (by omega)
    have gb:=h.xK (v:=((k + 1 + j:Nat):Int)) (by omega) (by omega)
    unfold JH xQ
    simp only [h.yO (v:=(k:Int)) (by omega) (by omega),h.yO (v:=((k + 1 + j:Nat):Int)) (by omega) (by omega),Option.bind_some]
    rw [YB ⟨ga.1,ga.2.1⟩ ⟨gb.1,gb.2.1⟩ ⟨ga.2.2.1,ga.2.2.2⟩ ⟨gb.2.2.1,gb.2.2.2⟩]
    rw [decide_eq_true (by omega),cond_true,jy (by simp; omega),Option.bind_some,fP (by omega)]
    rfl)
   (fun o => by
    unfold JH
    simp only
    rw [decide_eq_false (by omega)]
    rfl)
  unfold Ap
  simp only [e,rX f (by omega) (by omega),hv,Option.bind_some]
  rw [decide_eq_true (by omega),cond_true,fP (by omega)]
  rfl) (fun out => by simp [Ap])
 rw [this]
 rfl
theorem aBr {f:aW} (h:VF f):(pairs f).length ≤ 36:=by
 have hs:=h.small
 have:=pieces_len (f:=FY f) (c:=6) f.Places.length (fun k _ => by have:=XO f k; omega)
 unfold pairs
 omega
def vO (f:aW):List Int:=bif vF f then pairs f else []
theorem aBq (f:aW):SM (vO f).length:=by
 unfold vO
 cases h:vF f
 ·exact Nat.zero_le _
 ·have:=aBr (lY h)
  show SM (pairs f).length
  omega
theorem XL (f:aW) (h:SM f.Graph.aA.length) (h2:SM f.Places.length):Eu f = some (vO f):=by
 unfold Eu vO
 rw [vN f h h2]
 cases hv:vF f
 ·rfl
 ·simp only [Option.bind_some,Bool.not_true,cond_false,aIn (lY hv),cond_true]
theorem XM (f:aW) (h:SM f.Graph.aA.length) (h2:SM f.Places.length):FD f = some (vO f):=by
 unfold FD vO
 cases hv:vF f
 ·have e:bW (Ap f) BIG (0,[]) = some []:=by
   refine jl (fun _ => (0,[])) 0 (by omega) rfl (fun k hk => by omega) ?_
   unfold Ap
   rw [rX f h h2,hv]
   cases decide ((0:Int) < (f.Places.length:Int)) <;> rfl
  rw [e]
  rfl
 ·rw [aIo (lY hv) hv]
  rfl
theorem Zn {b:Int → Option (Int ⊕ (Unit ⊕ Bool))} (a c:List Int) (ha:SM a.length) (hl:a.length = c.length) (h:∀ (k:Nat) x y,k < a.length → a[k]? = some x → c[k]? = some y → b k = bif x != y then some (.inr (.inr false)) else some (.inl (aB ((k:Int) + 1)))) (hr:b a.length = some (.inr (.inl ()))) :
  ((bW b BIG 0).bind (Sum.elim (fun _ => some true) (fun r => some r))) = some (decide (a = c)):=by
 have e:=BZ (b:=b) (fun k => match a[k]?,c[k]? with | some x,some y => x != y | _,_ => false) false a.length (by omega) (fun k hk => by
  rw [h k a[k] (c[k]'(by omega)) hk (List.getElem?_eq_getElem hk) (List.getElem?_eq_getElem (by omega)),List.getElem?_eq_getElem hk,List.getElem?_eq_getElem (by omega)]) hr
 rw [e]
 by_cases hac:a = c
 ·subst hac
  rw [D7.2 (fun k _ hk => by rw [List.getElem?_eq_getElem (by omega)]; simp)]
  simp
 ·rw [decide_eq_false hac]
  have:(List.range' 0 a.length).any (fun k => match a[k]?,c[k]? with | some x,some y => x != y | _,_ => false) = true:=by
   cases hq:(List.range' 0 a.length).any (fun k => match a[k]?,c[k]? with | some x,some y => x != y | _,_ => false)
   ·rw [D7] at hq
    refine absurd (List.ext_getElem hl fun k h1 h2 => ?_) hac
    have:=hq k (by omega) (by omega)
    rw [List.getElem?_eq_getElem h1,List.getElem?_eq_getElem h2] at this
    simpa using this
   ·rfl
  rw [this]
  rfl
theorem aA3 (a b:List Int) (ha:SM a.length):JY a b = some (decide (a = b)):=by
 unfold JY
 by_cases hl:a.length = b.length
 ·rw [zk.2 (by rw [hl]),cond_false]
  refine Zn a b ha hl (fun k x y hk hx hy => ?_) (by simp [OA])
  unfold OA
  rw [decide_eq_true (by omega),cond_true,nV hx,nV hy,Option.bind_some,Option.bind_some]
 ·have h1:((a.length:Int) != (b.length:Int)) = true:=by simp; omega
  rw [h1,decide_eq_false (fun h => hl (by rw [h]))]
  rfl
theorem aCN (a b:List Int) (ha:SM a.length):Iy a b = some (decide (a = b)):=by
 unfold Iy
 by_cases hl:a.length = b.length
 ·rw [zk.2 (by rw [hl]),cond_false]
  refine Zn a b ha hl (fun k x y hk hx hy => ?_) (by simp [NT])
  unfold NT
  rw [decide_eq_true (by omega),cond_true,nV hx,nV hy,Option.bind_some,Option.bind_some]
 ·have h1:((a.length:Int) != (b.length:Int)) = true:=by simp; omega
  rw [h1,decide_eq_false (fun h => hl (by rw [h]))]
  rfl
def Gv (a b:aW):Bool:=vF a && (vF b && ((a.Graph.aF == b.Graph.aF) && decide (vO a = vO b)))
def aId (set:List Int) (k:Nat) (a:List Int × Nat):List Int × Nat:=bif aAJ set k then (a.1 ++ [-1],a.2) else (a.1 ++ [(a.2:Int)],a.2 + 1)
def names (set:List Int) (n:Nat):List Int × Nat:=iter (aId set) n ([],0)
def nm (l:List Int) (v:Int):Int:=(l[v.toNat]?).getD 0
theorem has_eq {g:bM} (h:VG g) (v:Int):NI g v = some (decide (0 ≤ v) && decide (v < g.aF)):=by
 have h1:=h.p1
 have h8:=h.p8
 unfold NI
 rw [KE,fD (by omega) (by omega),Option.bind_some]
 congr 2
 rw [decide_eq_decide]
 omega
theorem aA2 (g:bM) (h:SM g.aA.length):DF g = some g:=by
 unfold DF
 rw [jy (by simp; omega)]
 rfl
theorem aEl (l:List Int) (h:SM l.length):Ij l = some l:=by
 unfold Ij
 rw [jy (by simp; omega)]
 rfl
structure VV (f:aW) (v:List Int):Prop where
 fr:VF f
 len:(v.length:Int) = 2 * f.Graph.aF
 sm:∀ {k:Nat} {x:Int},v[k]? = some x → -10000000000 ≤ x ∧ x ≤ 10000000000
def gv (v:List Int) (i:Int):Int:=(v[i.toNat]?).getD 0
theorem VV.lt {f:aW} {v:List Int} (h:VV f v) {i:Int} (h0:0 ≤ i) (h1:i < 2 * f.Graph.aF):-10000000000 ≤ gv v i ∧ gv v i ≤ 10000000000:=by
 have hl:=h.len
 have hn:i.toNat < v.length:=by omega
 refine h.sm (k:=i.toNat) ?_
 unfold gv
 rw [List.getElem?_eq_getElem hn]
 rfl
def wM (x:aV) (v:Int):Int:=bif x.A == v then x.B else x.A
end Go.Proofs.Ytdmlaldifbmkpaa
end
section
namespace Go.Mx
def gl (v:List Int):Int:=v.foldl (fun g x => (Int.gcd g x:Int)) 0
def sQ (v:List Int):Int:=v.foldl (fun f x => if f = 0 then x else f) 0
def sg (v:List Int):Int:=if sQ v < 0 then - gl v else gl v
def dB (v:List Int):List Int:=if gl v = 0 then v else v.map fun x => Int.tdiv x (sg v)
theorem aAC:∀ (v:List Int) (g:Int),0 ≤ g → 0 ≤ v.foldl (fun g x => (Int.gcd g x:Int)) g
 | [],g,h => h
 | x :: v,g,_ => aAC v _ (Int.natCast_nonneg _)
theorem VJ (v:List Int):0 ≤ gl v:=aAC v 0 (Int.le_refl _)
theorem aAA:∀ (v:List Int) (g:Int),v.foldl (fun g x => (Int.gcd g x:Int)) g ∣ g ∧ ∀ x ∈ v,v.foldl (fun g x => (Int.gcd g x:Int)) g ∣ x
 | [],g => ⟨Int.dvd_refl _,fun x hx => by cases hx⟩
 | a :: v,g => by
  obtain ⟨h1,h2⟩:=aAA v (Int.gcd g a:Int)
  refine ⟨Int.dvd_trans h1 (Int.gcd_dvd_left ..),fun x hx => ?_⟩
  rcases List.mem_cons.1 hx with rfl | hx
  ·exact Int.dvd_trans h1 (Int.gcd_dvd_right ..)
  ·exact h2 x hx
theorem Qn {v:List Int} {x:Int} (hx:x ∈ v):gl v ∣ x:=(aAA v 0).2 x hx
theorem aAB (c:Int):∀ (v:List Int) (g:Int),0 ≤ g → (v.map (c * ·)).foldl (fun g x => (Int.gcd g x:Int)) (c.natAbs * g) = c.natAbs * v.foldl (fun g x => (Int.gcd g x:Int)) g
 | [],g,_ => rfl
 | a :: v,g,hg => by
  show (v.map (c * ·)).foldl (fun g x => (Int.gcd g x:Int)) (Int.gcd ((c.natAbs:Int) * g) (c * a):Int) = _
  have:(Int.gcd ((c.natAbs:Int) * g) (c * a):Int) = (c.natAbs:Int) * (Int.gcd g a:Int):=by
   have e:Int.gcd ((c.natAbs:Int) * g) (c * a) = c.natAbs * Int.gcd g a:=by
    rw [show Int.gcd ((c.natAbs:Int) * g) (c * a) = Nat.gcd (((c.natAbs:Int) * g).natAbs) ((c * a).natAbs) from rfl,Int.natAbs_mul,Int.natAbs_mul,Int.natAbs_natCast,Nat.gcd_mul_left]
    rfl
   rw [e,Int.natCast_mul]
  rw [this]
  exact aAB c v _ (Int.natCast_nonneg _)
theorem G7 (c:Int) (v:List Int):gl (v.map (c * ·)) = c.natAbs * gl v:=by
 have:=aAB c v 0 (Int.le_refl _)
 rwa [Int.mul_zero] at this
theorem Qo {v:List Int}:gl v = 0 ↔ ∀ x ∈ v,x = 0:=by
 refine ⟨fun h x hx => ?_,fun h => ?_⟩
 ·have:=Qn hx
  rw [h] at this
  exact Int.zero_dvd.1 this
 ·have key:∀ (v:List Int),(∀ x ∈ v,x = 0) → v.foldl (fun g x => (Int.gcd g x:Int)) 0 = 0:=fun v => by
   induction v with
   | nil => intro _; rfl
   | cons a v ih =>
    intro h
    have ha:=h a List.mem_cons_self
    subst ha
    exact ih fun x hx => h x (List.mem_cons_of_mem _ hx)
  exact key v h
theorem Zx:∀ (v:List Int) (f:Int),f ≠ 0 → v.foldl (fun f x => if f = 0 then x else f) f = f
 | [],f,_ => rfl
 | a :: v,f,h => by
  show v.foldl (fun f x => if f = 0 then x else f) (if f = 0 then a else f) = f
  rw [if_neg h]
  exact Zx v f h
theorem VA (a:Int) (v:List Int):sQ (a :: v) = if a = 0 then sQ v else a:=by
 show v.foldl (fun f x => if f = 0 then x else f) (if (0:Int) = 0 then a else 0) = _
 rw [if_pos rfl]
 by_cases h:a = 0
 ·rw [if_pos h,h]; rfl
 ·rw [if_neg h]; exact Zx v a h
theorem aFI {c:Int} (hc:c ≠ 0) (v:List Int):sQ (v.map (c * ·)) = c * sQ v:=by
 induction v with
 | nil => show (0:Int) = c * 0; omega
 | cons a v ih =>
  rw [List.map_cons,VA,VA,ih]
  by_cases h:a = 0
  ·rw [if_pos (by rw [h]; omega),if_pos h]
  ·rw [if_neg (fun e => by rcases Int.mul_eq_zero.1 e with e | e; exact hc e; exact h e),if_neg h]
theorem aFJ {v:List Int}:sQ v = 0 ↔ ∀ x ∈ v,x = 0:=by
 induction v with
 | nil => exact ⟨fun _ x hx => (by cases hx),fun _ => rfl⟩
 | cons a v ih =>
  rw [VA]
  by_cases h:a = 0
  ·rw [if_pos h,ih]
   exact ⟨fun hv x hx => by rcases List.mem_cons.1 hx with e | e; rw [e,h]; exact hv x e,fun hv x hx => hv x (List.mem_cons_of_mem _ hx)⟩
  ·rw [if_neg h]
   exact ⟨fun e => absurd e h,fun hv => absurd (hv a List.mem_cons_self) h⟩
theorem Xp {v:List Int}:sg v = 0 ↔ gl v = 0:=by unfold sg; split <;> omega
theorem Xo {v:List Int} {x:Int} (hx:x ∈ v):sg v ∣ x:=by
 unfold sg
 split
 ·exact Int.neg_dvd.2 (Qn hx)
 ·exact Qn hx
theorem aJW {c:Int} (hc:c ≠ 0) (v:List Int):sg (v.map (c * ·)) = c * sg v:=by
 unfold sg
 rw [aFI hc,G7]
 have h1:=VJ v
 by_cases hz:sQ v = 0
 ·have:gl v = 0:=Qo.2 (aFJ.1 hz)
  rw [this,hz]; simp
 ·rcases Int.lt_or_gt_of_ne hc with h | h
  ·have hn:(c.natAbs:Int) = -c:=by omega
   rw [hn]
   rcases Int.lt_or_gt_of_ne hz with g | g
   ·have:=Int.mul_pos_of_neg_of_neg h g
    rw [if_neg (by omega),if_pos g]; grind
   ·have:=Int.mul_neg_of_neg_of_pos h g
    rw [if_pos (by omega),if_neg (by omega)]; grind
  ·have hn:(c.natAbs:Int) = c:=by omega
   rw [hn]
   rcases Int.lt_or_gt_of_ne hz with g | g
   ·have:=Int.mul_neg_of_pos_of_neg h g
    rw [if_pos (by omega),if_pos g]; grind
   ·have:=Int.mul_pos h g
    rw [if_neg (by omega),if_neg (by omega)]
theorem Fb (v:List Int):(dB v).length = v.length:=by unfold dB; split <;> simp
theorem aI5 (v:List Int):v = (dB v).map ((if gl v = 0 then 1 else sg v) * ·):=by
 unfold dB
 split
 ·simp
 ·rename_i h
  rw [List.map_map]
  conv => lhs; rw [← List.map_id v]
  exact List.map_congr_left fun x hx => (Int.mul_tdiv_cancel' (Xo hx)).symm
theorem aB3 {c:Int} (hc:c ≠ 0) {v:List Int} (hv:gl v ≠ 0):dB (v.map (c * ·)) = dB v:=by
 unfold dB
 have h1:gl (v.map (c * ·)) ≠ 0:=by
  rw [G7]
  intro e
  rcases Int.mul_eq_zero.1 e with e | e
  ·omega
  ·exact hv e
 rw [if_neg h1,if_neg hv,List.map_map,aJW hc]
 refine List.map_congr_left fun x hx => ?_
 show Int.tdiv (c * x) (c * sg v) = _
 obtain ⟨q,hq⟩:=Xo hx
 have hs:sg v ≠ 0:=fun e => hv (Xp.1 e)
 rw [hq,Int.mul_tdiv_cancel_left q hs,← Int.mul_assoc,Int.mul_tdiv_cancel_left q fun e => by
  rcases Int.mul_eq_zero.1 e with e | e
  ·exact hc e
  ·exact hs e]
def GY (u v:List Int):Prop:=u.length = v.length ∧ ∃ a b:Int,a ≠ 0 ∧ b ≠ 0 ∧ ∀ k:Nat,a * u.getD k 0 = b * v.getD k 0
theorem aIX {u v:List Int} {a b:Int} (hl:u.length = v.length) (h:∀ k:Nat,a * u.getD k 0 = b * v.getD k 0):u.map (a * ·) = v.map (b * ·):=by
 refine List.ext_getElem (by simpa using hl) fun k h1 h2 => ?_
 have h1:k < u.length:=by simpa using h1
 have h2:k < v.length:=by simpa using h2
 have:=h k
 simp only [List.getD_eq_getElem?_getD,List.getElem?_eq_getElem h1,List.getElem?_eq_getElem h2,Option.getD_some] at this
 simpa using this
theorem GY.dB {u v:List Int} (h:GY u v):dB u = dB v:=by
 obtain ⟨hl,a,b,ha,hb,h⟩:=h
 have hm:=aIX hl h
 by_cases hu:gl u = 0
 ·have hv:gl v = 0:=by
   have:=congrArg gl hm
   rw [G7,G7,hu] at this
   have:(b.natAbs:Int) * gl v = 0:=by omega
   rcases Int.mul_eq_zero.1 this with e | e
   ·omega
   ·exact e
  have e1:Mx.dB u = u:=if_pos hu
  have e2:Mx.dB v = v:=if_pos hv
  rw [e1,e2]
  have z1:=Qo.1 hu
  have z2:=Qo.1 hv
  refine List.ext_getElem hl fun k h1 h2 => ?_
  rw [z1 _ (List.getElem_mem h1),z2 _ (List.getElem_mem h2)]
 ·have hv:gl v ≠ 0:=fun hv => hu (by
   have:=congrArg gl hm
   rw [G7,G7,hv] at this
   have:(a.natAbs:Int) * gl u = 0:=by omega
   rcases Int.mul_eq_zero.1 this with e | e
   ·omega
   ·exact e)
  rw [← aB3 ha hu,hm,aB3 hb hv]
theorem GY.refl (u:List Int):GY u u:=⟨rfl,1,1,by decide,by decide,fun _ => rfl⟩
theorem aFN (c:Int) (v:List Int) (k:Nat):(v.map (c * ·)).getD k 0 = c * v.getD k 0:=by
 simp only [List.getD_eq_getElem?_getD,List.getElem?_map]
 cases v[k]? <;> simp
theorem Sj (v:List Int):∃ t:Int,t ≠ 0 ∧ ∀ k:Nat,v.getD k 0 = t * (dB v).getD k 0:=by
 refine ⟨if gl v = 0 then 1 else sg v,?_,fun k => ?_⟩
 ·split
  ·decide
  ·rename_i h
   exact fun e => h (Xp.1 e)
 ·conv => lhs; rw [aI5 v]
  exact aFN ..
theorem OU (v:List Int) (k:Nat):(dB v).getD k 0 = 0 ↔ v.getD k 0 = 0:=by
 obtain ⟨t,ht,h⟩:=Sj v
 rw [h k]
 refine ⟨fun e => by rw [e,Int.mul_zero],fun e => ?_⟩
 rcases Int.mul_eq_zero.1 e with e | e
 ·exact absurd e ht
 ·exact e
theorem aB2 (v:List Int) {B:Int} (hB:∀ k:Nat,(v.getD k 0).natAbs ≤ B) (k:Nat):((dB v).getD k 0).natAbs ≤ B:=by
 obtain ⟨t,ht,h⟩:=Sj v
 have h1:=hB k
 rw [h k,Int.natAbs_mul] at h1
 have h2:1 ≤ t.natAbs:=by omega
 have h3:1 * ((dB v).getD k 0).natAbs ≤ t.natAbs * ((dB v).getD k 0).natAbs:=Nat.mul_le_mul_right _ h2
 omega
end Go.Mx
end
section
open Go Go.Fw Go.Mx
namespace Go.Proofs.Ytdmlaldifbmkpaa
theorem SE {x:Int} (h:x ≠ 0):nz x = some ():=by unfold nz; rw [if_pos h]
theorem aJ2 (a b:Nat):Int.tmod (a:Int) (b:Int) = ((a % b:Nat):Int):=(Int.ofNat_tmod a b).symm
theorem aE7 {bm:Int × Int → Option ((Int × Int) ⊕ Int)} (h0:∀ a:Nat,bm ((a:Int),((0:Nat):Int)) = some (.inr (a:Int))) (h1:∀ a b:Nat,0 < b → bm ((a:Int),(b:Int)) = some (.inl ((b:Int),((a % b:Nat):Int)))) :
  ∀ (m a b f:Nat),b < 2 ^ m → 2 * m + 1 ≤ f → bW bm f ((a:Int),(b:Int)) = some ((Nat.gcd a b:Nat):Int):=by
 intro m
 induction m with
 | zero =>
  intro a b f hb hf
  have:b = 0:=by simp at hb; omega
  subst this
  obtain ⟨f,rfl⟩:∃ g,f = g + 1:=⟨f - 1,by omega⟩
  unfold bW
  rw [h0,Nat.gcd_zero_right]
 | succ m ih =>
  intro a b f hb hf
  obtain ⟨f,rfl⟩:∃ g,f = g + 2:=⟨f - 2,by omega⟩
  by_cases hb0:b = 0
  ·subst hb0
   unfold bW
   rw [h0,Nat.gcd_zero_right]
  ·unfold bW
   rw [h1 a b (by omega)]
   show bW bm (f + 1) ((b:Int),((a % b:Nat):Int)) = _
   have e1:Nat.gcd a b = Nat.gcd b (a % b):=by rw [Nat.gcd_comm b,← Nat.gcd_rec,Nat.gcd_comm]
   rw [e1]
   by_cases hc0:a % b = 0
   ·rw [hc0]
    unfold bW
    rw [h0,Nat.gcd_zero_right]
   ·unfold bW
    rw [h1 b (a % b) (by omega)]
    show bW bm f (((a % b:Nat):Int),((b % (a % b):Nat):Int)) = _
    have e2:Nat.gcd b (a % b) = Nat.gcd (a % b) (b % (a % b)):=by rw [Nat.gcd_comm (a % b),← Nat.gcd_rec,Nat.gcd_comm]
    rw [e2]
    refine ih _ _ f ?_ (by omega)
    have hlt:a % b < b:=Nat.mod_lt _ (by omega)
    have hlt2:b % (a % b) < a % b:=Nat.mod_lt _ (by omega)
    have hle:(a % b) + b % (a % b) ≤ b:=by
     have:=Nat.div_add_mod b (a % b)
     have hq:1 ≤ b / (a % b):=Nat.div_pos (by omega) (by omega)
     have:=Nat.mul_le_mul_left (a % b) hq
     omega
    rw [Nat.pow_succ] at hb
    omega
def Small (B:Int) (x:Int):Prop:=-B ≤ x ∧ x ≤ B
def G9:Int:=9000000000000000000
theorem Yb {x:Int} (h:Small G9 x):(if x < aB (-x) then aB (-x) else x) = ((x.natAbs:Nat):Int):=by
 unfold Small G9 at h
 rw [Fz (by omega) (by omega)]
 split <;> omega
theorem aIe {x:Int} (h:Small G9 x):x.natAbs < 2 ^ 63:=by
 unfold Small G9 at h
 have:(2:Nat) ^ 63 = 9223372036854775808:=by decide
 omega
theorem aDe:1000 ≤ BIG:=by unfold BIG; omega
theorem Z8 {a b:Int} (ha:Small G9 a) (hb:Small G9 b):JC a b = some (Int.gcd a b:Int):=by
 have ha':=ha
 have hb':=hb
 unfold Small G9 at ha' hb'
 unfold JC
 simp only [NH,Option.bind_some]
 rw [decide_eq_true (show -9000000000000000000 ≤ a by omega),decide_eq_true (show a ≤ 9000000000000000000 by omega),decide_eq_true (show -9000000000000000000 ≤ b by omega),decide_eq_true (show b ≤ 9000000000000000000 by omega)]
 simp only [Bool.and_self,Bool.not_true,cond_false,Option.bind_some,Yb ha,Yb hb]
 rw [aE7 (fun a => by simp [Nl]) (fun a b h => by
  unfold Nl
  rw [decide_eq_true (by show 0 < (b:Int); omega),cond_true,SE (by show (b:Int) ≠ 0; omega),Option.bind_some,aJ2]) 63 a.natAbs b.natAbs BIG (aIe hb) (by have:=aDe; omega)]
 rfl
def Pz (B:Int) (v:List Int):Prop:=∀ x ∈ v,Small B x
theorem Z4 {β:Type} (f:β → Int → β) (b:β) {v:List Int} {k:Nat} (hk:k < v.length):(v.take (k + 1)).foldl f b = f ((v.take k).foldl f b) v[k]:=by
 rw [zS hk,List.foldl_append]; rfl
theorem aAD {v:List Int} (h:Pz G9 v) (k:Nat):Small G9 (gl (v.take k)):=by
 have h0:=VJ (v.take k)
 refine ⟨by unfold G9; omega,?_⟩
 by_cases hz:gl (v.take k) = 0
 ·rw [hz]; unfold G9; omega
 ·have:¬ ∀ x ∈ v.take k,x = 0:=fun e => hz (Qo.2 e)
  obtain ⟨x,hx⟩:=Classical.not_forall.1 this
  obtain ⟨hx1,hx2⟩:=Classical.not_imp.1 hx
  have hd:=Qn hx1
  have hs:=h x (List.mem_of_mem_take hx1)
  have:=Int.le_of_dvd (by omega:(0:Int) < x.natAbs) (Int.dvd_natAbs.2 hd)
  unfold Small at hs
  omega
theorem aJX {v:List Int} (h:Pz G9 v):Small G9 (sg v):=by
 have:=aAD h v.length
 rw [List.take_length] at this
 have h0:=VJ v
 unfold Small at this ⊢
 unfold sg
 split <;> omega
theorem aJw {x g:Int} (hx:Small G9 x) (hg:g ≠ 0) (hd:g ∣ x):aB (Int.tdiv x g) = Int.tdiv x g:=by
 obtain ⟨q,hq⟩:=hd
 have e:Int.tdiv x g = q:=by rw [hq,Int.mul_tdiv_cancel_left q hg]
 rw [e]
 have h2:(q.natAbs:Int) ≤ x.natAbs:=by
  rw [hq,Int.natAbs_mul]
  have:1 * q.natAbs ≤ g.natAbs * q.natAbs:=Nat.mul_le_mul_right _ (by omega)
  omega
 unfold Small G9 at hx
 exact Fz (by omega) (by omega)
theorem aB1 (v:List Int) (hl:SM v.length) (h:Pz G9 v):Nr v = some (dB v):=by
 unfold Nr
 have hL1:bW (JK v) BIG (0,0) = some (.inl (gl v)):=by
  refine jl (fun k => (gl (v.take k),(k:Int))) v.length (by omega) (by simp [gl]) (fun k hk => ?_) ?_
  ·have hs:=h v[k] (List.getElem_mem hk)
   have hs':=hs
   unfold Small G9 at hs'
   have e1:gl (v.take (k + 1)) = (Int.gcd (gl (v.take k)) v[k]:Int):=Z4 _ _ hk
   unfold JK
   simp only [oH hk,NH,Z8 (aAD h k) hs,Option.bind_some,fP (show k ≤ 1099511627776 by omega)]
   rw [decide_eq_true (show (k:Int) < (v.length:Int) by omega),decide_eq_true (show -9000000000000000000 ≤ v[k] by omega),decide_eq_true (show v[k] ≤ 9000000000000000000 by omega),e1]
   rfl
  ·unfold JK
   simp only [List.take_length]
   rw [decide_eq_false (by omega),cond_false]
 rw [hL1,Option.bind_some]
 show (bif gl v == 0 then _ else _) = _
 have hl0:lim (([]:List Int).length + v.length) = some ():=jy (by simp; exact hl)
 by_cases hz:gl v = 0
 ·rw [hz]
  show (lim (([]:List Int).length + v.length)).bind _ = some (dB v)
  rw [hl0,dB,if_pos hz]
  rfl
 ·rw [show (gl v == 0) = false by simp [hz],cond_false]
  have hL2:bW (JL v (gl v)) BIG (0,0) = some (gl v,sQ v):=by
   refine jl (fun k => (sQ (v.take k),(k:Int))) v.length (by omega) (by simp [sQ]) (fun k hk => ?_) ?_
   ·have e2:sQ (v.take (k + 1)) = if sQ (v.take k) = 0 then v[k] else sQ (v.take k):=Z4 _ _ hk
    unfold JL
    simp only [oH hk,Option.bind_some,fP (show k ≤ 1099511627776 by omega)]
    rw [decide_eq_true (by omega),cond_true,e2]
    by_cases hz:sQ (v.take k) = 0
    ·rw [hz,if_pos rfl]; rfl
    ·rw [if_neg hz,show (sQ (v.take k) == 0) = false by simp [hz]]; rfl
   ·unfold JL
    simp only [List.take_length]
    rw [decide_eq_false (by omega),cond_false]
  rw [hL2,Option.bind_some]
  have hj:(bif decide (sQ v < 0) then some (aB (-gl v)) else some (gl v)) = some (sg v):=by
   have:=aJX h
   unfold Small G9 sg at this
   unfold sg
   by_cases hn:sQ v < 0
   ·rw [decide_eq_true hn,cond_true,if_pos hn,Fz (by rw [if_pos hn] at this; omega) (by rw [if_pos hn] at this; omega)]
   ·rw [decide_eq_false hn,cond_false,if_neg hn]
  show ((bif decide (sQ v < 0) then some (aB (-gl v)) else some (gl v)):Option Int).bind _ = _
  rw [hj,Option.bind_some]
  have hsg:sg v ≠ 0:=fun e => hz (Xp.1 e)
  have hL3:bW (JM v (sg v)) BIG (0,[]) = some (dB v):=by
   have e0:dB v = v.map fun x => Int.tdiv x (sg v):=by rw [dB,if_neg hz]
   rw [e0]
   refine jl (fun k => ((k:Int),(v.take k).map (fun x => Int.tdiv x (sg v)))) v.length (by omega) (by simp) (fun k hk => ?_) ?_
   ·have htl:(v.take k).length = k:=by rw [List.length_take]; omega
    have hlm:lim (((v.take k).map (fun x => Int.tdiv x (sg v))).length + ([Int.tdiv v[k] (sg v)]:List Int).length) = some ():=jy (by simp; omega)
    unfold JM
    simp only [oH hk,SE hsg,Option.bind_some,fP (show k ≤ 1099511627776 by omega),aJw (h v[k] (List.getElem_mem hk)) hsg (Xo (List.getElem_mem hk)),hlm]
    rw [decide_eq_true (by omega),cond_true,zS hk,List.map_append]
    rfl
   ·unfold JM
    simp only [List.take_length]
    rw [decide_eq_false (by omega),cond_false]
  rw [hL3]
  rfl
section
def mix {α:Type} (u v:List α) (i:Nat):List α:=u.take i ++ v.drop i
section
variable {α:Type} {u v:List α} {i j:Nat}
theorem SA (h:u.length = v.length) (hi:i ≤ v.length):(mix u v i).length = v.length:=by
 unfold mix
 rw [List.length_append,List.length_take,List.length_drop]
 omega
theorem XA:mix u v 0 = v:=by simp [mix]
theorem Wy (h:u.length = v.length):mix u v v.length = u:=by
 unfold mix
 rw [List.drop_length,List.append_nil,← h,List.take_length]
theorem Je (d:α) (h:u.length = v.length) (hi:i ≤ v.length):(mix u v i).getD j d = if j < i then u.getD j d else v.getD j d:=by
 unfold mix
 simp only [List.getD_eq_getElem?_getD]
 have hl:(u.take i).length = i:=by rw [List.length_take]; omega
 by_cases hj:j < i
 ·rw [if_pos hj,List.getElem?_append_left (by omega),List.getElem?_take,if_pos hj]
 ·rw [if_neg hj,List.getElem?_append_right (by omega),hl,List.getElem?_drop,show i + (j - i) = j by omega]
theorem SB {d x:α} (h:u.length = v.length) (hi:i < v.length) (hx:u.getD i d = x):(mix u v i).set i x = mix u v (i + 1):=by
 subst hx
 unfold mix
 have hl:(u.take i).length = i:=by rw [List.length_take]; omega
 rw [List.set_append_right _ _ (by omega),hl,Nat.sub_self,List.drop_eq_getElem_cons hi,List.set_cons_zero,zS (by omega),List.append_assoc]
 congr 1
 simp [List.getD_eq_getElem?_getD,List.getElem?_eq_getElem (show i < u.length by omega)]
theorem W9 {d:α} (h:u.length = v.length) (hi:i < v.length) (hx:u.getD i d = v.getD i d):mix u v i = mix u v (i + 1):=by
 rw [← SB (d:=d) h hi rfl,hx]
 refine (List.ext_getElem? fun j => ?_).symm
 rw [List.getElem?_set]
 by_cases hj:i = j
 ·subst hj
  have hl:=SA h (i:=i) (by omega)
  rw [if_pos rfl,if_pos (by omega)]
  have:=Je (j:=i) d h (i:=i) (by omega)
  rw [if_neg (by omega)] at this
  rw [← this]
  simp [List.getD_eq_getElem?_getD,List.getElem?_eq_getElem (show i < (mix u v i).length by omega)]
 ·rw [if_neg hj]
end
theorem jm {α:Type} {l:List α} {k:Nat} (d:α) (h:k < l.length):idx l (k:Int) = some (l.getD k d):=by
 rw [oH h]
 simp [List.getD_eq_getElem?_getD,List.getElem?_eq_getElem h]
theorem aJV {α:Type} {l:List α} {k:Nat} (d:α) (h:k < l.length):l.set k (l.getD k d) = l:=by
 refine List.ext_getElem? fun j => ?_
 rw [List.getElem?_set]
 by_cases hj:k = j
 ·subst hj
  rw [if_pos rfl,if_pos h]
  simp [List.getD_eq_getElem?_getD,List.getElem?_eq_getElem h]
 ·rw [if_neg hj]
def BB:Nat:=2000000000
theorem XB {x y:Int} (hx:x.natAbs ≤ BB) (hy:y.natAbs ≤ BB):(x * y).natAbs ≤ 4000000000000000000:=by
 rw [Int.natAbs_mul]
 have:=Nat.mul_le_mul hx hy
 unfold BB at this
 omega
theorem aC2 {x y:Int} (hx:x.natAbs ≤ BB) (hy:y.natAbs ≤ BB):aB (x * y) = x * y:=by
 have:=XB hx hy
 exact Fz (by omega) (by omega)
theorem aC1 {a b c d:Int} (ha:a.natAbs ≤ BB) (hb:b.natAbs ≤ BB) (hc:c.natAbs ≤ BB) (hd:d.natAbs ≤ BB):aB (aB (a * b) - aB (c * d)) = a * b - c * d ∧ (a * b - c * d).natAbs ≤ 8000000000000000000:=by
 rw [aC2 ha hb,aC2 hc hd]
 have:=XB ha hb
 have:=XB hc hd
 exact ⟨Fz (by omega) (by omega),by omega⟩
theorem YC {x y:Int} (hx:x.natAbs ≤ 8000000000000000000):aB (Int.tdiv x y) = Int.tdiv x y:=by
 have:(Int.tdiv x y).natAbs ≤ x.natAbs:=by
  rw [Int.natAbs_tdiv]
  exact Nat.div_le_self _ _
 exact Fz (by omega) (by omega)
structure YU (s:BS):Prop where
 ent:∀ i k:Nat,(at2 s.a i k).natAbs ≤ BB
 last:s.last.natAbs ≤ BB
def Gh (n:Nat) (M:eX):Prop:=∀ c,c ≤ n → YU (iE n M c)
theorem aE4 {n:Nat} {a:eX} {i r:Nat} {d f last c len:Int} {mF:List Int} (hn:n ≤ 1000000) (hi:i < a.length) (hr:r < a.length) (hir:i ≠ r) (Qw:(a.getD i []).length = n) (hrr:(a.getD r []).length = n)
  (hd:d.natAbs ≤ BB) (hf:f.natAbs ≤ BB) (hl:last ≠ 0) (hb:∀ k:Nat,(at2 a i k).natAbs ≤ BB) (hb2:∀ k:Nat,(at2 a r k).natAbs ≤ BB) :
  bW (Ir (n:Int) ((i:Int),last,c,(r:Int),d,len,mF,a) f) BIG (0,a) = some (last,c,(r:Int),d,len,(i:Int),a.set i (elim n d f last (a.getD i []) (a.getD r [])),mF):=by
 have hel:(elim n d f last (a.getD i []) (a.getD r [])).length = (a.getD i []).length:=by rw [elim,fC,Qw]
 refine jl (fun k => ((k:Int),a.set i (mix (elim n d f last (a.getD i []) (a.getD r [])) (a.getD i []) k))) n (by omega) (by simp only [XA]; rw [aJV [] hi]; rfl) (fun k hk => ?_) ?_
 ·have hl1:(a.set i (mix (elim n d f last (a.getD i []) (a.getD r [])) (a.getD i []) k)).length = a.length:=by simp
  have e1:=jm (l:=a.set i (mix (elim n d f last (a.getD i []) (a.getD r [])) (a.getD i []) k)) [] (show i < _ by rw [hl1]; exact hi)
  have e2:=jm (l:=a.set i (mix (elim n d f last (a.getD i []) (a.getD r [])) (a.getD i []) k)) [] (show r < _ by rw [hl1]; exact hr)
  rw [qB hi,if_pos rfl] at e1
  rw [qB hi,if_neg hir] at e2
  have hml:=SA hel (i:=k) (by omega)
  have e3:=jm (l:=mix (elim n d f last (a.getD i []) (a.getD r [])) (a.getD i []) k) 0 (show k < _ by omega)
  rw [Je 0 hel (by omega),if_neg (by omega)] at e3
  have e4:=jm (l:=a.getD r []) 0 (show k < _ by omega)
  obtain ⟨w1,w2⟩:=aC1 hd (hb k) hf (hb2 k)
  unfold at2 at w1 w2
  unfold Ir
  simp only [e1,e2,e3,e4,SE hl,Option.bind_some,Int.toNat_natCast,fP (show k ≤ 1099511627776 by omega),w1,YC w2]
  rw [decide_eq_true (by omega),cond_true,List.set_set]
  congr 3
  rw [SB (d:=0) hel (by omega)]
  rw [elim,jB _ hk]
 ·unfold Ir
  have:=Wy hel
  rw [Qw] at this
  simp only [this]
  rw [decide_eq_false (by omega),cond_false]
theorem aJl {n:Nat} {a:eX} {r c:Nat} {d last:Int} {mF:List Int} (hn:n ≤ 1000000) (ha:a.length ≤ 1000000) (hr:r < a.length) (hcn:c < n) (hrows:mV n a)
  (hd:d.natAbs ≤ BB) (hl:last ≠ 0) (hb:∀ i k:Nat,(at2 a i k).natAbs ≤ BB) :
  bW (E8 (n:Int)) BIG (0,last,(c:Int),(r:Int),d,(a.length:Int),mF,a) =
   some ((c:Int),d,(a.mapIdx fun i row => if i = r then row else elim n d (row.getD c 0) last row (a.getD r [])),mF):=by
 generalize hu:(a.mapIdx fun i row => if i = r then row else elim n d (row.getD c 0) last row (a.getD r [])) = u
 have wI:u.length = a.length:=by rw [← hu,List.length_mapIdx]
 have Em:∀ i,i < a.length → u.getD i [] = if i = r then a.getD i [] else elim n d ((a.getD i []).getD c 0) last (a.getD i []) (a.getD r []):=fun i hi => by rw [← hu]; exact Wu hi
 refine jl (fun i => ((i:Int),last,(c:Int),(r:Int),d,(a.length:Int),mF,mix u a i)) a.length (by omega) (by simp [XA]) (fun i hi => ?_) ?_
 ·have hml:=SA wI (i:=i) (by omega)
  unfold E8
  by_cases hir:i = r
  ·subst hir
   simp only [beq_self_eq_true,cond_true,fP (show i ≤ 1099511627776 by omega)]
   rw [decide_eq_true (by omega),cond_true,W9 (d:=[]) wI hi (by rw [Em i hi,if_pos rfl])]
  ·have e1:=jm (l:=mix u a i) [] (show i < _ by omega)
   rw [Je [] wI (by omega),if_neg (by omega)] at e1
   have e2:=jm (l:=a.getD i []) 0 (show c < _ by rw [hrows i hi]; exact hcn)
   have hgr:(mix u a i).getD r [] = a.getD r []:=by
    rw [Je [] wI (by omega)]
    split
    ·rw [Em r hr,if_pos rfl]
    ·rfl
   have hgi:(mix u a i).getD i [] = a.getD i []:=by rw [Je [] wI (by omega),if_neg (by omega)]
   have e3:=aE4 (a:=mix u a i) (d:=d) (f:=(a.getD i []).getD c 0) (last:=last) (c:=(c:Int)) (len:=(a.length:Int)) (mF:=mF) hn (show i < _ by omega) (show r < _ by omega) hir (by rw [hgi]; exact hrows i hi) (by rw [hgr]; exact hrows r hr) hd (hb i c) hl
    (fun k => by unfold at2; rw [hgi]; exact hb i k) (fun k => by unfold at2; rw [hgr]; exact hb r k)
   rw [hgi,hgr] at e3
   have hne:((i:Int) == (r:Int)) = false:=by simp; omega
   simp only [hne,cond_false,e1,e2,e3,Option.bind_some,fP (show i ≤ 1099511627776 by omega)]
   rw [decide_eq_true (by omega),cond_true,SB (d:=[]) wI hi (by rw [Em i hi,if_neg hir])]
 ·unfold E8
  simp only [Wy wI]
  rw [decide_eq_false (by omega),cond_false]
def mD (a:eX) (r c:Nat):Nat:=(zI a r c).getD a.length
theorem SX {a:eX} {r c:Nat} (hr:r ≤ a.length):r ≤ mD a r c ∧ mD a r c ≤ a.length ∧ (∀ j,r ≤ j → j < mD a r c → at2 a j c = 0) ∧ (mD a r c < a.length → at2 a (mD a r c) c ≠ 0):=by
 unfold mD
 cases h:zI a r c with
 | none => exact ⟨hr,Nat.le_refl _,fun j h1 h2 => aBz h j h1 h2,fun h => absurd h (Nat.lt_irrefl _)⟩
 | some p =>
  obtain ⟨p1,p2,p3,p4⟩:=SS h
  exact ⟨p1,by simp; omega,p4,fun _ => p3⟩
theorem aFA {n:Nat} {a:eX} {c:Nat} {last:Int} {mF:List Int} (ha:a.length ≤ 1000000) (hr:mF.length < a.length) (hcn:c < n) (hrows:mV n a) :
  bW (Iq ((c:Int),a,last,mF)) BIG (mF.length:Int) = some (last,(c:Int),(mF.length:Int),(mD a mF.length c:Int),a,mF):=by
 obtain ⟨h1,h2,h3,h4⟩:=SX (a:=a) (c:=c) (show mF.length ≤ a.length by omega)
 refine jl (fun k => ((mF.length + k:Nat):Int)) (mD a mF.length c - mF.length) (by omega) (by simp) (fun k hk => ?_) ?_
 ·have hlt:mF.length + k < a.length:=by omega
  have e1:=jm (l:=a) [] hlt
  have e2:=jm (l:=a.getD (mF.length + k) []) 0 (show c < _ by rw [hrows _ hlt]; exact hcn)
  have e3:=h3 (mF.length + k) (by omega) (by omega)
  unfold at2 at e3
  unfold Iq
  simp only [e1,e2,e3,Option.bind_some]
  rw [decide_eq_true (by omega),cond_true]
  simp only [beq_self_eq_true,Option.bind_some,cond_true]
  rw [fP (by omega)]
  rfl
 ·have e0:((mF.length + (mD a mF.length c - mF.length):Nat):Int) = (mD a mF.length c:Int):=by omega
  rw [e0]
  unfold Iq
  by_cases hlt:mD a mF.length c < a.length
  ·have e1:=jm (l:=a) [] hlt
   have e2:=jm (l:=a.getD (mD a mF.length c) []) 0 (show c < _ by rw [hrows _ hlt]; exact hcn)
   have e3:=h4 hlt
   unfold at2 at e3
   simp only [e1,e2,Option.bind_some]
   rw [decide_eq_true (by omega),cond_true]
   rw [show (((a.getD (mD a mF.length c) []).getD c 0) == 0) = false by simpa using e3]
   rfl
  ·simp only []
   rw [decide_eq_false (by omega)]
   rfl
def rJ (l:List Nat):List Int:=l.map fun (c:Nat) => (c:Int)
theorem uf (l:List Nat):(rJ l).length = l.length:=by simp [rJ]
theorem Yu (l:List Nat) (c:Nat):rJ (l ++ [c]) = rJ l ++ [(c:Int)]:=by simp [rJ]
theorem WY {n:Nat} {M M':eX} {c:Nat} {s:BS} (h:BInv n M c s M'):mV n s.a:=fun i hi => by
 rw [h.len] at hi
 by_cases hl:s.piv.length ≤ i
 ·rw [h.lo i hl hi,jI,fC]
 ·exact (h.hi i (by omega)).len
theorem swap_eq {a:eX} {r p:Nat} (hr:r < a.length) (hp:p < a.length):(a.set r (a.getD p [])).set p (a.getD r []) = eP a r p:=rfl
theorem UW {n:Nat} {a:eX} {r p:Nat} (hr:r < a.length) (hp:p < a.length) (hb:∀ i k:Nat,(at2 a i k).natAbs ≤ BB) (i k:Nat):(at2 (eP a r p) i k).natAbs ≤ BB:=by
 unfold at2
 rw [zQ hr hp]
 split
 ·exact hb r k
 ·split
  ·exact hb p k
  ·exact hb i k
theorem Ua {n c:Nat} {M:eX} (h:¬ (iE n M c).piv.length < (iE n M c).a.length):∀ j,iE n M (c + j) = iE n M c
 | 0 => rfl
 | j + 1 => by
  show wY n (c + j) (iE n M (c + j)) = _
  rw [Ua h j]
  unfold wY
  rw [if_neg h]
theorem aJA {n:Nat} {M:eX} (hn:n ≤ 1000000) (hM:M.length ≤ 1000000) (hrows:mV n M) (hT:Gh n M) :
  bW (CY (n:Int)) BIG (0,M,1,[]) = some ((iE n M n).last,(iE n M n).a,rJ (iE n M n).piv):=by
 have key:=pO (b:=CY (n:Int)) (s:=(0,M,1,[])) (fun k s => s = ((k:Int),(iE n M k).a,(iE n M k).last,rJ (iE n M k).piv)) (fun r => r = ((iE n M n).last,(iE n M n).a,rJ (iE n M n).piv)) n (by omega) rfl
  (fun c s hc hs => by
   subst hs
   obtain ⟨M',hI⟩:=Bc hrows c (by omega)
   have hB:=hT c (by omega)
   have hrow:=WY hI
   have hal:(iE n M c).a.length = M.length:=hI.len
   have hnext:iE n M (c + 1) = wY n c (iE n M c):=rfl
   have hnz:=hI.nz
   generalize hsd:iE n M c = s at *
   by_cases hlt:s.piv.length < s.a.length
   ·left
    have hf:=aFA (n:=n) (a:=s.a) (c:=c) (last:=s.last) (mF:=rJ s.piv) (by omega) (by rw [uf]; exact hlt) hc hrow
    rw [uf] at hf
    unfold CY
    simp only [uf]
    rw [decide_eq_true (show (c:Int) < (n:Int) by omega),cond_true,decide_eq_true (show (s.piv.length:Int) < (s.a.length:Int) by omega),Option.bind_some,cond_true,hf,Option.bind_some]
    obtain ⟨q1,q2,q3,q4⟩:=SX (a:=s.a) (c:=c) (show s.piv.length ≤ s.a.length by omega)
    cases hp:zI s.a s.piv.length c with
    | none =>
     have hpo:mD s.a s.piv.length c = s.a.length:=by unfold mD; rw [hp]; rfl
     have hst:iE n M (c + 1) = s:=by
      rw [hnext]
      unfold wY
      rw [if_pos hlt,hp]
     refine ⟨_,?_,rfl⟩
     rw [hst,hpo]
     simp only [beq_self_eq_true,cond_true,fP (show c ≤ 1099511627776 by omega)]
    | some p =>
     have hpo:mD s.a s.piv.length c = p:=by unfold mD; rw [hp]; rfl
     obtain ⟨p1,p2,p3,p4⟩:=SS hp
     rw [hpo]
     have hne:((p:Int) == (s.a.length:Int)) = false:=by simp; omega
     have e1:=jm (l:=s.a) [] p2
     have e2:=jm (l:=s.a) [] hlt
     have hsl:(eP s.a s.piv.length p).length = s.a.length:=Dh ..
     have e3:=jm (l:=eP s.a s.piv.length p) [] (show s.piv.length < _ by rw [hsl]; exact hlt)
     have hrow2:mV n (eP s.a s.piv.length p):=fun i hi => by
      rw [hsl] at hi
      rw [zQ hlt p2]
      split
      ·exact hrow _ hlt
      ·split
       ·exact hrow _ p2
       ·exact hrow i hi
     have e4:=jm (l:=(eP s.a s.piv.length p).getD s.piv.length []) 0 (show c < _ by rw [hrow2 _ (by rw [hsl]; exact hlt)]; exact hc)
     have e5:=aJl (a:=eP s.a s.piv.length p) (r:=s.piv.length) (c:=c) (d:=at2 (eP s.a s.piv.length p) s.piv.length c) (last:=s.last) (mF:=rJ s.piv) hn (by rw [hsl]; omega) (by rw [hsl]; exact hlt) hc hrow2
      (UW (n:=n) hlt p2 hB.ent _ _) hnz (UW (n:=n) hlt p2 hB.ent)
     rw [hsl] at e5
     have hlim:lim ((rJ s.piv).length + ([(c:Int)]:List Int).length) = some ():=jy (by rw [uf]; simp; omega)
     have hst:iE n M (c + 1) = ⟨(eP s.a s.piv.length p).mapIdx fun i row => if i = s.piv.length then row else elim n (at2 (eP s.a s.piv.length p) s.piv.length c) (row.getD c 0) s.last row ((eP s.a s.piv.length p).getD s.piv.length []),s.piv ++ [c],at2 (eP s.a s.piv.length p) s.piv.length c⟩:=by
      rw [hnext]
      unfold wY
      rw [if_pos hlt,hp]
     refine ⟨_,?_,rfl⟩
     rw [hst]
     simp only [hne,cond_false,e1,e2,Option.bind_some,Int.toNat_natCast,swap_eq hlt p2,e3,e4]
     have e5':bW (E8 (n:Int)) BIG (0,s.last,(c:Int),(s.piv.length:Int),((eP s.a s.piv.length p).getD s.piv.length []).getD c 0,(s.a.length:Int),rJ s.piv,eP s.a s.piv.length p) = _:=e5
     simp only [e5',Option.bind_some,hlim,fP (show c ≤ 1099511627776 by omega),Yu]
   ·right
    refine ⟨_,?_,rfl⟩
    unfold CY
    simp only [uf]
    rw [decide_eq_true (show (c:Int) < (n:Int) by omega),cond_true,decide_eq_false (show ¬ (s.piv.length:Int) < (s.a.length:Int) by omega),Option.bind_some,cond_false]
    have:=Ua (n:=n) (M:=M) (c:=c) (by rw [hsd]; exact hlt) (n - c)
    rw [show c + (n - c) = n by omega,hsd] at this
    rw [this]) (fun s hs => by
   subst hs
   refine ⟨_,?_,rfl⟩
   unfold CY
   rw [decide_eq_false (by omega)]
   rfl)
 obtain ⟨r,h1,h2⟩:=key
 rw [h1,h2]
theorem aCU {v:List Int} (h:∀ k:Nat,(v.getD k 0).natAbs ≤ 8000000000000000000):Pz G9 v:=fun x hx => by
 obtain ⟨k,hk⟩:=List.mem_iff_getElem?.1 hx
 have:=h k
 rw [List.getD_eq_getElem?_getD,hk,Option.getD_some] at this
 unfold Small G9
 omega
theorem aEm {n:Nat} {M:eX} (hn:n ≤ 1000000) (hM:M.length ≤ 1000000) (hrows:mV n M):NP M = some M:=by
 unfold NP
 have e:bW (Ik M) BIG (0,[]) = some M:=by
  refine jl (fun k => ((k:Int),M.take k)) M.length (by omega) (by simp) (fun k hk => ?_) ?_
  ·have e1:=jm (l:=M) [] hk
   have hl:lim ((M.take k).length + 1) = some ():=jy (by rw [List.length_take]; omega)
   have hr:Ij (M.getD k []) = some (M.getD k []):=aEl _ (by rw [hrows k hk]; show n ≤ _; omega)
   unfold Ik
   simp only [e1,hr,hl,Option.bind_some,fP (show k ≤ 1099511627776 by omega)]
   rw [decide_eq_true (by omega),cond_true,zS hk]
   simp [List.getD_eq_getElem?_getD,List.getElem?_eq_getElem hk]
  ·unfold Ik
   rw [decide_eq_false (by omega),cond_false,List.take_length]
 rw [e]
 rfl
theorem aJC {n:Nat} {M:eX} (hn:n ≤ 1000000) (hM:M.length ≤ 1000000) (hrows:mV n M) (hT:Gh n M):NQ M (n:Int) = some ((iE n M n).a,rJ (iE n M n).piv,(iE n M n).last):=by
 unfold NQ
 rw [aEm hn hM hrows,Option.bind_some,aJA hn hM hrows hT]
 rfl
end
theorem gcd_ne {a b:Int} (h:b ≠ 0):(Int.gcd a b:Int) ≠ 0:=by
 have:Int.gcd a b ≠ 0:=fun e => h (Int.gcd_eq_zero_iff.1 e).2
 omega
theorem tdiv_le (x y:Int):(Int.tdiv x y).natAbs ≤ x.natAbs:=by
 rw [Int.natAbs_tdiv]
 exact Nat.div_le_self _ _
def uU (n:Nat) (a row:List Int) (j:Nat):List Int:=vec n fun k => a.getD k 0 * Int.tdiv (row.getD j 0) (Int.gcd (a.getD j 0) (row.getD j 0)) - row.getD k 0 * Int.tdiv (a.getD j 0) (Int.gcd (a.getD j 0) (row.getD j 0))
theorem Z7 {x:Int} (h:x.natAbs ≤ BB):Small G9 x:=by unfold BB at h; unfold Small G9; omega
theorem aK5 {n j:Nat} {a row:List Int} (hn:n ≤ 1000000) (hj:j < n) (ha:a.length = n) (hr:row.length = n) (hba:∀ k:Nat,(a.getD k 0).natAbs ≤ BB) (hbr:∀ k:Nat,(row.getD k 0).natAbs ≤ BB) (hp:row.getD j 0 ≠ 0) :
  OE a row (j:Int) = some (dB (uU n a row j)):=by
 have hg:=gcd_ne (a:=a.getD j 0) hp
 have hX:aB (Int.tdiv (row.getD j 0) (Int.gcd (a.getD j 0) (row.getD j 0))) = Int.tdiv (row.getD j 0) (Int.gcd (a.getD j 0) (row.getD j 0)):=YC (by have:=hbr j; unfold BB at this; omega)
 have hY:aB (Int.tdiv (a.getD j 0) (Int.gcd (a.getD j 0) (row.getD j 0))) = Int.tdiv (a.getD j 0) (Int.gcd (a.getD j 0) (row.getD j 0)):=YC (by have:=hba j; unfold BB at this; omega)
 have hcr:∀ k:Nat,aB (aB (a.getD k 0 * Int.tdiv (row.getD j 0) (Int.gcd (a.getD j 0) (row.getD j 0))) - aB (row.getD k 0 * Int.tdiv (a.getD j 0) (Int.gcd (a.getD j 0) (row.getD j 0)))) = a.getD k 0 * Int.tdiv (row.getD j 0) (Int.gcd (a.getD j 0) (row.getD j 0)) - row.getD k 0 * Int.tdiv (a.getD j 0) (Int.gcd (a.getD j 0) (row.getD j 0)) ∧ _:=fun k =>
  aC1 (hba k) (Nat.le_trans (tdiv_le _ _) (hbr j)) (hbr k) (Nat.le_trans (tdiv_le _ _) (hba j))
 have e1:=jm (l:=a) 0 (show j < _ by omega)
 have e2:=jm (l:=row) 0 (show j < _ by omega)
 unfold OE
 simp only [e1,e2,Z8 (Z7 (hba j)) (Z7 (hbr j)),SE hg,Option.bind_some]
 have hL:bW (Jc a row (Int.gcd (a.getD j 0) (row.getD j 0):Int) (row.getD j 0) (a.getD j 0)) BIG (0,[]) = some (uU n a row j):=by
  refine jl (fun k => ((k:Int),(uU n a row j).take k)) n (by omega) (by simp) (fun k hk => ?_) ?_
  ·have hvl:(uU n a row j).length = n:=fC ..
   have e3:=jm (l:=a) 0 (show k < _ by omega)
   have e4:=jm (l:=row) 0 (show k < _ by omega)
   have hl:∀ x:Int,lim (((uU n a row j).take k).length + ([x]:List Int).length) = some ():=fun x => jy (by rw [List.length_take]; simp; omega)
   unfold Jc
   simp only [e3,e4,hX,hY,(hcr k).1,hl,Option.bind_some,fP (show k ≤ 1099511627776 by omega)]
   rw [decide_eq_true (by omega),cond_true,zS (show k < _ by omega)]
   have:(uU n a row j)[k]'(by omega) = a.getD k 0 * Int.tdiv (row.getD j 0) (Int.gcd (a.getD j 0) (row.getD j 0)) - row.getD k 0 * Int.tdiv (a.getD j 0) (Int.gcd (a.getD j 0) (row.getD j 0)):=by simp [uU,vec]
   rw [this]
  ·unfold Jc
   rw [decide_eq_false (by omega),cond_false,List.take_of_length_le (by rw [uU,fC]; exact Nat.le_refl _)]
 rw [hL,Option.bind_some]
 unfold FP
 rw [aB1 _ (by rw [uU,fC]; show n ≤ _; omega) (aCU fun k => by
  by_cases hk:k < n
  ·rw [uU,jB _ hk]
   exact (hcr k).2
  ·rw [jY (by rw [uU,fC]; omega)]
   decide)]
 rfl
theorem aK6 {n c:Nat} {X Y:List Int} {last:Int} (hl:last ≠ 0) (hX:X.length = n) (hY:Y.length = n) (VQ:Y.getD c 0 ≠ 0) (hc:c < n)
  (he:∀ k,k < n → last * (elim n (Y.getD c 0) (X.getD c 0) last X Y).getD k 0 = Y.getD c 0 * X.getD k 0 - X.getD c 0 * Y.getD k 0) :
  dB (uU n (dB X) (dB Y) c) = dB (elim n (Y.getD c 0) (X.getD c 0) last X Y):=by
 obtain ⟨s,hs,h1⟩:=Sj X
 obtain ⟨t,ht,h2⟩:=Sj Y
 have hp:(dB Y).getD c 0 ≠ 0:=fun e => VQ ((OU Y c).1 e)
 have hg:=gcd_ne (a:=(dB X).getD c 0) hp
 refine GY.dB ⟨by rw [uU,fC,elim,fC],s * t * (Int.gcd ((dB X).getD c 0) ((dB Y).getD c 0):Int),last,fun e => ?_,hl,fun k => ?_⟩
 ·rcases Int.mul_eq_zero.1 e with e | e
  ·rcases Int.mul_eq_zero.1 e with e | e
   ·exact hs e
   ·exact ht e
  ·exact hg e
 ·by_cases hk:k < n
  ·rw [he k hk,uU,jB _ hk]
   have d1:(Int.gcd ((dB X).getD c 0) ((dB Y).getD c 0):Int) * Int.tdiv ((dB Y).getD c 0) (Int.gcd ((dB X).getD c 0) ((dB Y).getD c 0)) = (dB Y).getD c 0:=Int.mul_tdiv_cancel' (Int.gcd_dvd_right ..)
   have d2:(Int.gcd ((dB X).getD c 0) ((dB Y).getD c 0):Int) * Int.tdiv ((dB X).getD c 0) (Int.gcd ((dB X).getD c 0) ((dB Y).getD c 0)) = (dB X).getD c 0:=Int.mul_tdiv_cancel' (Int.gcd_dvd_left ..)
   rw [h1 k,h2 k,h1 c,h2 c]
   generalize (Int.gcd ((dB X).getD c 0) ((dB Y).getD c 0):Int) = g at *
   generalize Int.tdiv ((dB Y).getD c 0) g = q1 at *
   generalize Int.tdiv ((dB X).getD c 0) g = q2 at *
   rw [← d1,← d2]
   generalize (dB X).getD k 0 = x
   generalize (dB Y).getD k 0 = y
   grind
  ·rw [jY (v:=uU n (dB X) (dB Y) c) (by rw [uU,fC]; omega),jY (v:=elim n (Y.getD c 0) (X.getD c 0) last X Y) (by rw [elim,fC]; omega)]
   simp
theorem aJc {n:Nat} {X Y:List Int} {c:Nat} {last:Int} (hl:last ≠ 0) (hX:X.length = n) (VQ:Y.getD c 0 ≠ 0) (hXc:X.getD c 0 = 0)
  (he:∀ k,k < n → last * (elim n (Y.getD c 0) (X.getD c 0) last X Y).getD k 0 = Y.getD c 0 * X.getD k 0 - X.getD c 0 * Y.getD k 0):dB (elim n (Y.getD c 0) (X.getD c 0) last X Y) = dB X :=
 (GY.dB (u:=X) ⟨by rw [elim,fC,hX],Y.getD c 0,last,VQ,hl,fun k => by
  by_cases hk:k < n
  ·rw [he k hk,hXc]; simp
  ·rw [jY (v:=X) (by omega),jY (v:=elim n (Y.getD c 0) (X.getD c 0) last X Y) (by rw [elim,fC]; omega)]; simp⟩).symm
theorem xI {a:eX} {i:Nat} (h:i < a.length):(a.map dB).getD i [] = dB (a.getD i []):=by
 simp [List.getD_eq_getElem?_getD,List.getElem?_map,List.getElem?_eq_getElem h]
theorem aJp {a:eX} {r p:Nat} (hr:r < a.length) (hp:p < a.length):((a.map dB).set p ((a.map dB).getD r [])).set r ((a.map dB).getD p []) = (eP a r p).map dB:=by
 rw [xI hr,xI hp]
 unfold eP
 rw [List.map_set,List.map_set]
 by_cases h:r = p
 ·subst h; simp
 ·rw [List.set_comm _ _ (Ne.symm h)]
theorem aFB {n:Nat} {a:eX} {c:Nat} {cols:List Int} (ha:a.length ≤ 1000000) (hr:cols.length ≤ a.length) (hcn:c < n) (hrows:mV n a) :
  bW (Ja ((c:Int),a.map dB,cols)) BIG (cols.length:Int) = some ((c:Int),(mD a cols.length c:Int),a.map dB,cols):=by
 obtain ⟨h1,h2,h3,h4⟩:=SX (a:=a) (c:=c) hr
 have hml:(a.map dB).length = a.length:=List.length_map ..
 refine jl (fun k => ((cols.length + k:Nat):Int)) (mD a cols.length c - cols.length) (by omega) (by simp) (fun k hk => ?_) ?_
 ·have hlt:cols.length + k < a.length:=by omega
  have e1:=jm (l:=a.map dB) [] (show cols.length + k < _ by omega)
  rw [xI hlt] at e1
  have e2:=jm (l:=dB (a.getD (cols.length + k) [])) 0 (show c < _ by rw [Fb,hrows _ hlt]; exact hcn)
  have e3:=h3 (cols.length + k) (by omega) (by omega)
  unfold at2 at e3
  rw [(OU _ _).2 e3] at e2
  unfold Ja
  simp only [e1,e2,Option.bind_some,hml]
  rw [decide_eq_true (by omega),cond_true]
  simp only [beq_self_eq_true,Option.bind_some,cond_true]
  rw [fP (by omega)]
  rfl
 ·have e0:((cols.length + (mD a cols.length c - cols.length):Nat):Int) = (mD a cols.length c:Int):=by omega
  rw [e0]
  unfold Ja
  by_cases hlt:mD a cols.length c < a.length
  ·have e1:=jm (l:=a.map dB) [] (show mD a cols.length c < _ by omega)
   rw [xI hlt] at e1
   have e2:=jm (l:=dB (a.getD (mD a cols.length c) [])) 0 (show c < _ by rw [Fb,hrows _ hlt]; exact hcn)
   have e3:=h4 hlt
   unfold at2 at e3
   have e4:(dB (a.getD (mD a cols.length c) [])).getD c 0 ≠ 0:=fun e => e3 ((OU _ _).1 e)
   simp only [e1,e2,Option.bind_some,hml]
   rw [decide_eq_true (by omega),cond_true]
   rw [show ((dB (a.getD (mD a cols.length c) [])).getD c 0 == 0) = false by simpa using e4]
   rfl
  ·simp only [hml]
   rw [decide_eq_false (by omega)]
   rfl
theorem aJm {n:Nat} {a:eX} {c:Nat} {last:Int} {cols:List Int} {p0:Int} {FX:List (List Int)} (hn:n ≤ 1000000) (ha:a.length ≤ 1000000) (hr:cols.length < a.length) (hcn:c < n) (hrows:mV n a) (hl:last ≠ 0)
  (hd:at2 a cols.length c ≠ 0) (hb:∀ i k:Nat,(at2 a i k).natAbs ≤ BB)
  (he:∀ i,i < a.length → i ≠ cols.length → ∀ k,k < n → last * (elim n (at2 a cols.length c) ((a.getD i []).getD c 0) last (a.getD i []) (a.getD cols.length [])).getD k 0 = at2 a cols.length c * (a.getD i []).getD k 0 - (a.getD i []).getD c 0 * (a.getD cols.length []).getD k 0) :
  bW (Jb ((c:Int),p0,FX,cols) (dB (a.getD cols.length []))) BIG (0,a.map dB) =
   some ((c:Int),(a.mapIdx fun i row => if i = cols.length then row else elim n (at2 a cols.length c) (row.getD c 0) last row (a.getD cols.length [])).map dB,cols):=by
 generalize hu:(a.mapIdx fun i row => if i = cols.length then row else elim n (at2 a cols.length c) (row.getD c 0) last row (a.getD cols.length [])) = u
 have wI:u.length = a.length:=by rw [← hu,List.length_mapIdx]
 have Em:∀ i,i < a.length → u.getD i [] = if i = cols.length then a.getD i [] else elim n (at2 a cols.length c) ((a.getD i []).getD c 0) last (a.getD i []) (a.getD cols.length []):=fun i hi => by rw [← hu]; exact Wu hi
 have hml:(a.map dB).length = a.length:=List.length_map ..
 have hmu:(u.map dB).length = (a.map dB).length:=by rw [hml,List.length_map,wI]
 refine jl (fun i => ((i:Int),mix (u.map dB) (a.map dB) i)) a.length (by omega) (by simp [XA]) (fun i hi => ?_) ?_
 ·have hil:i < (a.map dB).length:=by omega
  have hmm:=SA hmu (i:=i) (by omega)
  have hgi:(mix (u.map dB) (a.map dB) i).getD i [] = dB (a.getD i []):=by rw [Je [] hmu (by omega),if_neg (by omega),xI hi]
  have e1:=jm (l:=mix (u.map dB) (a.map dB) i) [] (show i < _ by omega)
  rw [hgi] at e1
  have e2:=jm (l:=dB (a.getD i [])) 0 (show c < _ by rw [Fb,hrows i hi]; exact hcn)
  have WI:(u.map dB).getD i [] = dB (u.getD i []):=xI (by omega)
  unfold Jb
  rw [show decide ((((i:Int),mix (u.map dB) (a.map dB) i):Int × List (List Int)).1 < ((((i:Int),mix (u.map dB) (a.map dB) i):Int × List (List Int)).2.length:Int)) = true by simp; omega,cond_true]
  by_cases hir:i = cols.length
  ·rw [show (((i:Int),mix (u.map dB) (a.map dB) i).1 != (cols.length:Int)) = false by simp [hir]]
   simp only [cond_false,Option.bind_some,fP (show i ≤ 1099511627776 by omega)]
   rw [W9 (d:=[]) hmu hil (by rw [WI,xI hi,Em i hi,if_pos hir])]
  ·rw [show (((i:Int),mix (u.map dB) (a.map dB) i).1 != (cols.length:Int)) = true by simp; omega]
   simp only [cond_true,e1,e2,Option.bind_some]
   have hex:=he i hi hir
   by_cases hz:(dB (a.getD i [])).getD c 0 = 0
   ·rw [hz]
    simp only [bne_self_eq_false,cond_false,Option.bind_some,fP (show i ≤ 1099511627776 by omega)]
    rw [W9 (d:=[]) hmu hil (by
     rw [WI,xI hi,Em i hi,if_neg hir]
     exact aJc (Y:=a.getD cols.length []) hl (hrows i hi) hd ((OU _ _).1 hz) hex)]
   ·have hw:=aK5 (a:=dB (a.getD i [])) (row:=dB (a.getD cols.length [])) hn hcn (by rw [Fb,hrows i hi]) (by rw [Fb,hrows _ hr])
     (fun k => by have:=aB2 (a.getD i []) (B:=(BB:Int)) (fun k => by have:=hb i k; unfold at2 at this; omega) k; omega)
     (fun k => by have:=aB2 (a.getD cols.length []) (B:=(BB:Int)) (fun k => by have:=hb cols.length k; unfold at2 at this; omega) k; omega) (fun e => hd ((OU _ _).1 e))
    rw [show ((dB (a.getD i [])).getD c 0 != 0) = true by simpa using hz]
    simp only [cond_true,hw,Option.bind_some,Int.toNat_natCast,fP (show i ≤ 1099511627776 by omega)]
    rw [SB (d:=[]) hmu hil (by
     rw [WI,Em i hi,if_neg hir]
     exact (aK6 (Y:=a.getD cols.length []) hl (hrows i hi) (hrows _ hr) hd hcn hex).symm)]
 ·have:=Wy hmu
  rw [hml] at this
  unfold Jb
  simp only [this]
  rw [decide_eq_false (by rw [List.length_map,wI]; omega),cond_false]
theorem aJB {n:Nat} {M:eX} (hn:n ≤ 1000000) (hM:M.length ≤ 1000000) (hM0:0 < M.length) (hrows:mV n M) (hT:Gh n M) :
  bW DJ BIG (0,M.map dB,[]) = some ((iE n M n).a.map dB,rJ (iE n M n).piv):=by
 have key:=pO (b:=DJ) (s:=(0,M.map dB,[])) (fun k s => s = ((k:Int),(iE n M k).a.map dB,rJ (iE n M k).piv)) (fun r => r = ((iE n M n).a.map dB,rJ (iE n M n).piv)) n (by omega) rfl
  (fun c s hc hs => by
   subst hs
   left
   obtain ⟨M',hI⟩:=Bc hrows c (by omega)
   have hB:=hT c (by omega)
   have hrow:=WY hI
   have hal:(iE n M c).a.length = M.length:=hI.len
   have hnext:iE n M (c + 1) = wY n c (iE n M c):=rfl
   have hnz:=hI.nz
   have hex:=aDv hrows hc
   have hrl:=hI.rl
   generalize hsd:iE n M c = s at *
   have hml:(s.a.map dB).length = s.a.length:=List.length_map ..
   have e0:idx (s.a.map dB) 0 = some (dB (s.a.getD 0 [])):=by
    have:=jm (l:=s.a.map dB) (k:=0) [] (by omega)
    rw [xI (by omega)] at this
    exact this
   have hf:=aFB (n:=n) (a:=s.a) (c:=c) (cols:=rJ s.piv) (by omega) (by rw [uf]; omega) hc hrow
   rw [uf] at hf
   unfold DJ
   simp only [hml,uf]
   rw [decide_eq_true (show (0:Int) < (s.a.length:Int) by omega),cond_true,e0,Option.bind_some,Option.bind_some,decide_eq_true (show (c:Int) < ((dB (s.a.getD 0 [])).length:Int) by rw [Fb,hrow 0 (by omega)]; omega),cond_true,hf,Option.bind_some]
   by_cases hlt:s.piv.length < s.a.length
   ·cases hp:zI s.a s.piv.length c with
    | none =>
     have hpo:mD s.a s.piv.length c = s.a.length:=by unfold mD; rw [hp]; rfl
     have hst:iE n M (c + 1) = s:=by
      rw [hnext]
      unfold wY
      rw [if_pos hlt,hp]
     refine ⟨_,?_,rfl⟩
     rw [hst,hpo]
     simp only [hml,beq_self_eq_true,cond_true,fP (show c ≤ 1099511627776 by omega)]
    | some p =>
     have hpo:mD s.a s.piv.length c = p:=by unfold mD; rw [hp]; rfl
     obtain ⟨p1,p2,p3,p4⟩:=SS hp
     rw [hpo]
     have hne:((p:Int) == (s.a.length:Int)) = false:=by simp; omega
     have e1:=jm (l:=s.a.map dB) [] (show p < _ by omega)
     have e2:=jm (l:=s.a.map dB) [] (show s.piv.length < _ by omega)
     have e1':idx (s.a.map dB) (p:Int) = some (dB (s.a.getD p [])):=by rw [e1,xI p2]
     have e3:=jm (l:=(s.a.map dB).set p ((s.a.map dB).getD s.piv.length [])) [] (show s.piv.length < _ by rw [List.length_set]; omega)
     have hsw:=aJp hlt p2
     rw [xI p2] at hsw
     have hsl:(eP s.a s.piv.length p).length = s.a.length:=Dh ..
     have hrow2:mV n (eP s.a s.piv.length p):=fun i hi => by
      rw [hsl] at hi
      rw [zQ hlt p2]
      split
      ·exact hrow _ hlt
      ·split
       ·exact hrow _ p2
       ·exact hrow i hi
     have hpr:(eP s.a s.piv.length p).getD s.piv.length [] = s.a.getD p []:=by
      rw [zQ hlt p2]
      by_cases e:s.piv.length = p
      ·rw [if_pos e,e]
      ·rw [if_neg e,if_pos rfl]
     have e5:=aJm (a:=eP s.a s.piv.length p) (c:=c) (last:=s.last) (cols:=rJ s.piv) (p0:=(p:Int)) (FX:=s.a.map dB) hn (by rw [hsl]; omega) (by rw [uf,hsl]; exact hlt) hc hrow2 hnz
      (by rw [uf]; unfold at2; rw [hpr]; exact p3) (UW (n:=n) hlt p2 hB.ent) (by rw [uf,hsl]; exact hex p hp hlt)
     rw [uf,hpr] at e5
     have hlim:lim (s.piv.length + ([(c:Int)]:List Int).length) = some ():=jy (by simp; omega)
     have hst:iE n M (c + 1) = ⟨(eP s.a s.piv.length p).mapIdx fun i row => if i = s.piv.length then row else elim n (at2 (eP s.a s.piv.length p) s.piv.length c) (row.getD c 0) s.last row ((eP s.a s.piv.length p).getD s.piv.length []),s.piv ++ [c],at2 (eP s.a s.piv.length p) s.piv.length c⟩:=by
      rw [hnext]
      unfold wY
      rw [if_pos hlt,hp]
     refine ⟨_,?_,rfl⟩
     rw [hst]
     simp only [hml,uf,hne,cond_false,e1',e2,e3,Option.bind_some,Int.toNat_natCast,hsw,e5,hlim,fP (show c ≤ 1099511627776 by omega),Yu,hpr]
   ·have hpo:mD s.a s.piv.length c = s.a.length:=by
     obtain ⟨q1,q2,_⟩:=SX (a:=s.a) (c:=c) (show s.piv.length ≤ s.a.length by omega)
     omega
    have hst:iE n M (c + 1) = s:=by
     rw [hnext]
     unfold wY
     rw [if_neg hlt]
    refine ⟨_,?_,rfl⟩
    rw [hst,hpo]
    simp only [hml,beq_self_eq_true,cond_true,fP (show c ≤ 1099511627776 by omega)]) (fun s hs => by
   subst hs
   refine ⟨_,?_,rfl⟩
   obtain ⟨M',hI⟩:=Bc hrows n (Nat.le_refl _)
   have hrow:=WY hI
   have hal:(iE n M n).a.length = M.length:=hI.len
   have hml:((iE n M n).a.map dB).length = (iE n M n).a.length:=List.length_map ..
   have e0:idx ((iE n M n).a.map dB) 0 = some (dB ((iE n M n).a.getD 0 [])):=by
    have:=jm (l:=(iE n M n).a.map dB) (k:=0) [] (by omega)
    rw [xI (by omega)] at this
    exact this
   unfold DJ
   simp only [hml]
   rw [decide_eq_true (show (0:Int) < ((iE n M n).a.length:Int) by omega),cond_true,e0,Option.bind_some,Option.bind_some,decide_eq_false (by rw [Fb,hrow 0 (by omega)]; omega)]
   rfl)
 obtain ⟨r,h1,h2⟩:=key
 rw [h1,h2]
theorem aJD {n:Nat} {M:eX} (hn:n ≤ 1000000) (hM:M.length ≤ 1000000) (hrows:mV n M) (hT:Gh n M):OD M = some ((iE n M n).a.map dB,rJ (iE n M n).piv):=by
 unfold OD
 have e:bW (JZ M) BIG (0,[]) = some (M.map dB):=by
  refine jl (fun k => ((k:Int),(M.take k).map dB)) M.length (by omega) (by simp) (fun k hk => ?_) ?_
  ·have e1:=jm (l:=M) [] hk
   have hl:∀ x:List Int,lim (((M.take k).map dB).length + [x].length) = some ():=fun x => jy (by rw [List.length_map,List.length_take]; simp; omega)
   have hr:FP (M.getD k []) = some (dB (M.getD k [])):=by
    unfold FP
    rw [aB1 _ (by rw [hrows k hk]; show n ≤ _; omega) (aCU fun j => by have:=(hT 0 (Nat.zero_le _)).ent k j; unfold at2 BB at this; exact Nat.le_trans this (by decide))]
    rfl
   unfold JZ
   simp only [e1,hr,hl,Option.bind_some,fP (show k ≤ 1099511627776 by omega)]
   rw [decide_eq_true (by omega),cond_true,zS hk,List.map_append]
   simp [List.getD_eq_getElem?_getD,List.getElem?_eq_getElem hk]
  ·unfold JZ
   rw [decide_eq_false (by omega),cond_false,List.take_length]
 rw [e,Option.bind_some]
 by_cases h0:0 < M.length
 ·rw [aJB hn hM h0 hrows hT]
  rfl
 ·have hM0:M = []:=List.eq_nil_of_length_eq_zero (by omega)
  subst hM0
  have hs:=Ua (n:=n) (M:=[]) (c:=0) (by show ¬ (0 < 0); omega) n
  rw [Nat.zero_add] at hs
  rw [hs]
  have:bW DJ BIG (0,([]:List (List Int)).map dB,[]) = some ([],[]):=by
   refine jl (fun _ => (0,[],[])) 0 (by omega) rfl (fun k hk => by omega) rfl
  rw [this]
  rfl
section
structure Fin (n:Nat) (M:eX) (s:BS):Prop where
 n6:n ≤ 1000000
 len:s.a.length ≤ 1000000
 pl:s.piv.length ≤ s.a.length
 pc:∀ k ∈ s.piv,k < n
 nd:s.piv.Nodup
 rows:mV n s.a
 bnd:YU s
 nz:s.last ≠ 0
 piv:∀ i,i < s.piv.length → at2 s.a i (s.piv.getD i 0) = s.last
section
variable {n:Nat} {M:eX} {s:BS}
theorem Fin.inj (h:Fin n M s) {i j:Nat} (hi:i < s.piv.length) (hj:j < s.piv.length) (e:s.piv.getD i 0 = s.piv.getD j 0):i = j:=by
 rw [List.getD_eq_getElem?_getD,List.getD_eq_getElem?_getD,List.getElem?_eq_getElem hi,List.getElem?_eq_getElem hj,Option.getD_some,Option.getD_some] at e
 have hp:=List.pairwise_iff_getElem.1 h.nd
 rcases Nat.lt_trichotomy i j with hij | hij | hij
 ·exact absurd e (hp i j hi hj hij)
 ·exact hij
 ·exact absurd e.symm (hp j i hj hi hij)
end
end
section
section
variable {n:Nat} {M:eX} {s:BS} {f:Nat}
def fA (s:BS) (i:Nat):List Int:=dB (s.a.getD i [])
end
end
section
theorem aJs {n:Nat} {M:eX} (hn:mV n M) (hm:Pv n M 2000000000):Gh n M:=fun c hc => by
 obtain ⟨M',h⟩:=Bc hn c hc
 obtain ⟨h1,h2⟩:=aJk hn hc hm h
 exact ⟨h1,h2⟩
def nC (f:aW):Nat:=2 * f.Graph.aF.toNat
def rowOf (f:aW) (b:aV):List Int:=vS (nC f) (2 * b.A.toNat) (2 * b.B.toNat) ((dH f b.A).X - (dH f b.B).X) ((dH f b.A).Y - (dH f b.B).Y)
def nD (f:aW):eX:=f.Graph.aA.map (rowOf f)
section
variable {f:aW}
theorem DV:(nD f).length = f.Graph.aA.length:=by simp [nD]
theorem Wv {b:aV} (h:b ∈ f.Graph.aA):∃ k:Nat,f.Graph.aA[k]? = some b:=List.mem_iff_getElem?.1 h
theorem aCY {x:Int} (h1:-4 ≤ x) (h2:x ≤ 4):x * x ≤ 16:=by
 have:x = -4 ∨ x = -3 ∨ x = -2 ∨ x = -1 ∨ x = 0 ∨ x = 1 ∨ x = 2 ∨ x = 3 ∨ x = 4:=by omega
 rcases this with h | h | h | h | h | h | h | h | h <;> subst h <;> decide
theorem Gm (h:VF f) {k:Nat} {b:aV} (hb:f.Graph.aA[k]? = some b):2 * b.A.toNat + 1 < 2 * b.B.toNat ∧ 2 * b.B.toNat + 1 < nC f:=by
 have a0:=h.g.a0 hb
 have ab:=h.g.ab hb
 have bp:=h.g.bp hb
 unfold nC
 omega
theorem aB8 (h:VF f):GZ (nC f) (nD f) (fun k => (dH f (k:Int)).X) (fun k => (dH f (k:Int)).Y):=by
 have key:∀ v ∈ nD f,∃ (k:Nat) (b:aV),f.Graph.aA[k]? = some b ∧ v = rowOf f b:=fun v hv => by
  obtain ⟨b,hb,rfl⟩:=List.mem_map.1 hv
  obtain ⟨k,hk⟩:=Wv hb
  exact ⟨k,b,hk,rfl⟩
 have UJ:∀ (a b g:Int) (v:Nat),2 * v + 1 < nC f → (yv (nC f) (fun k => (dH f (k:Int)).X) (fun k => (dH f (k:Int)).Y) a b g).getD (2 * v) 0 = a - g * (dH f (v:Int)).Y ∧ (yv (nC f) (fun k => (dH f (k:Int)).X) (fun k => (dH f (k:Int)).Y) a b g).getD (2 * v + 1) 0 = b + g * (dH f (v:Int)).X:=fun a b g v hv => by
  unfold yv
  rw [jB _ (by omega),jB _ hv,if_pos (by omega),if_neg (by omega),show 2 * v / 2 = v by omega,show (2 * v + 1) / 2 = v by omega]
  exact ⟨rfl,rfl⟩
 refine ⟨fun v hv => ?_,fun v hv => ?_,fun v hv a b g => ?_,fun hne a b g aLK => ?_,?_⟩
 ·obtain ⟨k,b,hb,rfl⟩:=key v hv
  exact aCE ..
 ·obtain ⟨k,b,hb,rfl⟩:=key v hv
  obtain ⟨p1,p2⟩:=Gm h hb
  have a0:=h.g.a0 hb
  have ab:=h.g.ab hb
  have bp:=h.g.bp hb
  have ga:=h.xK (v:=b.A) (by omega) (by omega)
  have gb:=h.xK (v:=b.B) (by omega) (by omega)
  unfold rowOf
  rw [aJM p1 p2]
  have:=aCY (x:=(dH f b.A).X - (dH f b.B).X) (by omega) (by omega)
  have:=aCY (x:=(dH f b.A).Y - (dH f b.B).Y) (by omega) (by omega)
  omega
 ·obtain ⟨k,x,hb,rfl⟩:=key v hv
  obtain ⟨p1,p2⟩:=Gm h hb
  have a0:=h.g.a0 hb
  have ab:=h.g.ab hb
  obtain ⟨y1,y2⟩:=UJ a b g x.A.toNat (by omega)
  obtain ⟨y3,y4⟩:=UJ a b g x.B.toNat (by omega)
  rw [Int.toNat_of_nonneg a0] at y1 y2
  rw [Int.toNat_of_nonneg (show 0 ≤ x.B by omega)] at y3 y4
  unfold rowOf
  rw [aCC (by rw [yv,fC]) p1 p2,y1,y2,y3,y4]
  grind
 ·refine Classical.byContradiction fun hno => ?_
  have hz:∀ k,(yv (nC f) (fun k => (dH f (k:Int)).X) (fun k => (dH f (k:Int)).Y) a b g).getD k 0 = 0:=fun k => Classical.byContradiction fun e => hno ⟨k,e⟩
  obtain ⟨v,hv⟩:=List.exists_mem_of_ne_nil _ hne
  obtain ⟨k,x,hb,rfl⟩:=key v hv
  obtain ⟨p1,p2⟩:=Gm h hb
  have a0:=h.g.a0 hb
  have ab:=h.g.ab hb
  obtain ⟨y1,y2⟩:=UJ a b g x.A.toNat (by omega)
  obtain ⟨y3,y4⟩:=UJ a b g x.B.toNat (by omega)
  rw [Int.toNat_of_nonneg a0,hz] at y1 y2
  rw [Int.toNat_of_nonneg (show 0 ≤ x.B by omega),hz] at y3 y4
  have aAN:=h.dif hb
  have e1:g * ((dH f x.A).X - (dH f x.B).X) = 0:=by grind
  have e2:g * ((dH f x.A).Y - (dH f x.B).Y) = 0:=by grind
  have hg:g = 0:=by
   rcases Int.mul_eq_zero.1 e1 with e | e
   ·exact e
   ·rcases Int.mul_eq_zero.1 e2 with e' | e'
    ·exact e'
    ·have h1:(dH f x.A).X = (dH f x.B).X:=by omega
     have h2:(dH f x.A).Y = (dH f x.B).Y:=by omega
     rw [h1,h2] at aAN
     simp [jM] at aAN
  subst hg
  have:a = 0:=by omega
  have:b = 0:=by omega
  omega
 ·have:=h.p6
  unfold nC
  omega
theorem O5 (h:VF f):mV (nC f) (nD f):=fun i hi => (aB8 h).len _ (by rw [List.getD_eq_getElem?_getD,List.getElem?_eq_getElem hi]; exact List.getElem_mem hi)
theorem aB9 (h:VF f):Gh (nC f) (nD f):=aJs (O5 h) (aB8 h).minors
theorem YA (h:VF f):aB (2 * f.Graph.aF) = ((nC f:Nat):Int):=by
 have:=h.p6
 have:=h.g.p1
 unfold nC
 rw [fD (by omega) (by omega)]
 omega
theorem aJJ (h0:SM f.Graph.aA.length) (h1:SM f.Places.length):NK f = some (bif vF f then nD f else []):=by
 unfold NK
 rw [vN f h0 h1,Option.bind_some]
 cases hv:vF f with
 | false => rfl
 | true =>
  have h:=lY hv
  have hp6:=h.p6
  have hlen:=h.len
  have hL:bW (Ie f) BIG (0,[]) = some (nD f):=by
   refine jl (fun k => ((k:Int),(nD f).take k)) f.Graph.aA.length (by omega) (by simp) (fun k hk => ?_) ?_
   ·have hx:=List.getElem?_eq_getElem hk
    have a0:=h.g.a0 hx
    have ab:=h.g.ab hx
    have bp:=h.g.bp hx
    obtain ⟨p1,p2⟩:=Gm h hx
    have ga:=h.xK (v:=f.Graph.aA[k].A) (by omega) (by omega)
    have gb:=h.xK (v:=f.Graph.aA[k].B) (by omega) (by omega)
    have Vh:nC f ≤ 12:=by unfold nC; omega
    have w1:aB (2 * f.Graph.aA[k].A) = ((2 * f.Graph.aA[k].A.toNat:Nat):Int):=by rw [fD (by omega) (by omega)]; omega
    have w2:aB (2 * f.Graph.aA[k].B) = ((2 * f.Graph.aA[k].B.toNat:Nat):Int):=by rw [fD (by omega) (by omega)]; omega
    have w3:aB ((dH f f.Graph.aA[k].A).X - (dH f f.Graph.aA[k].B).X) = (dH f f.Graph.aA[k].A).X - (dH f f.Graph.aA[k].B).X:=fD (by omega) (by omega)
    have w4:aB ((dH f f.Graph.aA[k].A).Y - (dH f f.Graph.aA[k].B).Y) = (dH f f.Graph.aA[k].A).Y - (dH f f.Graph.aA[k].B).Y:=fD (by omega) (by omega)
    have w5:aB ((dH f f.Graph.aA[k].B).X - (dH f f.Graph.aA[k].A).X) = -((dH f f.Graph.aA[k].A).X - (dH f f.Graph.aA[k].B).X):=by rw [fD (by omega) (by omega)]; omega
    have w6:aB ((dH f f.Graph.aA[k].B).Y - (dH f f.Graph.aA[k].A).Y) = -((dH f f.Graph.aA[k].A).Y - (dH f f.Graph.aA[k].B).Y):=by rw [fD (by omega) (by omega)]; omega
    have hlim:lim (((nD f).take k).length + 1) = some ():=jy (by rw [List.length_take]; omega)
    unfold Ie
    rw [decide_eq_true (by omega),cond_true,oH hk,Option.bind_some,YA h,aA8 (by omega) (by omega),Option.bind_some,h.yO (by omega) (by omega),Option.bind_some,h.yO (by omega) (by omega),Option.bind_some]
    simp only [w1,w2,w3,w4,w5,w6,Int.toNat_natCast,fP (show 2 * f.Graph.aA[k].A.toNat ≤ 1099511627776 by omega),fP (show 2 * f.Graph.aA[k].B.toNat ≤ 1099511627776 by omega),hlim]
    rw [jm 0 (by simp; omega),Option.bind_some,jm 0 (by simp; omega),Option.bind_some,jm 0 (by simp; omega),Option.bind_some,jm 0 (by simp; omega),Option.bind_some,Option.bind_some,zS (show k < (nD f).length by rw [DV]; exact hk),fP (by omega)]
    simp only [nD,List.getElem_map]
    rfl
   ·unfold Ie
    rw [decide_eq_false (by omega),cond_false,List.take_of_length_le (by rw [DV]; exact Nat.le_refl _)]
  simp only [Bool.not_true,cond_false,cond_true,hL]
  rfl
theorem aJK (h0:SM f.Graph.aA.length) (h1:SM f.Places.length):Nu f = some (bif vF f then nD f else []):=by
 unfold Nu
 cases hv:vF f with
 | false =>
  have hL:bW (Cj f) BIG (0,[]) = some []:=by
   refine jl (fun _ => (0,[])) 0 (by omega) rfl (fun k hk => by omega) ?_
   unfold Cj
   simp only [rX f h0 h1,hv,Option.bind_some]
   cases decide ((0:Int) < (f.Graph.aA.length:Int)) <;> rfl
  rw [hL]; rfl
 | true =>
  have h:=lY hv
  have hp6:=h.p6
  have hlen:=h.len
  have hL:bW (Cj f) BIG (0,[]) = some (nD f):=by
   refine jl (fun k => ((k:Int),(nD f).take k)) f.Graph.aA.length (by omega) (by simp) (fun k hk => ?_) ?_
   ·have hx:=List.getElem?_eq_getElem hk
    have a0:=h.g.a0 hx
    have ab:=h.g.ab hx
    have bp:=h.g.bp hx
    obtain ⟨p1,p2⟩:=Gm h hx
    have ga:=h.xK (v:=f.Graph.aA[k].A) (by omega) (by omega)
    have gb:=h.xK (v:=f.Graph.aA[k].B) (by omega) (by omega)
    have Vh:nC f ≤ 12:=by unfold nC; omega
    have w1:aB (2 * f.Graph.aA[k].A) = ((2 * f.Graph.aA[k].A.toNat:Nat):Int):=by rw [fD (by omega) (by omega)]; omega
    have w2:aB (2 * f.Graph.aA[k].B) = ((2 * f.Graph.aA[k].B.toNat:Nat):Int):=by rw [fD (by omega) (by omega)]; omega
    have w3:aB ((dH f f.Graph.aA[k].A).X - (dH f f.Graph.aA[k].B).X) = (dH f f.Graph.aA[k].A).X - (dH f f.Graph.aA[k].B).X:=fD (by omega) (by omega)
    have w4:aB ((dH f f.Graph.aA[k].A).Y - (dH f f.Graph.aA[k].B).Y) = (dH f f.Graph.aA[k].A).Y - (dH f f.Graph.aA[k].B).Y:=fD (by omega) (by omega)
    have w5:aB (-((dH f f.Graph.aA[k].A).X - (dH f f.Graph.aA[k].B).X)) = -((dH f f.Graph.aA[k].A).X - (dH f f.Graph.aA[k].B).X):=fD (by omega) (by omega)
    have w6:aB (-((dH f f.Graph.aA[k].A).Y - (dH f f.Graph.aA[k].B).Y)) = -((dH f f.Graph.aA[k].A).Y - (dH f f.Graph.aA[k].B).Y):=fD (by omega) (by omega)
    have hlim:∀ x:List Int,lim (((nD f).take k).length + [x].length) = some ():=fun x => jy (by rw [List.length_take]; simp; omega)
    unfold Cj
    rw [decide_eq_true (show (k:Int) < (f.Graph.aA.length:Int) by omega),cond_true,rX f h0 h1,hv,Option.bind_some,Option.bind_some,cond_true,oH hk,Option.bind_some,YA h,aA8 (by omega) (by omega),Option.bind_some,h.yO (by omega) (by omega),Option.bind_some,h.yO (by omega) (by omega),Option.bind_some,Option.bind_some,Option.bind_some]
    simp only [w1,w2,w3,w4,w5,w6,Int.toNat_natCast,fP (show 2 * f.Graph.aA[k].A.toNat ≤ 1099511627776 by omega),fP (show 2 * f.Graph.aA[k].B.toNat ≤ 1099511627776 by omega),hlim]
    rw [jm 0 (by simp; omega),Option.bind_some,jm 0 (by simp; omega),Option.bind_some,jm 0 (by simp; omega),Option.bind_some,jm 0 (by simp; omega),Option.bind_some,Option.bind_some,zS (show k < (nD f).length by rw [DV]; exact hk),fP (by omega)]
    simp only [nD,List.getElem_map]
    rfl
   ·unfold Cj
    rw [decide_eq_false (by omega),cond_false,List.take_of_length_le (by rw [DV]; exact Nat.le_refl _)]
    rfl
  rw [hL]; rfl
end
theorem aBV {f:aW} (h:VF f):nC f ≤ 12:=by have:=h.p6; unfold nC; omega
def rP (f:aW):Int:=bif vF f then ((iE (nC f) (nD f) (nC f)).piv.length:Int) else -1
section
variable (f:aW) (h0:SM f.Graph.aA.length) (h1:SM f.Places.length)
include h0 h1
theorem Z5:IW f = some (rP f):=by
 unfold IW rP
 rw [vN f h0 h1,aJJ h0 h1,Option.bind_some]
 cases hv:vF f with
 | false => rfl
 | true =>
  have h:=lY hv
  have hn:=aBV h
  have hl:=h.len
  simp only [Bool.not_true,cond_false,cond_true,Option.bind_some,YA h,Ro,aJC (show nC f ≤ 1000000 by omega) (show (nD f).length ≤ 1000000 by rw [DV]; omega) (O5 h) (aB9 h),uf]
theorem aFL:JB f = some (rP f):=by
 unfold JB rP
 rw [rX f h0 h1,aJK h0 h1,Option.bind_some]
 cases hv:vF f with
 | false => rfl
 | true =>
  have h:=lY hv
  have hn:=aBV h
  have hl:=h.len
  simp only [Bool.not_true,cond_false,cond_true,Option.bind_some,aJD (show nC f ≤ 1000000 by omega) (show (nD f).length ≤ 1000000 by rw [DV]; omega) (O5 h) (aB9 h),uf]
end
def turned (N:Nat) (M:eX):eX:=(List.range N).map fun c => M.map fun r => r.getD c 0
theorem J5 (N:Nat) (M:eX):(turned N M).length = N:=by simp [turned]
theorem X6 {N c:Nat} {M:eX} (h:c < N):(turned N M).getD c [] = M.map fun r => r.getD c 0:=by simp [turned,List.getD_eq_getElem?_getD,h]
theorem aJ9 {N:Nat} {B:eX} {ld:List Int}:turned N B = yT N B.length B ld:=by
 unfold turned yT
 refine List.map_congr_left fun c _ => ?_
 refine J8 (n:=B.length) (by simp) (fC ..) fun j hj => ?_
 rw [jB _ hj]
 unfold lm
 rw [if_pos hj]
 simp [List.getD_eq_getElem?_getD,List.getElem?_eq_getElem hj]
section
variable (f:aW) (h0:SM f.Graph.aA.length) (h1:SM f.Places.length)
include h0 h1
end
end
end Go.Proofs.Ytdmlaldifbmkpaa
end
