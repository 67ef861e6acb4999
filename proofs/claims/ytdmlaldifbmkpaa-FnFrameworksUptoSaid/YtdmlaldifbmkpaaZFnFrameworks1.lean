/- Parts of a proof that a law of the program holds: what the program computes, and why that is right. -/
import Derived.KernelRfl
import Derived.MapKept
import Derived.Carry
import Derived.ChangeMaps5
import Derived.Test.YtdmlaldifbmkpaaZFnFrameworks0
set_option linter.unusedVariables false
set_option linter.unusedSimpArgs false
set_option linter.unnecessarySimpa false
set_option maxRecDepth 100000
set_option maxHeartbeats 8000000
section
namespace Go.Fw
section
inductive ah:PV → Prop
 | sc {v:Value}:ah (.sc v)
 | xs {els:List (List PV)} (h:∀ cs ∈ els,∀ p ∈ cs,ah p):ah (.xs true els)
def zY:CV → Prop
 | .pv p => ah p
 | .px q cells => q = true ∧ ∀ p ∈ cells,ah p
 | _ => True
def KP:SV → Prop
 | .c x => zY x
 | .agg cs => ∀ x ∈ cs,zY x
def Px:AV → Prop
 | .s x => KP x
 | .dW xs => ∀ x ∈ xs,KP x
def bg:Ob → Prop
 | .row _ els => ∀ cs ∈ els,∀ x ∈ cs,zY x
 | .fA _ els => ∀ cs ∈ els,∀ p ∈ cs,ah p
 | .mp _ => True
 | .pool _ rows => ∀ els ∈ rows,∀ cs ∈ els,∀ p ∈ cs,ah p
 | .dh _ _ _ => True
 | .lW _ _ _ _ => True
 | .unk => True
section
variable {P:Program} {w:World} {R B B':Nat → Prop} {g g':Nat → GS}
theorem jH.perm {p:PV} {v:Value} (hp:ah p) (h:jH w R B p v):jH w R B' p v:=by
 induction h with
 | sc h => exact .sc h
 | emp => exact .emp
 | @xs q els ad c s n val hn hq hc hs hv hr ih =>
  cases hp with
  | xs hp => exact .xs val hn hq hc hs hv fun j k cs p h1 h2 => ih j k cs p h1 h2 (hp cs (List.mem_of_getElem? h1) p (List.mem_of_getElem? h2))
theorem RC.perm {x:CV} {v:Value} (hp:zY x) (h:RC P w R B g x v):RC P w R B' g x v:=by
 refine ⟨h.1,?_⟩
 have h2:=h.2
 cases x with
 | pv p => exact jH.perm hp h2
 | px q cells =>
  obtain ⟨rfl,hp⟩:=hp
  obtain ⟨a,h3,h4,h5⟩:=h2
  exact ⟨a,h3,h4,fun k p hk => by
   obtain ⟨u,h6,h7⟩:=h5 k p hk
   exact ⟨u,h6,h7.perm (hp p (List.mem_of_getElem? hk))⟩⟩
 | _ => exact h2
theorem RS.perm {x:SV} {v:Value} (hp:KP x) (h:RS P w R B g x v):RS P w R B' g x v:=by
 cases x with
 | c x => exact RC.perm hp h
 | agg cs =>
  obtain ⟨vs,h1,h2,h3⟩:=h
  exact ⟨vs,h1,h2,fun k x hk => by
   obtain ⟨u,h4,h5⟩:=h3 k x hk
   exact ⟨u,h4,h5.perm (hp x (List.mem_of_getElem? hk))⟩⟩
theorem RA.perm {x:AV} {v:Value} (hp:Px x) (h:RA P w R B g x v):RA P w R B' g x v:=by
 cases x with
 | s x => exact RS.perm hp h
 | dW xs =>
  obtain ⟨vs,h1,h2,h3⟩:=h
  exact ⟨vs,h1,h2,fun k x hk => by
   obtain ⟨u,h4,h5⟩:=h3 k x hk
   exact ⟨u,h4,h5.perm (hp x (List.mem_of_getElem? hk))⟩⟩
theorem Ry {p:Nat} {lens:List Nat} {cs:List CV} (h:cs ∈ iJ p lens):∃ j l,cs = [.tl p j 0 l]:=by
 obtain ⟨i,hi⟩:=List.mem_iff_getElem?.1 h
 unfold iJ at hi
 rw [List.getElem?_mapIdx] at hi
 cases hl:lens[i]? with
 | none => rw [hl] at hi; cases hi
 | some l => rw [hl] at hi; injection hi with hi; exact ⟨i,l,hi.symm⟩
theorem Rx {p q:Nat} {fs:List (Int × Nat × Nat)} {cs:List CV} (h:cs ∈ oZ p q fs):∃ j i a b,cs = [.pv (.sc (.int .i64 i)),.tl p j 0 a,.tl q j 0 b]:=by
 obtain ⟨i,hi⟩:=List.mem_iff_getElem?.1 h
 unfold oZ at hi
 rw [List.getElem?_mapIdx] at hi
 cases hl:fs[i]? with
 | none => rw [hl] at hi; cases hi
 | some l => rw [hl] at hi; injection hi with hi; exact ⟨i,_,_,_,hi.symm⟩
theorem eU.perm {n:Nat} {e:TypeId} {els:List (List CV)} (hp:∀ cs ∈ els,∀ x ∈ cs,zY x) (h:eU P w R B g n e els):eU P w R B' g n e els:=by
 rcases h with h | ⟨b,cur,h1,h2,h3,h4,h5⟩
 ·exact .inl h
 ·exact .inr ⟨b,cur,h1,h2,h3,h4,fun j k cs x hj hk => by
   obtain ⟨u,h6,h7⟩:=h5 j k cs x hj hk
   exact ⟨u,h6,h7.perm (hp cs (List.mem_of_getElem? hj) x (List.mem_of_getElem? hk))⟩⟩
theorem RO.perm {n:Nat} {o:Ob} (hp:bg o) (h:RO P w R B g n o):RO P w R B' g n o:=by
 cases o with
 | row e els => exact eU.perm hp h
 | fA e els => exact eU.perm (fun cs hcs x hx => by
   obtain ⟨c0,hc0,rfl⟩:=List.mem_map.1 hcs
   obtain ⟨p,hp0,rfl⟩:=List.mem_map.1 hx
   exact hp c0 hc0 p hp0) h
 | mp es => exact h
 | pool e rows => exact ⟨h.1,fun k els hk => by
   rcases h.2 k els hk with h1 | ⟨b,cur,h1,h2,h3,h4,h5⟩
   ·exact .inl h1
   ·exact .inr ⟨b,cur,h1,h2,h3,h4,fun j i cs x hj hi => by
     obtain ⟨u,h6,h7⟩:=h5 j i cs x hj hi
     exact ⟨u,h6,h7.perm (hp els (List.mem_of_getElem? hk) cs (List.mem_of_getElem? hj) x (List.mem_of_getElem? hi))⟩⟩⟩
 | dh e p lens => exact eU.perm (fun cs hcs x hx => by
   obtain ⟨j,l,rfl⟩:=Ry hcs
   have:x = .tl p j 0 l:=by simpa using hx
   subst this; trivial) h
 | lW e p q fs => exact eU.perm (fun cs hcs x hx => by
   obtain ⟨j,i,a,b,rfl⟩:=Rx hcs
   simp only [List.mem_cons,List.not_mem_nil,or_false] at hx
   rcases hx with rfl | rfl | rfl <;> first | trivial | exact .sc) h
 | unk => trivial
theorem RC.names {x:CV} {v:Value} (h:RC P w R B g x v) (hg:∀ n,g n ≠ .dead → g' n = g n):RC P w R B g' x v:=by
 have hgb:∀ n b,g n = .blk b → g' n = .blk b:=fun n b h => (hg n (by rw [h]; simp)).trans h
 have hgn:∀ n,g n = .nil → g' n = .nil:=fun n h => (hg n (by rw [h]; simp)).trans h
 have hga:∀ n k s,(g n).at k = s → s ≠ .dead → (g' n).at k = s:=fun n k s h hs => by
  rw [hg n fun hd => hs (by rw [← h,hd]; rfl)]
  exact h
 refine ⟨h.1,?_⟩
 have h2:=h.2
 cases x with
 | pv p => exact h2
 | px q cells => exact h2
 | loc n off len =>
  rcases h2 with ⟨h3,h4⟩ | h3 | ⟨b,cap,cur,e,h3,h4⟩
  ·exact .inl ⟨hgn n h3,h4⟩
  ·exact .inr (.inl h3)
  ·exact .inr (.inr ⟨b,cap,cur,e,hgb n b h3,h4⟩)
 | pl n off =>
  obtain ⟨b,h3,h4⟩:=h2
  exact ⟨b,hgb n b h3,h4⟩
 | fn f caps =>
  obtain ⟨vs,h3,h4,h5⟩:=h2
  exact ⟨vs,h3,h4,fun k n hk => by
   obtain ⟨b,h6,h7⟩:=h5 k n hk
   exact ⟨b,hgb n b h6,h7⟩⟩
 | mref n =>
  obtain ⟨b,h3,h4⟩:=h2
  exact ⟨b,hgb n b h3,h4⟩
 | tl p k off len =>
  rcases h2 with ⟨h3,h4⟩ | h3 | ⟨b,cap,cur,e,h3,h4⟩
  ·exact .inl ⟨hga p k _ h3 (by simp),h4⟩
  ·exact .inr (.inl h3)
  ·exact .inr (.inr ⟨b,cap,cur,e,hga p k _ h3 (by simp),h4⟩)
 | tpl p k off =>
  obtain ⟨b,h3,h4⟩:=h2
  exact ⟨b,hga p k _ h3 (by simp),h4⟩
 | junk => trivial
theorem RS.names {x:SV} {v:Value} (h:RS P w R B g x v) (hg:∀ n,g n ≠ .dead → g' n = g n):RS P w R B g' x v:=by
 cases x with
 | c x => exact RC.names h hg
 | agg cs =>
  obtain ⟨vs,h1,h2,h3⟩:=h
  exact ⟨vs,h1,h2,fun k x hk => by
   obtain ⟨u,h4,h5⟩:=h3 k x hk
   exact ⟨u,h4,h5.names hg⟩⟩
theorem RA.names {x:AV} {v:Value} (h:RA P w R B g x v) (hg:∀ n,g n ≠ .dead → g' n = g n):RA P w R B g' x v:=by
 cases x with
 | s x => exact RS.names h hg
 | dW xs =>
  obtain ⟨vs,h1,h2,h3⟩:=h
  exact ⟨vs,h1,h2,fun k x hk => by
   obtain ⟨u,h4,h5⟩:=h3 k x hk
   exact ⟨u,h4,h5.names hg⟩⟩
theorem eU.names {n:Nat} {e:TypeId} {els:List (List CV)} (h:eU P w R B g n e els) (hg:∀ n,g n ≠ .dead → g' n = g n):eU P w R B g' n e els:=by
 rcases h with ⟨h1,h2⟩ | ⟨b,cur,h1,h2,h3,h4,h5⟩
 ·exact .inl ⟨(hg n (by rw [h1]; simp)).trans h1,h2⟩
 ·exact .inr ⟨b,cur,(hg n (by rw [h1]; simp)).trans h1,h2,h3,h4,fun j k cs x hj hk => by
   obtain ⟨u,h6,h7⟩:=h5 j k cs x hj hk
   exact ⟨u,h6,h7.names hg⟩⟩
theorem RO.names {n:Nat} {o:Ob} (h:RO P w R B g n o) (hg:∀ n,g n ≠ .dead → g' n = g n):RO P w R B g' n o:=by
 cases o with
 | row e els => exact eU.names h hg
 | fA e els => exact eU.names h hg
 | mp es =>
  obtain ⟨b,uQ,clock,h1,h2⟩:=h
  exact ⟨b,uQ,clock,(hg n (by rw [h1]; simp)).trans h1,h2⟩
 | pool e rows =>
  obtain ⟨⟨bs,h1,h2⟩,h3⟩:=h
  have e1:=hg n (by rw [h1]; simp)
  exact ⟨⟨bs,e1.trans h1,h2⟩,by rw [e1]; exact h3⟩
 | dh e p lens => exact eU.names h hg
 | lW e p q fs => exact eU.names h hg
 | unk => trivial
def qw (zs:List Nat):CV → Bool
 | .loc n _ _ => zs.elem n
 | .pl n _ => zs.elem n
 | .fn _ caps => caps.all zs.elem
 | .mref n => zs.elem n
 | .tl p _ _ _ => zs.elem p
 | .tpl p _ _ => zs.elem p
 | _ => true
def okS (zs:List Nat):SV → Bool
 | .c x => qw zs x
 | .agg cs => cs.all (qw zs)
def okA (zs:List Nat):AV → Bool
 | .s x => okS zs x
 | .dW xs => xs.all (okS zs)
def okO (zs:List Nat):Ob → Bool
 | .row _ els => els.all (·.all (qw zs))
 | .dh _ p _ => zs.elem p
 | .lW _ p q _ => zs.elem p && zs.elem q
 | _ => true
theorem RC.ok {zs:List Nat} {x:CV} {v:Value} (hz:qw zs x = true) (hg:∀ n ∈ zs,g' n = g n) (h:RC P w R B g x v):RC P w R B g' x v:=by
 refine ⟨h.1,?_⟩
 have h2:=h.2
 cases x with
 | pv p => exact h2
 | px q cells => exact h2
 | loc n off len =>
  have hn:=hg n (List.mem_of_elem_eq_true hz)
  rcases h2 with ⟨h3,h4⟩ | h3 | ⟨b,cap,cur,e,h3,h4⟩
  ·exact .inl ⟨hn.trans h3,h4⟩
  ·exact .inr (.inl h3)
  ·exact .inr (.inr ⟨b,cap,cur,e,hn.trans h3,h4⟩)
 | pl n off =>
  obtain ⟨b,h3,h4⟩:=h2
  exact ⟨b,(hg n (List.mem_of_elem_eq_true hz)).trans h3,h4⟩
 | fn f caps =>
  obtain ⟨vs,h3,h4,h5⟩:=h2
  exact ⟨vs,h3,h4,fun k n hk => by
   obtain ⟨b,h6,h7⟩:=h5 k n hk
   exact ⟨b,(hg n (List.mem_of_elem_eq_true (List.all_eq_true.1 hz n (List.mem_of_getElem? hk)))).trans h6,h7⟩⟩
 | mref n =>
  obtain ⟨b,h3,h4⟩:=h2
  exact ⟨b,(hg n (List.mem_of_elem_eq_true hz)).trans h3,h4⟩
 | tl p k off len =>
  have hn:=hg p (List.mem_of_elem_eq_true hz)
  rcases h2 with ⟨h3,h4⟩ | h3 | ⟨b,cap,cur,e,h3,h4⟩
  ·exact .inl ⟨by rw [hn]; exact h3,h4⟩
  ·exact .inr (.inl h3)
  ·exact .inr (.inr ⟨b,cap,cur,e,by rw [hn]; exact h3,h4⟩)
 | tpl p k off =>
  obtain ⟨b,h3,h4⟩:=h2
  exact ⟨b,by rw [hg p (List.mem_of_elem_eq_true hz)]; exact h3,h4⟩
 | junk => trivial
theorem RS.ok {zs:List Nat} {x:SV} {v:Value} (hz:okS zs x = true) (hg:∀ n ∈ zs,g' n = g n) (h:RS P w R B g x v):RS P w R B g' x v:=by
 cases x with
 | c x => exact RC.ok hz hg h
 | agg cs =>
  obtain ⟨vs,h1,h2,h3⟩:=h
  exact ⟨vs,h1,h2,fun k x hk => by
   obtain ⟨u,h4,h5⟩:=h3 k x hk
   exact ⟨u,h4,h5.ok (List.all_eq_true.1 hz x (List.mem_of_getElem? hk)) hg⟩⟩
theorem RA.ok {zs:List Nat} {x:AV} {v:Value} (hz:okA zs x = true) (hg:∀ n ∈ zs,g' n = g n) (h:RA P w R B g x v):RA P w R B g' x v:=by
 cases x with
 | s x => exact RS.ok hz hg h
 | dW xs =>
  obtain ⟨vs,h1,h2,h3⟩:=h
  exact ⟨vs,h1,h2,fun k x hk => by
   obtain ⟨u,h4,h5⟩:=h3 k x hk
   exact ⟨u,h4,h5.ok (List.all_eq_true.1 hz x (List.mem_of_getElem? hk)) hg⟩⟩
theorem eU.ok {zs:List Nat} {n:Nat} {e:TypeId} {els:List (List CV)} (hn:n ∈ zs) (hz:els.all (·.all (qw zs)) = true) (hg:∀ n ∈ zs,g' n = g n) (h:eU P w R B g n e els):eU P w R B g' n e els:=by
 rcases h with ⟨h1,h2⟩ | ⟨b,cur,h1,h2,h3,h4,h5⟩
 ·exact .inl ⟨(hg n hn).trans h1,h2⟩
 ·exact .inr ⟨b,cur,(hg n hn).trans h1,h2,h3,h4,fun j k cs x hj hk => by
   obtain ⟨u,h6,h7⟩:=h5 j k cs x hj hk
   exact ⟨u,h6,h7.ok (List.all_eq_true.1 (List.all_eq_true.1 hz cs (List.mem_of_getElem? hj)) x (List.mem_of_getElem? hk)) hg⟩⟩
theorem RO.ok {zs:List Nat} {n:Nat} {o:Ob} (hn:n ∈ zs) (hz:okO zs o = true) (hg:∀ n ∈ zs,g' n = g n) (h:RO P w R B g n o):RO P w R B g' n o:=by
 cases o with
 | row e els => exact eU.ok hn hz hg h
 | fA e els => exact eU.ok hn (by simp [gY,List.all_eq_true,qw]) hg h
 | mp es =>
  obtain ⟨b,uQ,clock,h1,h2⟩:=h
  exact ⟨b,uQ,clock,(hg n hn).trans h1,h2⟩
 | pool e rows =>
  obtain ⟨⟨bs,h1,h2⟩,h3⟩:=h
  exact ⟨⟨bs,(hg n hn).trans h1,h2⟩,by rw [hg n hn]; exact h3⟩
 | dh e p lens => exact eU.ok hn (List.all_eq_true.2 fun cs hcs => by
   obtain ⟨j,l,rfl⟩:=Ry hcs
   simpa [qw,okO] using hz) hg h
 | lW e p q fs => exact eU.ok hn (List.all_eq_true.2 fun cs hcs => by
   obtain ⟨j,i,a,b,rfl⟩:=Rx hcs
   simpa [qw,okO] using hz) hg h
 | unk => trivial
theorem jH.more (hb:∀ b,B b → B' b) {p:PV} {v:Value} (h:jH w R B p v):jH w R B' p v:=by
 induction h with
 | sc h => exact .sc h
 | emp => exact .emp
 | xs val hn hq hc hs hv _ ih => exact .xs val hn (SN (fun _ h => h) hb hq) hc hs hv ih
theorem RC.more (hb:∀ b,B b → B' b) {x:CV} {v:Value} (h:RC P w R B g x v):RC P w R B' g x v:=by
 refine ⟨h.1,?_⟩
 have h2:=h.2
 cases x with
 | pv p => exact jH.more hb h2
 | px q cells =>
  obtain ⟨a,h3,h4,h5⟩:=h2
  exact ⟨a,h3,SN (fun _ h => h) hb h4,fun k p hk => by
   obtain ⟨u,h6,h7⟩:=h5 k p hk
   exact ⟨u,h6,h7.more hb⟩⟩
 | _ => exact h2
theorem RS.more (hb:∀ b,B b → B' b) {x:SV} {v:Value} (h:RS P w R B g x v):RS P w R B' g x v:=by
 cases x with
 | c x => exact RC.more hb h
 | agg cs =>
  obtain ⟨vs,h1,h2,h3⟩:=h
  exact ⟨vs,h1,h2,fun k x hk => by
   obtain ⟨u,h4,h5⟩:=h3 k x hk
   exact ⟨u,h4,h5.more hb⟩⟩
theorem RA.more (hb:∀ b,B b → B' b) {x:AV} {v:Value} (h:RA P w R B g x v):RA P w R B' g x v:=by
 cases x with
 | s x => exact RS.more hb h
 | dW xs =>
  obtain ⟨vs,h1,h2,h3⟩:=h
  exact ⟨vs,h1,h2,fun k x hk => by
   obtain ⟨u,h4,h5⟩:=h3 k x hk
   exact ⟨u,h4,h5.more hb⟩⟩
theorem eU.more (hb:∀ b,B b → B' b) {n:Nat} {e:TypeId} {els:List (List CV)} (h:eU P w R B g n e els):eU P w R B' g n e els:=by
 rcases h with h | ⟨b,cur,h1,h2,h3,h4,h5⟩
 ·exact .inl h
 ·exact .inr ⟨b,cur,h1,h2,h3,h4,fun j k cs x hj hk => by
   obtain ⟨u,h6,h7⟩:=h5 j k cs x hj hk
   exact ⟨u,h6,h7.more hb⟩⟩
theorem RO.more (hb:∀ b,B b → B' b) {n:Nat} {o:Ob} (h:RO P w R B g n o):RO P w R B' g n o:=by
 cases o with
 | row e els => exact eU.more hb h
 | fA e els => exact eU.more hb h
 | mp es => exact h
 | pool e rows => exact ⟨h.1,fun k els hk => by
   rcases h.2 k els hk with h1 | ⟨b,cur,h1,h2,h3,h4,h5⟩
   ·exact .inl h1
   ·exact .inr ⟨b,cur,h1,h2,h3,h4,fun j i cs x hj hi => by
     obtain ⟨u,h6,h7⟩:=h5 j i cs x hj hi
     exact ⟨u,h6,h7.more hb⟩⟩⟩
 | dh e p lens => exact eU.more hb h
 | lW e p q fs => exact eU.more hb h
 | unk => trivial
end
def Fn (P:Program) (f:FuncId) (args:List SV) (us:Mem) (v:AV) (df:Mem) (W X:List Nat):Prop :=
 ∀ (R B:Nat → Prop) (g:Nat → GS) (w:World) (vs:List Value),WF R B g w → vs.length = args.length → (∀ (k:Nat) x,args[k]? = some x → ∃ u,vs[k]? = some u ∧ RS P w R B g x u) → (∀ p ∈ us,RO P w R B g p.1 p.2) →
  Calls P f vs.toArray w fun e w' => ∃ u R' B' g',e = .returned u ∧ iH R B g w W X R' B' g' w' ∧ (∀ b,R' b → R b ∨ w.heap.size ≤ b) ∧ RA P w' R' R' g' v u ∧ ∀ p ∈ df,RO P w' R' R' g' p.1 p.2
def Py (P:Program) (σ:Slots) (m:Mem):ResultVar → SV → Prop
 | .tmp t,x => lk σ t = some (.s x)
 | .cell t T,x => ∃ n e cells,lk σ t = some (Cc (.pl n 0)) ∧ lk m n = some (.row e [cells]) ∧ x = .agg cells ∧ kZ P T = some true ∧ bZ P T = cells.length ∧ ∃ i,P.info? T = some i
def vZ (P:Program) (σ:Slots) (m:Mem):List ResultVar → List SV → Prop
 | [],[] => True
 | r :: rs,x :: xs => Py P σ m r x ∧ vZ P σ m rs xs
 | _,_ => False
def vP:List SV → AV
 | [x] => .s x
 | xs => .dW xs
section
variable {P:Program} {C:Ctx} {σ:Slots} {m:Mem} {R B:Nat → Prop} {g:Nat → GS} {a:Act} {w:World}
def Js (tmps:Array Value):ResultVar → Sem Value
 | .tmp t => pure (tmps.getD t undef)
 | .cell c t => do loadVar t (← asAddr (tmps.getD c undef))
theorem aJG (fn:Func) (tmps:Array Value):results fn tmps = (do let vs ← fn.results.mapM (Js tmps); pure (if h:vs.size = 1 then vs[0] else .tuple vs)):=by
 have:(fun | .tmp t => pure (tmps.getD t undef) | .cell c t => do loadVar t (← asAddr (tmps.getD c undef)):ResultVar → Sem Value) = Js tmps:=by
  funext x
  cases x <;> rfl
 rw [← this]
 rfl
theorem Py.run (hs:St P C σ m R B g a w) {r:ResultVar} {x:SV} (h:Py P σ m r x) :
  ∃ u,(Js a.tmps r).run P w = .ok u w ∧ RS P w R B g x u:=by
 cases r with
 | tmp t => exact ⟨a.tmps.getD t undef,rfl,hs.sl t _ h⟩
 | cell t T =>
  obtain ⟨n,e,cells,h1,h2,rfl,h3,h4,i,hi⟩:=h
  obtain ⟨_,b,k1,k2⟩:=hs.sl t _ h1
  have hro:=hs.ob n _ h2
  have hcell:=(XK hro k1 (j:=0) rfl).2
  obtain ⟨us,k3,k4,k5⟩:=QK (T:=fun u k => w.cell? ⟨b,k,none⟩ = some u) (Rl:=fun p u => RC P w R B g p u) cells 0 (fun k x hk => by
   obtain ⟨u,h5,h6⟩:=hcell k x hk
   rw [Nat.zero_mul] at h5
   exact ⟨u,h5,h6⟩)
  refine ⟨.agg us.toArray,?_,us,rfl,k3,k5⟩
  have hl:=run_loadCells_list (P:=P) w ⟨b,0,none⟩ us (fun j v hj => by rw [add_lit]; simpa using k4 j v hj)
  simp [Js,k2,asAddr,loadVar,Xf h3,run_sizeOf hi,h4,← k3,hl]
theorem vZ.run (hs:St P C σ m R B g a w):∀ {rs:List ResultVar} {xs:List SV},vZ P σ m rs xs →
  ∃ us:List Value,(rs.mapM (Js a.tmps)).run P w = .ok us w ∧ us.length = xs.length ∧ ∀ (k:Nat) x,xs[k]? = some x → ∃ u,us[k]? = some u ∧ RS P w R B g x u
 | [],[],_ => ⟨[],rfl,rfl,fun k x hk => by simp at hk⟩
 | [],_ :: _,h => h.elim
 | _ :: _,[],h => h.elim
 | r :: rs,x :: xs,h => by
  obtain ⟨u,h1,h2⟩:=Py.run hs h.1
  obtain ⟨us,h3,h4,h5⟩:=vZ.run hs h.2
  refine ⟨u :: us,?_,by simp [h4],fun k y hk => ?_⟩
  ·simp only [List.mapM_cons,Sem.run_bind]
   rw [h1]
   simp only [Result.andThen_ok,h3,Sem.run_pure]
  ·cases k with
   | zero => simp at hk; subst hk; exact ⟨u,rfl,h2⟩
   | succ k => exact h5 k y (by simpa using hk)
theorem vZ.results (hs:St P C σ m R B g a w) {fn:Func} {xs:List SV} (h:vZ P σ m fn.results.toList xs):∃ u,(results fn a.tmps).run P w = .ok u w ∧ RA P w R B g (vP xs) u:=by
 obtain ⟨us,h1,h2,h3⟩:=vZ.run hs h
 have hm:(fn.results.mapM (Js a.tmps)).run P w = .ok us.toArray w:=by
  rw [Array.mapM_eq_mapM_toList]
  simp only [Sem.run_map,h1,Result.andThen_ok]
 rw [aJG]
 simp only [Sem.run_bind]
 rw [hm]
 simp only [Result.andThen_ok,Sem.run_pure]
 refine ⟨_,rfl,?_⟩
 cases xs with
 | nil =>
  have:us = []:=List.eq_nil_of_length_eq_zero (by simpa using h2)
  subst this
  exact ⟨[],by simp,rfl,fun k x hk => by simp at hk⟩
 | cons x xs =>
  cases xs with
  | nil =>
   obtain ⟨u,hu,hr⟩:=h3 0 x rfl
   match us,h2,hu with
   | [u'],_,hu =>
    simp at hu
    subst hu
    show RS P w R B g x _
    simpa using hr
  | cons y ys =>
   have hne:¬ us.toArray.size = 1:=by simp only [List.size_toArray,h2,List.length_cons]; omega
   rw [dif_neg hne]
   exact ⟨us,rfl,h2,h3⟩
end
def LkA (m:Mem) (df:Mem):Prop:=∀ p ∈ df,lk m p.1 = some p.2
theorem oV.all {m:Mem}:∀ {df:Mem},oV m df → LkA m df
 | [],_ => fun p hp => by cases hp
 | (n,o) :: r,h => fun p hp => by
  cases hp with
  | head => exact h.1
  | tail _ hp => exact oV.all h.2 p hp
def zh:Nat → List SV → Slots
 | _,[] => []
 | k,x :: xs => (k,.s x) :: zh (k + 1) xs
theorem aBD:∀ (xs:List SV) (k t:Nat) (v:AV),lk (zh k xs) t = some v → ∃ x,v = .s x ∧ k ≤ t ∧ xs[t - k]? = some x
 | [],_,_,_,h => by cases h
 | x :: xs,k,t,v,h => by
  change (bif Nat.beq k t then some (AV.s x) else lk (zh (k + 1) xs) t) = some v at h
  cases hb:Nat.beq k t with
  | true =>
   rw [hb,cond_true] at h
   injection h with h
   have:=Nat.eq_of_beq_eq_true hb
   subst this
   exact ⟨x,h.symm,Nat.le_refl _,by simp⟩
  | false =>
   rw [hb,cond_false] at h
   obtain ⟨y,h1,h2,h3⟩:=aBD xs (k + 1) t v h
   refine ⟨y,h1,by omega,?_⟩
   rw [show t - k = (t - (k + 1)) + 1 by omega,List.getElem?_cons_succ]
   exact h3
theorem Fn.aBj {P:Program} {f:FuncId} {fn:Func} {c:Code} {args:List SV} {us df:Mem} {pn X:List Nat} {N:Nat} {τ:Type} {M:Option τ} {rs:τ → List SV} {iZ:τ → Mem} (hf:P.funcs[f]? = some fn) (hb:fn.body = some c) (hN:fn.ntmps = N)
  (hargs:args.length ≤ N) (hside:(fF (keys us) (pn ++ X) && mY X pn && fF pn (keys us)) = true)
  (h:∀ w0 U0 R0 g0,(∀ b,U0 b → ∃ n ∈ keys us,(g0 n).has b) → aC P ⟨w0,U0,R0,g0,N,pn⟩ [.code c] (zh 0 args) us M fun t e σ m => (e = .normal ∨ e = .ret) ∧ vZ P σ m fn.results.toList (rs t) ∧ oV m (iZ t) ∧ fF (keys us) (keys (iZ t)) = true ∧ fF X (keys (iZ t)) = true ∧ Px (vP (rs t)) ∧ (∀ p ∈ iZ t,bg p.2) ∧ okA (keys us ++ X) (vP (rs t)) = true ∧ (iZ t).all (fun p => (keys us ++ X).elem p.1 && okO (keys us ++ X) p.2) = true) :
  ∀ t,M = some t → Fn P f args us (vP (rs t)) (iZ t) (keys us) X:=by
 intro t ht R B g w vs hw hlen hvs hus
 simp only [Bool.and_eq_true] at hside
 obtain ⟨⟨hs1,hs2⟩,hs3⟩:=hside
 let U0:Nat → Prop:=fun b => ∃ n ∈ keys us,(g n).has b
 let C:Ctx:=⟨w,U0,R,g,N,pn⟩
 have aLN:vs.length ≤ N:=by rw [hlen]; exact hargs
 refine calls_of_wp hf hb ?_
 have hSt:St P C (zh 0 args) us R B g { tmps:=vs.toArray ++ Array.replicate (fn.ntmps - vs.toArray.size) undef,defers:=[] } w:=by
  refine ⟨hw,rfl,by simp [C,hN]; omega,fun t v hl => ?_,fun n o hl => ?_,fun n o b hl hg => ?_,fun b hb => .inl hb,fun _ h => h,rfl,rfl,rfl,Nat.le_refl _,fun _ _ _ => rfl,fun _ _ => rfl,fun _ _ _ cur e _ hh => ⟨cur,hh,rfl⟩⟩
  ·obtain ⟨x,rfl,_,h3⟩:=aBD args 0 t v hl
   obtain ⟨u,hu,hr⟩:=hvs _ x h3
   have hlt:t < vs.length:=by rw [hlen]; exact (List.getElem?_eq_some_iff.1 h3).1
   have:(vs.toArray ++ Array.replicate (fn.ntmps - vs.toArray.size) undef).getD t undef = u:=by
    rw [Array.getD_eq_getD_getElem?,Array.getElem?_append_left (by simpa using hlt)]
    simp only [Nat.sub_zero] at hu
    simp [hu]
   rw [this]
   exact hr
  ·have hm:∀ (us:Mem),(∀ p ∈ us,RO P w R B g p.1 p.2) → lk us n = some o → RO P w R B g n o:=by
    intro us
    induction us with
    | nil => intro _ h; cases h
    | cons q r ih =>
     intro hq h
     obtain ⟨k,v⟩:=q
     change (bif Nat.beq k n then some v else lk r n) = some o at h
     cases hb:Nat.beq k n with
     | true =>
      rw [hb,cond_true] at h
      injection h with h
      have:=Nat.eq_of_beq_eq_true hb
      subst this
      subst h
      exact hq (k,v) List.mem_cons_self
     | false =>
      rw [hb,cond_false] at h
      exact ih (fun p hp => hq p (List.mem_cons_of_mem _ hp)) h
   exact hm us hus hl
  ·right
   have hm:∀ (us:Mem),lk us n = some o → n ∈ keys us:=by
    intro us
    induction us with
    | nil => intro h; cases h
    | cons q r ih =>
     intro h
     obtain ⟨k,v⟩:=q
     change (bif Nat.beq k n then some v else lk r n) = some o at h
     cases hb:Nat.beq k n with
     | true => have:=Nat.eq_of_beq_eq_true hb; subst this; exact List.mem_cons_self
     | false =>
      rw [hb,cond_false] at h
      exact List.mem_cons_of_mem _ (ih h)
   exact ⟨n,hm us hl,hg⟩
 refine wp_mono (h w U0 R g (fun b hb => hb) t ht R B g _ w hSt) fun e a' w' hp => ?_
 obtain ⟨σ',m',R',B',g',hs',he,hrv,hdf,hk1,hk2,hpa,hpo,hoa,hoo⟩:=hp
 obtain ⟨u,hu1,hu2⟩:=vZ.results hs' hrv
 have aAM:=hdf.all
 -- the names that come out
 let Z:Nat → Prop:=fun n => n ∈ keys us ∨ n ∈ X
 have aFT:∀ n,Z n → n ∈ keys (iZ t):=fun n hn => hn.elim (wV hk1 n) (wV hk2 n)
 classical
 let g2:Nat → GS:=fun n => if Z n then g' n else g n
 have AP:∀ n,Z n → g2 n = g' n:=fun n hn => if_pos hn
 have Ec:∀ n,¬ Z n → g2 n = g n:=fun n hn => if_neg hn
 have VR:∀ n,Z n → ∀ b,(g' n).has b → w.heap.size ≤ b ∨ ∃ k ∈ keys us,(g k).has b:=fun n hn b hb => by
  obtain ⟨o,ho⟩:=mem_keys (aFT n hn)
  exact hs'.ow n o b (aAM (n,o) ho) hb
 have HY:∀ b,R' b → R b ∨ w.heap.size ≤ b:=hs'.perm
 have hRR:∀ b,R b → R' b:=hs'.r0
 have aFR:∀ b,R' b → b < w'.heap.size:=fun b hb => hs'.wf.lt b (hs'.wf.rb b hb)
 have hwf:WF R' (fun b => B b ∨ R' b) g2 w':=by
  refine ⟨fun b hb => .inr hb,fun b hb => hb.elim (fun hb => Nat.lt_of_lt_of_le (hw.lt b hb) hs'.size) (aFR b),fun n b hg => ?_,fun n k b hn hk => ?_,fun n j k b hj hk => ?_⟩
  ·by_cases hn:Z n
   ·rw [AP n hn] at hg
    have h1:=hs'.wf.jZ n b hg
    refine ⟨fun hB => ?_,h1.2⟩
    rcases hB with hB | hB
    ·rcases VR n hn b hg with h2 | ⟨k,_,h2⟩
     ·exact absurd (hw.lt b hB) (by omega)
     ·exact (hw.jZ k b h2).1 hB
    ·exact h1.1 (hs'.wf.rb b hB)
   ·rw [Ec n hn] at hg
    have h1:=hw.jZ n b hg
    refine ⟨fun hB => ?_,Nat.lt_of_lt_of_le h1.2 hs'.size⟩
    rcases hB with hB | hB
    ·exact h1.1 hB
    ·rcases HY b hB with h2 | h2
     ·exact h1.1 (hw.rb b h2)
     ·exact absurd h1.2 (by omega)
  ·have cross:∀ n k b,Z n → ¬ Z k → (g' n).has b → (g k).has b → False:=fun n k b hn hk h1 h2 => by
    rcases VR n hn b h1 with h3 | ⟨j,hj,h3⟩
    ·exact absurd (hw.jZ k b h2).2 (by omega)
    ·exact hk (.inl (hw.jk j k b h3 h2 ▸ hj))
   by_cases zA:Z n <;> by_cases He:Z k
   ·rw [AP n zA] at hn
    rw [AP k He] at hk
    exact hs'.wf.jk n k b hn hk
   ·rw [AP n zA] at hn
    rw [Ec k He] at hk
    exact (cross n k b zA He hn hk).elim
   ·rw [Ec n zA] at hn
    rw [AP k He] at hk
    exact (cross k n b He zA hk hn).elim
   ·rw [Ec n zA] at hn
    rw [Ec k He] at hk
    exact hw.jk n k b hn hk
  ·by_cases hn:Z n
   ·rw [AP n hn] at hj hk
    exact hs'.wf.nd n j k b hj hk
   ·rw [Ec n hn] at hj hk
    exact hw.nd n j k b hj hk
 have hpn:∀ n ∈ pn,n ∈ keys us:=wV hs3
 have LX:iH R B g w (keys us) X R' (fun b => B b ∨ R' b) g2 w':=by
  refine ⟨hwf,hRR,fun b hb => .inl hb,hs'.os,hs'.tape,hs'.output,hs'.size,fun b hb mg => hs'.heap b hb fun hU => ?_,fun n hn => ?_,fun n hn b hb => ?_,fun n mg vK b cur e' hg hh => ?_⟩
  ·obtain ⟨n,hn,hg⟩:=hU
   exact mg n hn hg
  ·by_cases zA:Z n
   ·rw [AP n zA]
    have hnu:n ∈ keys us:=zA.resolve_right hn
    exact hs'.pin n ((List.mem_append.1 (wV hs1 n hnu)).resolve_right hn)
   ·exact Ec n zA
  ·rw [AP n (.inr hn)] at hb
   exact VR n (.inr hn) b hb
  ·have hnp:n ∈ pn:=(List.mem_append.1 (wV hs1 n mg)).resolve_right vK
   exact hs'.shp n hnp b cur e' hg hh
 have hgz:∀ n ∈ keys us ++ X,g2 n = g' n:=fun n hn => AP n (List.mem_append.1 hn)
 have hres:bodyPost P fn (fun e w' => ∃ u R' B' g',e = .returned u ∧ iH R B g w (keys us) X R' B' g' w' ∧ (∀ b,R' b → R b ∨ w.heap.size ≤ b) ∧ RA P w' R' R' g' (vP (rs t)) u ∧ ∀ p ∈ iZ t,RO P w' R' R' g' p.1 p.2) .ret a' w':=by
  refine ⟨hs'.nd,u,hu1,u,R',_,g2,rfl,LX,HY,?_,?_⟩
  ·exact (hu2.perm hpa).ok hoa hgz
  ·intro p hp
   have hz:=List.all_eq_true.1 hoo p hp
   simp only [Bool.and_eq_true] at hz
   exact ((hs'.ob p.1 p.2 (aAM p hp)).perm (hpo p hp)).ok (List.mem_of_elem_eq_true hz.1) hz.2 hgz
 rcases he with rfl | rfl
 ·exact hres
 ·exact hres
inductive QW:PV → PV → Prop
 | sc {v:Value}:QW (.sc v) (.sc v)
 | xs {q q':Bool} {els els':List (List PV)} (hq:q' = true → q = true) (hl:els'.length = els.length) (hc:∀ (j:Nat) cs cs',els[j]? = some cs → els'[j]? = some cs' → cs'.length = cs.length) (h:∀ (j k:Nat) cs cs' p p',els[j]? = some cs → els'[j]? = some cs' → cs[k]? = some p → cs'[k]? = some p' → QW p p'):QW (.xs q els) (.xs q' els')
theorem aIy {R B:Nat → Prop} {q q':Bool} {b:Nat} (HY:∀ b,R b → B b) (hq:q' = true → q = true) (h:DT R B q b):DT R B q' b:=by
 cases q' with
 | true => rw [hq rfl] at h; exact h
 | false =>
  cases q with
  | true => exact HY b h
  | false => exact h
theorem jH.aK1 {w:World} {R B:Nat → Prop} (HY:∀ b,R b → B b) {p:PV} {v:Value} (h:jH w R B p v):∀ {p':PV},QW p p' → jH w R B p' v:=by
 induction h with
 | sc h => intro p' hq; cases hq; exact .sc h
 | emp =>
  intro p' hq
  cases hq with
  | xs hq hl hc h =>
   have:=List.eq_nil_of_length_eq_zero hl
   subst this
   exact .emp
 | @xs q els a c s n val hn hb hc hs hv hr ih =>
  intro p' hq
  cases hq with
  | @xs _ q' _ els' hqq hl hcc hh =>
   refine .xs (s:=s) val (hn.trans hl.symm) (aIy HY hqq hb) (by omega) (fun cs' hcs' => ?_) (fun j k cs' p' hj hk => ?_) (fun j k cs' p' hj hk => ?_)
   ·obtain ⟨j,hj,rfl⟩:=List.mem_iff_getElem.1 hcs'
    have h1:els[j]? = some (els[j]'(by omega)):=List.getElem?_eq_getElem (by omega)
    rw [hcc j _ _ h1 (List.getElem?_eq_getElem hj)]
    exact hs _ (List.mem_of_getElem? h1)
   ·have hjl:=(List.getElem?_eq_some_iff.1 hj).1
    have h1:els[j]? = some (els[j]'(by omega)):=List.getElem?_eq_getElem (by omega)
    have hkl:=(List.getElem?_eq_some_iff.1 hk).1
    have h2:=hcc j _ _ h1 hj
    have h3:(els[j]'(by omega))[k]? = some ((els[j]'(by omega))[k]'(by omega)):=List.getElem?_eq_getElem (by omega)
    exact hv _ _ _ _ h1 h3
   ·have hjl:=(List.getElem?_eq_some_iff.1 hj).1
    have h1:els[j]? = some (els[j]'(by omega)):=List.getElem?_eq_getElem (by omega)
    have hkl:=(List.getElem?_eq_some_iff.1 hk).1
    have h2:=hcc j _ _ h1 hj
    have h3:(els[j]'(by omega))[k]? = some ((els[j]'(by omega))[k]'(by omega)):=List.getElem?_eq_getElem (by omega)
    exact ih _ _ _ _ h1 h3 (hh _ _ _ _ _ _ h1 hj h3 hk)
inductive pY (sh:Mem):CV → CV → Prop
 | same {x:CV} (h:cO (keys sh) x = x):pY sh x x
 | weak {x:CV} {p p':PV} (h:pY sh x (.pv p)) (hq:QW p p'):pY sh x (.pv p')
 | loc {n:Nat} {e:TypeId} {els:List (List PV)} (h:lk sh n = some (.fA e els)):pY sh (.loc n 0 els.length) (.pv (.xs false els))
 | nil {q:Bool}:pY sh (.pv (.sc (.slice none 0 0))) (.pv (.xs q []))
 | dh {n p:Nat} {e e2:TypeId} {rows:List (List (List PV))} {lens:List Nat} (h1:lk sh n = some (.dh e p lens)) (h2:lk sh p = some (.pool e2 rows)) (hl:lens = rows.map List.length):pY sh (.loc n 0 lens.length) (.pv (.xs false (rows.map fun r => [.xs false r])))
 | tl {p k:Nat} {e2:TypeId} {rows:List (List (List PV))} {r:List (List PV)} (h2:lk sh p = some (.pool e2 rows)) (hk:rows[k]? = some r):pY sh (.tl p k 0 r.length) (.pv (.xs false r))
 | frw {n p q:Nat} {e:TypeId} {fs:List (Int × Nat × Nat)} {els:List (List PV)} (h1:lk sh n = some (.lW e p q fs)) (hl:els.length = (oZ p q fs).length) (hc:∀ (j:Nat) cs ps,(oZ p q fs)[j]? = some cs → els[j]? = some ps → ps.length = cs.length)
  (hh:∀ (j:Nat) cs ps (k:Nat) c p',(oZ p q fs)[j]? = some cs → els[j]? = some ps → cs[k]? = some c → ps[k]? = some p' → pY sh c (.pv p')):pY sh (.loc n 0 els.length) (.pv (.xs false els))
inductive Gf (sh:Mem):List CV → List CV → Prop
 | nil:Gf sh [] []
 | cons {x y:CV} {xs ys:List CV} (h:pY sh x y) (t:Gf sh xs ys):Gf sh (x :: xs) (y :: ys)
inductive Gg (sh:Mem):SV → SV → Prop
 | c {x y:CV} (h:pY sh x y):Gg sh (.c x) (.c y)
 | agg {xs ys:List CV} (h:Gf sh xs ys):Gg sh (.agg xs) (.agg ys)
inductive qI (sh:Mem):List SV → List SV → Prop
 | nil:qI sh [] []
 | cons {x y:SV} {xs ys:List SV} (h:Gg sh x y) (t:qI sh xs ys):qI sh (x :: xs) (y :: ys)
section
variable {P:Program} {w:World} {R B:Nat → Prop} {g:Nat → GS}
def H9 (sh:Mem) (B:Nat → Prop) (g:Nat → GS):Nat → Prop:=fun b => B b ∨ ∃ n ∈ keys sh,(g n).has b
def zC (sh:Mem) (g:Nat → GS):Nat → GS:=fun n => if n ∈ keys sh then .dead else g n
theorem IA {sh:Mem} {n:Nat} (h:n ∈ keys sh):zC sh g n = .dead:=by unfold zC; exact if_pos h
theorem zD {sh:Mem} {n:Nat} (h:n ∉ keys sh):zC sh g n = g n:=by unfold zC; exact if_neg h
theorem Wn (hw:WF R B g w) (sh:Mem):WF R (H9 sh B g) (zC sh g) w:=by
 refine ⟨fun b hb => .inl (hw.rb b hb),fun b hb => hb.elim (hw.lt b) fun ⟨n,_,hg⟩ => (hw.jZ n b hg).2,fun n b hg => ?_,fun n k b hn hk => ?_,fun n j k b hj hk => ?_⟩
 ·by_cases hn:n ∈ keys sh
  ·rw [IA hn] at hg; exact hg.elim
  ·rw [zD hn] at hg
   refine ⟨fun hB => ?_,(hw.jZ n b hg).2⟩
   rcases hB with hB | ⟨k,hk,hg'⟩
   ·exact (hw.jZ n b hg).1 hB
   ·exact hn (hw.jk k n b hg' hg ▸ hk)
 ·by_cases hn1:n ∈ keys sh
  ·rw [IA hn1] at hn; exact hn.elim
  ·by_cases hk1:k ∈ keys sh
   ·rw [IA hk1] at hk; exact hk.elim
   ·rw [zD hn1] at hn
    rw [zD hk1] at hk
    exact hw.jk n k b hn hk
 ·by_cases hn:n ∈ keys sh
  ·rw [IA hn] at hj; cases hj
  ·rw [zD hn] at hj hk
   exact hw.nd n j k b hj hk
theorem aBA (hw:WF R B g w) (sh:Mem):iH R B g w [] (keys sh) R (H9 sh B g) (zC sh g) w :=
 ⟨Wn hw sh,fun _ h => h,fun _ h => .inl h,rfl,rfl,rfl,Nat.le_refl _,fun _ _ _ => rfl,fun n hn => zD hn,fun n hn b hb => (by rw [IA hn] at hb; exact hb.elim),fun n hn => (by cases hn)⟩
theorem Ae {α:Type}:∀ {l:List (Nat × α)} {n:Nat} {o:α},lk l n = some o → (n,o) ∈ l
 | [],_,_,h => by cases h
 | (k,v) :: r,n,o,h => by
  change (bif Nat.beq k n then some v else lk r n) = some o at h
  cases hb:Nat.beq k n with
  | true =>
   rw [hb,cond_true] at h
   injection h with h
   have:=Nat.eq_of_beq_eq_true hb
   subst this
   subst h
   exact List.mem_cons_self
  | false =>
   rw [hb,cond_false] at h
   exact List.mem_cons_of_mem _ (Ae h)
theorem tC.rpv {B2:Nat → Prop} (hb:∀ b,B b → B2 b) {p k:Nat} {e:TypeId} {els:List (List PV)} {v:Value} (hx:RC P w R B g (.tl p k 0 els.length) v) (hr:tC P w R B ((g p).at k) e els) (hB:∀ b,(g p).has b → B2 b):jH w R B2 (.xs false els) v:=by
 rcases hx.2 with ⟨h1,_,h3,h4⟩ | ⟨_,h2,_⟩ | ⟨b,cap,cur,e',k1,k2,k3,k4,k5,k6⟩
 ·have:els = []:=List.eq_nil_of_length_eq_zero h3
  subst this
  subst h4
  exact .emp
 ·exact absurd rfl h2
 ·rcases hr with ⟨h1,_⟩ | ⟨b',cur',h1,h2,h3,h4,h5⟩
  ·rw [k1] at h1; cases h1
  ·rw [k1] at h1
   injection h1 with h1
   subst h1
   rw [k2] at h2
   injection h2 with h2
   injection h2 with h2 h6 h7
   subst h2
   subst h6
   subst k6
   refine .xs (s:=bZ P e') (fun j i => cur.getD (j * bZ P e' + i) undef) rfl (hB b (GS.tH k1)) k3 h3 (fun j i cs q hj hi => ?_) (fun j i cs q hj hi => ?_)
   ·obtain ⟨u,hu,_⟩:=h5 j i cs q hj hi
    rw [Nat.zero_mul,add_lit,Nat.zero_add,DW k2,hu]
    simp [Array.getD_eq_getD_getElem?,hu]
   ·obtain ⟨u,hu,hr⟩:=h5 j i cs q hj hi
    have:cur.getD (j * bZ P e' + i) undef = u:=by simp [Array.getD_eq_getD_getElem?,hu]
    rw [this]
    exact jH.more hb hr
theorem pY.rc {sh:Mem} (hw:WF R B g w) (hsh:∀ p ∈ sh,RO P w R B g p.1 p.2) {x y:CV} {v:Value} (h:pY sh x y) (hx:RC P w R B g x v):RC P w R (H9 sh B g) (zC sh g) y v:=by
 induction h generalizing v with
 | weak h hq ih => exact ⟨(ih hx).1,jH.aK1 (Wn hw sh).rb (ih hx).2 hq⟩
 | same h =>
  have:=(aBA hw sh).rc hw hx
  rwa [h] at this
 | nil =>
  obtain ⟨_,h2⟩:=hx
  cases h2
  exact ⟨rfl,.emp⟩
 | @loc n e els h =>
  have hm:=Ae h
  have hro:eU P w R B g n e (gY els):=hsh (n,.fA e els) hm
  have hnk:n ∈ keys sh:=List.mem_map.2 ⟨_,hm,rfl⟩
  refine ⟨hx.1,?_⟩
  rcases hx.2 with ⟨h1,_,h3,h4⟩ | ⟨_,h2,_⟩ | ⟨b,cap,cur,e',k1,k2,k3,k4,k5,k6⟩
  ·have:els = []:=List.eq_nil_of_length_eq_zero h3
   subst this
   subst h4
   exact .emp
  ·exact absurd rfl h2
  ·rcases hro with ⟨h1,_⟩ | ⟨b',cur',h1,h2,h3,h4,h5⟩
   ·rw [k1] at h1; cases h1
   ·rw [k1] at h1
    injection h1 with h1
    subst h1
    rw [k2] at h2
    injection h2 with h2
    injection h2 with h2 h6 h7
    subst h2
    subst h6
    subst k6
    have hval:∀ j k cs p,els[j]? = some cs → cs[k]? = some p → ∃ u,cur[j * bZ P e' + k]? = some u ∧ RC P w R B g (.pv p) u:=fun j k cs p hj hk => by
     have:=h5 j k (cs.map .pv) (.pv p) (by simp [gY,hj]) (by simp [hk])
     exact this
    refine .xs (s:=bZ P e') (fun j k => cur.getD (j * bZ P e' + k) undef) rfl (.inr ⟨n,hnk,GS.uh k1⟩) k3 (fun cs hcs => ?_) (fun j k cs p hj hk => ?_) (fun j k cs p hj hk => ?_)
    ·have:=h3 (cs.map .pv) (List.mem_map.2 ⟨cs,hcs,rfl⟩)
     simpa using this
    ·obtain ⟨u,hu,_⟩:=hval j k cs p hj hk
     rw [Nat.zero_mul,add_lit,Nat.zero_add,DW k2,hu]
     simp [Array.getD_eq_getD_getElem?,hu]
    ·obtain ⟨u,hu,hr⟩:=hval j k cs p hj hk
     have:cur.getD (j * bZ P e' + k) undef = u:=by simp [Array.getD_eq_getD_getElem?,hu]
     rw [this]
     exact jH.more (fun _ h => .inl h) hr.2
 | @frw n p q e fs els h1 hl hc hh ih =>
  have hm:=Ae h1
  have hro:eU P w R B g n e (oZ p q fs):=hsh (n,.lW e p q fs) hm
  have hnk:n ∈ keys sh:=List.mem_map.2 ⟨_,hm,rfl⟩
  refine ⟨hx.1,?_⟩
  rcases hx.2 with ⟨h1,_,h3,h4⟩ | ⟨_,h2,_⟩ | ⟨b,cap,cur,e',k1,k2,k3,k4,k5,k6⟩
  ·have:els = []:=List.eq_nil_of_length_eq_zero h3
   subst this
   subst h4
   exact .emp
  ·exact absurd rfl h2
  ·rcases hro with ⟨h1,_⟩ | ⟨b',cur',h1,h2,h3,h4,h5⟩
   ·rw [k1] at h1; cases h1
   ·rw [k1] at h1
    injection h1 with h1
    subst h1
    rw [k2] at h2
    injection h2 with h2
    injection h2 with h2 h6 h7
    subst h2
    subst h6
    subst k6
    have hcell:∀ (j:Nat) ps,els[j]? = some ps → ∃ cs,(oZ p q fs)[j]? = some cs:=fun j ps hj => by
     have hjl:=(List.getElem?_eq_some_iff.1 hj).1
     exact ⟨_,List.getElem?_eq_getElem (by omega)⟩
    have hval:∀ (j k:Nat) ps p,els[j]? = some ps → ps[k]? = some p → ∃ u,cur[j * bZ P e' + k]? = some u ∧ jH w R (H9 sh B g) p u:=fun j k ps p hj hk => by
     obtain ⟨cs,hcs⟩:=hcell j ps hj
     have hln:=hc j cs ps hcs hj
     have hkl:=(List.getElem?_eq_some_iff.1 hk).1
     have hck:cs[k]? = some (cs[k]'(by omega)):=List.getElem?_eq_getElem (by omega)
     obtain ⟨u,hu,hr⟩:=h5 j k cs _ hcs hck
     exact ⟨u,hu,(ih j cs ps k _ p hcs hj hck hk hr).2⟩
    refine .xs (s:=bZ P e') (fun j k => cur.getD (j * bZ P e' + k) undef) rfl (.inr ⟨n,hnk,GS.uh k1⟩) k3 (fun ps hps => ?_) (fun j k cs p hj hk => ?_) (fun j k cs p hj hk => ?_)
    ·obtain ⟨j,hj⟩:=List.mem_iff_getElem?.1 hps
     obtain ⟨cs,hcs⟩:=hcell j ps hj
     rw [hc j cs ps hcs hj]
     exact h3 cs (List.mem_of_getElem? hcs)
    ·obtain ⟨u,hu,_⟩:=hval j k cs p hj hk
     rw [Nat.zero_mul,add_lit,Nat.zero_add,DW k2,hu]
     simp [Array.getD_eq_getD_getElem?,hu]
    ·obtain ⟨u,hu,hr⟩:=hval j k cs p hj hk
     have:cur.getD (j * bZ P e' + k) undef = u:=by simp [Array.getD_eq_getD_getElem?,hu]
     rw [this]
     exact hr
 | @tl p k e2 rows r h2 hk =>
  have hm:=Ae h2
  obtain ⟨_,hrows⟩:=hsh (p,.pool e2 rows) hm
  exact ⟨hx.1,tC.rpv (fun _ h => .inl h) hx (hrows k r hk) fun b hb => .inr ⟨p,List.mem_map.2 ⟨_,hm,rfl⟩,hb⟩⟩
 | @dh n p e e2 rows lens h1 h2 hl =>
  have hm1:=Ae h1
  have hm2:=Ae h2
  have hro:eU P w R B g n e (iJ p lens):=hsh (n,.dh e p lens) hm1
  obtain ⟨_,hrows⟩:=hsh (p,.pool e2 rows) hm2
  have hnk:n ∈ keys sh:=List.mem_map.2 ⟨_,hm1,rfl⟩
  have hpk:p ∈ keys sh:=List.mem_map.2 ⟨_,hm2,rfl⟩
  refine ⟨hx.1,?_⟩
  rcases hx.2 with ⟨h1,_,h3,h4⟩ | ⟨_,h2,_⟩ | ⟨b,cap,cur,e',k1,k2,k3,k4,k5,k6⟩
  ·have:rows = []:=List.eq_nil_of_length_eq_zero (by rw [hl] at h3; simpa using h3)
   subst this
   subst h4
   exact .emp
  ·exact absurd rfl h2
  ·rcases hro with ⟨h1,_⟩ | ⟨b',cur',h1,h2,h3,h4,h5⟩
   ·rw [k1] at h1; cases h1
   ·rw [k1] at h1
    injection h1 with h1
    subst h1
    rw [k2] at h2
    injection h2 with h2
    injection h2 with h2 h6 h7
    subst h2
    subst h6
    subst k6
    have hcell:∀ j r,rows[j]? = some r → (iJ p lens)[j]? = some [CV.tl p j 0 r.length]:=fun j r hj => by
     unfold iJ
     rw [List.getElem?_mapIdx,hl,List.getElem?_map,hj]
     rfl
    have hval:∀ j r,rows[j]? = some r → ∃ u,cur[j * bZ P e' + 0]? = some u ∧ RC P w R B g (.tl p j 0 r.length) u:=fun j r hj => h5 j 0 _ _ (hcell j r hj) rfl
    have hone:∀ (j i:Nat) cs q,(rows.map fun r => [PV.xs false r])[j]? = some cs → cs[i]? = some q → ∃ r,rows[j]? = some r ∧ i = 0 ∧ q = .xs false r:=fun j i cs q hj hi => by
     rw [List.getElem?_map] at hj
     cases hr:rows[j]? with
     | none => rw [hr] at hj; cases hj
     | some r =>
      rw [hr] at hj
      injection hj with hj
      subst hj
      cases i with
      | zero => simp at hi; exact ⟨r,rfl,rfl,hi.symm⟩
      | succ i => simp at hi
    refine .xs (s:=bZ P e') (fun j i => cur.getD (j * bZ P e' + i) undef) (by rw [hl]; simp) (.inr ⟨n,hnk,GS.uh k1⟩) (by rw [hl] at k3; simpa using k3) (fun cs hcs => ?_) (fun j i cs q hj hi => ?_) (fun j i cs q hj hi => ?_)
    ·obtain ⟨j,hj⟩:=List.mem_iff_getElem?.1 hcs
     rw [List.getElem?_map] at hj
     cases hr:rows[j]? with
     | none => rw [hr] at hj; cases hj
     | some r =>
      rw [hr] at hj
      injection hj with hj
      subst hj
      exact h3 _ (List.mem_of_getElem? (hcell j r hr))
    ·obtain ⟨r,hr,rfl,rfl⟩:=hone j i cs q hj hi
     obtain ⟨u,hu,_⟩:=hval j r hr
     have hu':cur[j * bZ P e']? = some u:=hu
     rw [Nat.zero_mul,add_lit,Nat.zero_add,DW k2,hu]
     simp [Array.getD_eq_getD_getElem?,hu']
    ·obtain ⟨r,hr,rfl,rfl⟩:=hone j i cs q hj hi
     obtain ⟨u,hu,Ej⟩:=hval j r hr
     have hu':cur[j * bZ P e']? = some u:=hu
     have:cur.getD (j * bZ P e' + 0) undef = u:=by simp [Array.getD_eq_getD_getElem?,hu']
     rw [this]
     exact tC.rpv (fun _ h => .inl h) Ej (hrows j r hr) fun b hb => .inr ⟨p,hpk,hb⟩
theorem Gf.get {sh:Mem} {xs ys:List CV} (h:Gf sh xs ys):xs.length = ys.length ∧ ∀ (k:Nat) y,ys[k]? = some y → ∃ x,xs[k]? = some x ∧ pY sh x y:=by
 induction h with
 | nil => exact ⟨rfl,fun k y h => by simp at h⟩
 | cons h _ ih =>
  refine ⟨by simp [ih.1],fun k y hk => ?_⟩
  cases k with
  | zero => simp at hk; subst hk; exact ⟨_,rfl,h⟩
  | succ k => exact ih.2 k y (by simpa using hk)
theorem Gg.rs {sh:Mem} (hw:WF R B g w) (hsh:∀ p ∈ sh,RO P w R B g p.1 p.2) {x y:SV} {v:Value} (h:Gg sh x y) (hx:RS P w R B g x v):RS P w R (H9 sh B g) (zC sh g) y v:=by
 cases h with
 | c h => exact pY.rc hw hsh h hx
 | agg h =>
  obtain ⟨h1,h2⟩:=h.get
  obtain ⟨vs,h3,h4,h5⟩:=hx
  refine ⟨vs,h3,h4.trans h1,fun k y hk => ?_⟩
  obtain ⟨x,h6,h7⟩:=h2 k y hk
  obtain ⟨u,h8,h9⟩:=h5 k x h6
  exact ⟨u,h8,h7.rc hw hsh h9⟩
theorem qI.get {sh:Mem} {xs ys:List SV} (h:qI sh xs ys):xs.length = ys.length ∧ ∀ (k:Nat) y,ys[k]? = some y → ∃ x,xs[k]? = some x ∧ Gg sh x y:=by
 induction h with
 | nil => exact ⟨rfl,fun k y h => by simp at h⟩
 | cons h _ ih =>
  refine ⟨by simp [ih.1],fun k y hk => ?_⟩
  cases k with
  | zero => simp at hk; subst hk; exact ⟨_,rfl,h⟩
  | succ k => exact ih.2 k y (by simpa using hk)
end
def dL (P:Program) (f:FuncId):Bool:=match P.funcs[f]? with
 | some fn => !(fn.name == "runtime.NumGoroutine") && fn.body.isSome
 | none => false
theorem aCG {P:Program} {f:FuncId} (h:dL P f = true) (args:Array Value) (w:World):(callFunc f args).run P w = .ok (.enter f args) w:=by
 unfold dL at h
 split at h
 ·rename_i fn hf
  simp only [Bool.and_eq_true,Bool.not_eq_true'] at h
  have hn:fn.name ≠ "runtime.NumGoroutine" := by simpa using h.1
  have hb:fn.body ≠ none:=by cases hbody:fn.body <;> simp_all
  simp [callFunc,hf,hn,hb]
 ·cases h
def KH (ops:List Operand) (xs:List SV):List (Operand × AV):=(ops.zip xs).map fun q => (q.1,.s q.2)
def plS (n:Nat):SV:=.c (.pl n 0)
theorem LT.call {P:Program} {o:Oper} {cf:Operand} {f:FuncId} {ops:Array Operand} {ts:Array TypeId} {caps:List Nat} {xs ys:List SV} {us sh df:Mem} {v:AV} {W X:List Nat} (hf:Fn P f (ys ++ caps.map plS) us v df W X)
  (ho:o.op = .call { callee:=.value cf,args:=ops,argTypes:=ts }) (hb:dL P f = true) (hlen:ops.size = xs.length) (hsh:qI sh xs ys)
  (hside:(mY (keys sh) (W ++ X ++ keys us ++ keys df ++ caps) && fF W (keys us)) = true) (hus:∀ p ∈ us,lD (keys sh) p.2 = p.2):LT P o ((cf,Cc (.fn f caps)) :: KH ops.toList xs) (us ++ sh) v df W X:=by
 intro R B g w a hw hin hu K Q hK
 simp only [Bool.and_eq_true] at hside
 obtain ⟨hdis,aLJ⟩:=hside
 have hd:=QX hdis
 have aHO:∀ p ∈ sh,RO P w R B g p.1 p.2:=fun p hp => hu p (List.mem_append_right _ hp)
 have aFU:=aBA hw sh
 obtain ⟨_,cv,hcf,hcl,aF3⟩:=in1 hin
 obtain ⟨hl1,hget⟩:=hsh.get
 have hvl:(ops.toList.map a.eval).length = ys.length:=by rw [List.length_map,Array.length_toList,hlen,hl1]
 have hcall:=hf R (H9 sh B g) (zC sh g) w (ops.toList.map a.eval ++ cv) (Wn hw sh) (by rw [List.length_append,List.length_append,hvl,hcl,List.length_map]) (fun k y hk => by
  rw [List.getElem?_append] at hk ⊢
  rw [hvl]
  split at hk
  ·rename_i hlt
   rw [if_pos hlt]
   obtain ⟨x,hx,hs⟩:=hget k y hk
   have hkl:k < ops.toList.length:=by rw [Array.length_toList,hlen,hl1]; exact hlt
   refine ⟨a.eval ops.toList[k],by rw [List.getElem?_map,List.getElem?_eq_getElem hkl]; rfl,?_⟩
   refine hs.rs hw aHO ?_
   have hm:(ops.toList[k],AV.s x) ∈ KH ops.toList xs:=by
    refine List.mem_map.2 ⟨(ops.toList[k],x),?_,rfl⟩
    refine List.mem_of_getElem? (i:=k) ?_
    rw [List.getElem?_zip_eq_some]
    exact ⟨List.getElem?_eq_getElem hkl,hx⟩
   exact hin _ (List.mem_cons_of_mem _ hm)
  ·rename_i hlt
   rw [if_neg hlt]
   rw [List.getElem?_map] at hk
   cases hc:caps[k - ys.length]? with
   | none => rw [hc] at hk; cases hk
   | some n =>
    rw [hc] at hk
    injection hk with hk
    subst hk
    obtain ⟨b,h1,h2⟩:=aF3 _ n hc
    have hn:n ∉ keys sh:=fun hm => hd n hm (List.mem_append_right _ (List.mem_of_getElem? hc))
    exact ⟨_,h2,rfl,b,(zD hn).trans h1,rfl⟩)
  (fun p hp => by
   have hn:p.1 ∉ keys sh:=fun hm => hd p.1 hm (List.mem_append_left _ (List.mem_append_left _ (List.mem_append_right _ (List.mem_map.2 ⟨p,hp,rfl⟩))))
   have:=aFU.ro hw hn (by simp) (hu p (List.mem_append_left _ hp))
   rwa [hus p hp] at this)
 have hrun:(execOp a.eval o).run P w = .ok (.enter f (ops.toList.map a.eval ++ cv).toArray) w:=by
  have e1:(ops.map a.eval ++ cv.toArray) = (ops.toList.map a.eval ++ cv).toArray:=by
   apply Array.ext'
   simp
  simp only [execOp,ho,resolve,hcf,Deferred.ofValue,Sem.run_bind,Sem.run_pure,Result.andThen_ok,invoke]
  first
   | (simp only [Array.empty_append,aCG hb,e1]; done)
   | (simp only [Array.empty_append]; rw [← e1]; exact aCG hb _ w)
 unfold Oper.wp
 rw [hrun]
 rw [Oper.upon_enter]
 refine hcall.mono fun e w' hp => ?_
 obtain ⟨u,R',B',g',rfl,had,hR,hv,hdf⟩:=hp
 -- back in the caller: what was lent is its own again
 have aAX:∀ n ∈ keys sh,n ∉ X:=fun n hn hx => hd n hn (List.mem_append_left _ (List.mem_append_left _ (List.mem_append_left _ (List.mem_append_right _ hx))))
 have aAW:∀ n ∈ keys sh,n ∉ W:=fun n hn hx => hd n hn (List.mem_append_left _ (List.mem_append_left _ (List.mem_append_left _ (List.mem_append_left _ hx))))
 have aF9:∀ n ∈ keys sh,g' n = .dead:=fun n hn => (had.names n (aAX n hn)).trans (IA hn)
 classical
 let g2:Nat → GS:=fun n => if n ∈ keys sh then g n else g' n
 have hin2:∀ n,n ∈ keys sh → g2 n = g n:=fun n hn => if_pos hn
 have hout2:∀ n,n ∉ keys sh → g2 n = g' n:=fun n hn => if_neg hn
 let B2:Nat → Prop:=fun b => B b ∨ R' b
 have hold:∀ n b,n ∈ keys sh → (g n).has b → ¬ B2 b ∧ b < w'.heap.size:=fun n b hn hg => by
  have h1:=hw.jZ n b hg
  refine ⟨fun hB => ?_,Nat.lt_of_lt_of_le h1.2 had.size⟩
  rcases hB with hB | hB
  ·exact h1.1 hB
  ·rcases hR b hB with h2 | h2
   ·exact h1.1 (hw.rb b h2)
   ·exact absurd h1.2 (by omega)
 have Lc:∀ n k b,n ∈ keys sh → k ∉ keys sh → (g n).has b → (g' k).has b → False:=fun n k b hn hk h1 h2 => by
  by_cases hkX:k ∈ X
  ·rcases had.fresh k hkX b h2 with h3 | ⟨j,hj,h3⟩
   ·exact absurd (hw.jZ n b h1).2 (by omega)
   ·have hjs:j ∉ keys sh:=fun hm => aAW j hm hj
    rw [zD hjs] at h3
    exact hjs (hw.jk n j b h1 h3 ▸ hn)
  ·rw [had.names k hkX,zD hk] at h2
   exact hk (hw.jk n k b h1 h2 ▸ hn)
 have MI:WF R' B2 g2 w':=by
  refine ⟨fun b hb => .inr hb,fun b hb => hb.elim (fun hb => Nat.lt_of_lt_of_le (hw.lt b hb) had.size) fun hb => had.wf.lt b (had.wf.rb b hb),fun n b hg => ?_,fun n k b hn hk => ?_,fun n j k b hj hk => ?_⟩
  ·by_cases hn:n ∈ keys sh
   ·rw [hin2 n hn] at hg
    exact hold n b hn hg
   ·rw [hout2 n hn] at hg
    have h1:=had.wf.jZ n b hg
    exact ⟨fun hB => h1.1 (hB.elim (fun h => had.b b (.inl h)) (had.wf.rb b)),h1.2⟩
  ·by_cases h1:n ∈ keys sh <;> by_cases h2:k ∈ keys sh
   ·rw [hin2 n h1] at hn
    rw [hin2 k h2] at hk
    exact hw.jk n k b hn hk
   ·rw [hin2 n h1] at hn
    rw [hout2 k h2] at hk
    exact (Lc n k b h1 h2 hn hk).elim
   ·rw [hout2 n h1] at hn
    rw [hin2 k h2] at hk
    exact (Lc k n b h2 h1 hk hn).elim
   ·rw [hout2 n h1] at hn
    rw [hout2 k h2] at hk
    exact had.wf.jk n k b hn hk
  ·by_cases hn:n ∈ keys sh
   ·rw [hin2 n hn] at hj hk
    exact hw.nd n j k b hj hk
   ·rw [hout2 n hn] at hj hk
    exact had.wf.nd n j k b hj hk
 have VP:∀ n ∈ W,zC sh g n = g n:=fun n hn => zD fun hm => aAW n hm hn
 have aFV:iH R B g w W X R' B2 g2 w':=by
  refine ⟨MI,had.r,fun b hb => .inl hb,had.os,had.tape,had.output,had.size,fun b hb hW => had.heap b hb fun n hn => by rw [VP n hn]; exact hW n hn,fun n hn => ?_,fun n hn b hb => ?_,fun n mg vK b cur e hg hh => ?_⟩
  ·by_cases h1:n ∈ keys sh
   ·exact hin2 n h1
   ·rw [hout2 n h1,had.names n hn,zD h1]
  ·have h1:n ∉ keys sh:=fun hm => aAX n hm hn
   rw [hout2 n h1] at hb
   rcases had.fresh n hn b hb with h2 | ⟨k,hk,h2⟩
   ·exact .inl h2
   ·rw [VP k hk] at h2
    exact .inr ⟨k,hk,h2⟩
  ·exact had.shape n mg vK b cur e (by rw [VP n mg]; exact hg) hh
 have hgd:∀ n,g' n ≠ .dead → g2 n = g' n:=fun n hg => by
  by_cases h1:n ∈ keys sh
  ·exact absurd (aF9 n h1) hg
  ·exact hout2 n h1
 exact hK u R' B2 g2 w' aFV hR (fun _ => (hv.more fun b hb => .inr hb).names hgd) fun p hp => ((hdf p hp).more fun b hb => .inr hb).names hgd
end
section
structure Ct where
 ins:List (Operand × AV)
 us:Mem
 v:AV
 df:Mem
 W:List Nat
 X:List Nat
 want:Bool
abbrev OC:=Oper × Ct
def lX (p:OC) (st:Slots × Mem):Slots × Mem:=(fB (lK p.2.X st.1) p.1.dst p.2.v,p.2.df ++ jV p.2.X st.2)
def kP:List OC → Slots × Mem → Slots × Mem
 | [],st => st
 | p :: r,st => kP r (lX p st)
def jO (X:List Nat):CV → Bool
 | .loc n _ _ => !X.elem n
 | .pl n _ => !X.elem n
 | .fn _ caps => !caps.any X.elem
 | .mref n => !X.elem n
 | .tl p _ _ _ => !X.elem p
 | .tpl p _ _ => !X.elem p
 | _ => true
def Ji (X:List Nat):SV → Bool
 | .c x => jO X x
 | .agg cs => cs.all (jO X)
def uw (X:List Nat):AV → Bool
 | .s x => Ji X x
 | .dW xs => xs.all (Ji X)
def oN (X:List Nat):Ob → Bool
 | .row _ els => els.all (·.all (jO X))
 | .dh _ p _ => !X.elem p
 | .lW _ p q _ => !X.elem p && !X.elem q
 | _ => true
def FW:CV → Bool
 | .junk => false
 | _ => true
def XF:SV → Bool
 | .c x => FW x
 | .agg cs => cs.all FW
def OI:AV → Bool
 | .s x => XF x
 | .dW xs => xs.all XF
def XE:Ob → Bool
 | .row _ els => els.all (·.all FW)
 | .unk => false
 | _ => true
theorem RZ {X:List Nat} {x:CV} (h:jO X x = true):cO X x = x:=by
 cases x with
 | fn f caps => cases hx:caps.any X.elem <;> simp only [jO,cO,hx,cond_true,cond_false] at h ⊢ <;> first | rfl | cases h
 | tl p k o l => cases hx:X.elem p <;> simp only [jO,cO,hx,cond_true,cond_false] at h ⊢ <;> first | rfl | cases h
 | tpl p k o => cases hx:X.elem p <;> simp only [jO,cO,hx,cond_true,cond_false] at h ⊢ <;> first | rfl | cases h
 | _ => simp_all [jO,cO]
theorem Jd {α:Type} {f:α → α} {l:List α} (h:∀ x ∈ l,f x = x):l.map f = l:=by
 rw [List.map_congr_left h,List.map_id']
theorem aAz {X:List Nat} {x:SV} (h:Ji X x = true):qi X x = x:=by
 cases x with
 | c x => simp only [qi,RZ h]
 | agg cs => simp only [qi,Jd fun x hx => RZ (List.all_eq_true.1 h x hx)]
theorem Wh {X:List Nat} {x:AV} (h:uw X x = true):pK X x = x:=by
 cases x with
 | s x => simp only [pK,aAz h]
 | dW xs => simp only [pK,Jd fun x hx => aAz (List.all_eq_true.1 h x hx)]
theorem Wl {X:List Nat} {x:Ob} (h:oN X x = true):lD X x = x:=by
 cases x with
 | row e els => simp only [lD,Jd fun cs hcs => Jd fun x hx => RZ (List.all_eq_true.1 (List.all_eq_true.1 h cs hcs) x hx)]
 | fA e els => rfl
 | mp es => rfl
 | pool e rows => rfl
 | dh e p lens =>
  have hx:X.elem p = false:=by simpa [oN] using h
  simp only [lD,hx,cond_false]
 | lW e p q fs =>
  simp only [oN,Bool.and_eq_true,Bool.not_eq_true'] at h
  simp only [lD,h.1,h.2,cond_false]
 | unk => rfl
theorem Wj {X:List Nat} {x:CV} (h:FW (cO X x) = true):jO X x = true:=by
 cases x with
 | loc n o l => cases hx:X.elem n <;> simp_all [jO,cO,FW]
 | pl n o => cases hx:X.elem n <;> simp_all [jO,cO,FW]
 | fn f caps => cases hx:caps.any X.elem <;> simp only [jO,cO,hx,cond_true,cond_false] at h ⊢ <;> first | rfl | cases h
 | mref n => cases hx:X.elem n <;> simp_all [jO,cO,FW]
 | tl p k o l => cases hx:X.elem p <;> simp only [jO,cO,hx,cond_true,cond_false] at h ⊢ <;> first | rfl | cases h
 | tpl p k o => cases hx:X.elem p <;> simp only [jO,cO,hx,cond_true,cond_false] at h ⊢ <;> first | rfl | cases h
 | _ => rfl
theorem aAy {X:List Nat} {x:SV} (h:XF (qi X x) = true):Ji X x = true:=by
 cases x with
 | c x => exact Wj h
 | agg cs => exact List.all_eq_true.2 fun x hx => Wj (List.all_eq_true.1 h _ (List.mem_map.2 ⟨x,hx,rfl⟩))
theorem aIE {X:List Nat} {x:AV} (h:OI (pK X x) = true):uw X x = true:=by
 cases x with
 | s x => exact aAy h
 | dW xs => exact List.all_eq_true.2 fun x hx => aAy (List.all_eq_true.1 h _ (List.mem_map.2 ⟨x,hx,rfl⟩))
theorem aIH {X:List Nat} {x:Ob} (h:XE (lD X x) = true):oN X x = true:=by
 cases x with
 | row e els => exact List.all_eq_true.2 fun cs hcs => List.all_eq_true.2 fun x hx => Wj (List.all_eq_true.1 (List.all_eq_true.1 h _ (List.mem_map.2 ⟨cs,hcs,rfl⟩)) _ (List.mem_map.2 ⟨x,hx,rfl⟩))
 | fA e els => rfl
 | mp es => rfl
 | pool e rows => rfl
 | dh e p lens =>
  cases hx:X.elem p with
  | false => simp only [oN,hx,Bool.not_false]
  | true => simp only [lD,hx,cond_true] at h; cases h
 | lW e p q fs =>
  cases hx:X.elem p with
  | true => simp only [lD,hx,cond_true] at h; cases h
  | false =>
   cases hy:X.elem q with
   | true => simp only [lD,hx,hy,cond_true,cond_false] at h; cases h
   | false => simp only [oN,hx,hy,Bool.not_false,Bool.and_self]
 | unk => cases h
theorem Wi (X Y:List Nat) (x:CV):cO X (cO Y x) = cO Y (cO X x):=by
 cases x with
 | loc n o l => cases hx:X.elem n <;> cases hy:Y.elem n <;> simp only [cO,hx,hy,cond_true,cond_false]
 | pl n o => cases hx:X.elem n <;> cases hy:Y.elem n <;> simp only [cO,hx,hy,cond_true,cond_false]
 | fn f caps => cases hx:caps.any X.elem <;> cases hy:caps.any Y.elem <;> simp only [cO,hx,hy,cond_true,cond_false]
 | mref n => cases hx:X.elem n <;> cases hy:Y.elem n <;> simp only [cO,hx,hy,cond_true,cond_false]
 | tl n k o l => cases hx:X.elem n <;> cases hy:Y.elem n <;> simp only [cO,hx,hy,cond_true,cond_false]
 | tpl n k o => cases hx:X.elem n <;> cases hy:Y.elem n <;> simp only [cO,hx,hy,cond_true,cond_false]
 | _ => rfl
theorem aAw (X Y:List Nat) (x:SV):qi X (qi Y x) = qi Y (qi X x):=by
 cases x with
 | c x => simp only [qi,Wi X Y]
 | agg cs => simp only [qi,List.map_map,Function.comp_def,Wi X Y]
theorem aIC (X Y:List Nat) (x:AV):pK X (pK Y x) = pK Y (pK X x):=by
 cases x with
 | s x => simp only [pK,aAw X Y]
 | dW xs => simp only [pK,List.map_map,Function.comp_def,aAw X Y]
theorem aIF (X Y:List Nat) (x:Ob):lD X (lD Y x) = lD Y (lD X x):=by
 cases x with
 | row e els => simp only [lD,List.map_map,Function.comp_def,Wi X Y]
 | fA e els => rfl
 | mp es => rfl
 | pool e rows => rfl
 | dh e p lens => cases hx:X.elem p <;> cases hy:Y.elem p <;> simp only [lD,hx,hy,cond_true,cond_false]
 | lW e p q fs => cases hx:X.elem p <;> cases hy:Y.elem p <;> cases hz:X.elem q <;> cases hw:Y.elem q <;> simp only [lD,hx,hy,hz,hw,cond_true,cond_false]
 | unk => rfl
theorem aBH (σ:Slots) (d:Option Tmp) (v:AV) (t:Nat):lk (fB σ d v) t = if d = some t then some v else lk σ t:=by
 cases d with
 | none => simp [fB]
 | some d =>
  show (bif Nat.beq d t then some v else lk σ t) = _
  cases hb:Nat.beq d t with
  | true => have:=Nat.eq_of_beq_eq_true hb; subst this; simp
  | false => have:=Nat.ne_of_beq_eq_false hb; simp [this]
theorem Ah (p:OC) (st:Slots × Mem) (t:Nat):lk (lX p st).1 t = if p.1.dst = some t then some p.2.v else (lk st.1 t).map (pK p.2.X):=by
 unfold lX
 rw [aBH,IC]
theorem Rf (X:List Nat):∀ (m:Mem) (n:Nat),lk (jV X m) n = if n ∈ X then none else (lk m n).map (lD X)
 | [],n => by simp [jV,lk]
 | (k,v) :: r,n => by
  unfold jV
  have ih:=Rf X r n
  cases hk:X.elem k with
  | true =>
   rw [cond_true,ih]
   have hkX:=List.mem_of_elem_eq_true hk
   by_cases hn:n ∈ X
   ·rw [if_pos hn,if_pos hn]
   ·rw [if_neg hn,if_neg hn]
    congr 1
    show lk r n = (bif Nat.beq k n then some v else lk r n)
    cases hb:Nat.beq k n with
    | true => have:=Nat.eq_of_beq_eq_true hb; subst this; exact absurd hkX hn
    | false => rfl
  | false =>
   rw [cond_false]
   show (bif Nat.beq k n then some (lD X v) else lk (jV X r) n) = if n ∈ X then none else ((bif Nat.beq k n then some v else lk r n)).map (lD X)
   cases hb:Nat.beq k n with
   | true => have:=Nat.eq_of_beq_eq_true hb; subst this; rw [if_neg (l9 hk)]; rfl
   | false => rw [cond_false,cond_false,ih]
theorem aBC {α:Type}:∀ (x y:List (Nat × α)) (n:Nat),lk (x ++ y) n = if n ∈ keys x then lk x n else lk y n
 | [],y,n => by simp [keys]
 | (k,v) :: r,y,n => by
  show (bif Nat.beq k n then some v else lk (r ++ y) n) = if n ∈ keys ((k,v) :: r) then (bif Nat.beq k n then some v else lk r n) else lk y n
  cases hb:Nat.beq k n with
  | true => have:=Nat.eq_of_beq_eq_true hb; subst this; simp [keys]
  | false =>
   have hne:=Nat.ne_of_beq_eq_false hb
   rw [cond_false,cond_false,aBC r y n]
   have:n ∈ keys ((k,v) :: r) ↔ n ∈ keys r:=by simp [keys,Ne.symm hne]
   by_cases h:n ∈ keys r
   ·rw [if_pos h,if_pos (this.2 h)]
   ·rw [if_neg h,if_neg fun h' => h (this.1 h')]
theorem Af (p:OC) (st:Slots × Mem) (n:Nat):lk (lX p st).2 n = if n ∈ keys p.2.df then lk p.2.df n else if n ∈ p.2.X then none else (lk st.2 n).map (lD p.2.X):=by
 unfold lX
 rw [aBC,Rf]
def uM (a b:Slots × Mem):Prop:=(∀ t,lk a.1 t = lk b.1 t) ∧ ∀ n,lk a.2 n = lk b.2 n
theorem uM.refl (a:Slots × Mem):uM a a:=⟨fun _ => rfl,fun _ => rfl⟩
theorem uM.trans {a b c:Slots × Mem} (h:uM a b) (k:uM b c):uM a c:=⟨fun t => (h.1 t).trans (k.1 t),fun n => (h.2 n).trans (k.2 n)⟩
theorem uM.step {a b:Slots × Mem} (h:uM a b) (p:OC):uM (lX p a) (lX p b):=⟨fun t => by rw [Ah,Ah,h.1],fun n => by rw [Af,Af,h.2]⟩
theorem uM.run {a b:Slots × Mem} (h:uM a b):∀ L:List OC,uM (kP L a) (kP L b)
 | [] => h
 | p :: r => uM.run (h.step p) r
def DU (ops:Array Oper) (p:OC):List Nat :=
 (p.2.ins.filterMap fun q => match q.1 with | .tmp t => some t | _ => none) ++ (match p.1.guard with | some (j,_) => ((ops[j]?).bind (·.dst)).toList | none => [])
def BQ (p:OC):List Nat:=p.2.W ++ p.2.X ++ keys p.2.df
def OL (p:OC):List Nat:=keys p.2.us ++ BQ p
def half (ops:Array Oper) (a b:OC):Bool :=
 (match a.1.dst with | some d => !(DU ops b).elem d && b.1.dst != some d | none => true) && mY (BQ a) (OL b) && uw a.2.X b.2.v && b.2.ins.all (fun q => uw a.2.X q.2) && b.2.us.all (fun q => oN a.2.X q.2) && b.2.df.all (fun q => oN a.2.X q.2)
def indep (ops:Array Oper) (a b:OC):Bool:=half ops a b && half ops b a
structure Half (ops:Array Oper) (a b:OC):Prop where
 rd:∀ d,a.1.dst = some d → d ∉ DU ops b
 ds:∀ d,a.1.dst = some d → b.1.dst ≠ some d
 nm:∀ n ∈ BQ a,n ∉ OL b
 v:pK a.2.X b.2.v = b.2.v
 ins:∀ q ∈ b.2.ins,uw a.2.X q.2 = true
 us:∀ q ∈ b.2.us,oN a.2.X q.2 = true
 df:∀ q ∈ b.2.df,oN a.2.X q.2 = true
theorem Qq {ops:Array Oper} {a b:OC} (h:half ops a b = true):Half ops a b:=by
 unfold half at h
 simp only [Bool.and_eq_true] at h
 obtain ⟨⟨⟨⟨⟨h1,h2⟩,h3⟩,h4⟩,h5⟩,h6⟩:=h
 refine ⟨fun d hd => ?_,fun d hd => ?_,QX h2,Wh h3,List.all_eq_true.1 h4,List.all_eq_true.1 h5,List.all_eq_true.1 h6⟩
 ·rw [hd] at h1
  simp only [Bool.and_eq_true,Bool.not_eq_true'] at h1
  exact l9 h1.1
 ·rw [hd] at h1
  simp only [Bool.and_eq_true] at h1
  simpa using h1.2
theorem NG {p:OC} {n:Nat} (h:n ∈ keys p.2.df):n ∈ BQ p:=List.mem_append_right _ h
theorem UI {p:OC} {n:Nat} (h:n ∈ p.2.X):n ∈ BQ p:=List.mem_append_left _ (List.mem_append_right _ h)
theorem YO {p:OC} {n:Nat} (h:n ∈ BQ p):n ∈ OL p:=List.mem_append_right _ h
theorem aBF {α:Type} {l:List (Nat × α)} {n:Nat} {o:α} (h:lk l n = some o):n ∈ keys l:=List.mem_map.2 ⟨_,Ae h,rfl⟩
theorem aBE {X:List Nat} {df:Mem} (h:∀ q ∈ df,oN X q.2 = true) (n:Nat):(lk df n).map (lD X) = lk df n:=by
 cases hl:lk df n with
 | none => rfl
 | some o => exact congrArg some (Wl (h _ (Ae hl)))
theorem swap {ops:Array Oper} {a b:OC} (h:indep ops a b = true) (st:Slots × Mem):uM (lX a (lX b st)) (lX b (lX a st)):=by
 unfold indep at h
 simp only [Bool.and_eq_true] at h
 have hab:=Qq h.1
 have hba:=Qq h.2
 refine ⟨fun t => ?_,fun n => ?_⟩
 ·rw [Ah,Ah,Ah,Ah]
  by_cases h1:a.1.dst = some t
  ·have h2:=hab.ds t h1
   rw [if_pos h1,if_neg h2,if_pos h1]
   simp [hba.v]
  ·by_cases h2:b.1.dst = some t
   ·rw [if_neg h1,if_pos h2,if_pos h2]
    simp [hab.v]
   ·rw [if_neg h1,if_neg h2,if_neg h2,if_neg h1]
    cases lk st.1 t with
    | none => rfl
    | some x => simp [aIC a.2.X b.2.X]
 ·rw [Af,Af,Af,Af]
  have e1:n ∈ BQ a → n ∉ keys b.2.df ∧ n ∉ b.2.X:=fun hn => ⟨fun h => hab.nm n hn (YO (NG h)),fun h => hab.nm n hn (YO (UI h))⟩
  by_cases ha1:n ∈ keys a.2.df
  ·obtain ⟨hb1,hb2⟩:=e1 (NG ha1)
   rw [if_pos ha1,if_neg hb1,if_neg hb2,if_pos ha1,aBE hba.df]
  ·by_cases hb1:n ∈ keys b.2.df
   ·have hb:n ∈ BQ b:=NG hb1
    have ha2:n ∉ a.2.X:=fun h => hba.nm n hb (YO (UI h))
    rw [if_neg ha1,if_neg ha2,if_pos hb1,if_pos hb1,aBE hab.df]
   ·by_cases ha2:n ∈ a.2.X
    ·obtain ⟨_,hb2⟩:=e1 (UI ha2)
     rw [if_neg ha1,if_pos ha2,if_neg hb1,if_neg hb2,if_neg ha1,if_pos ha2]
     rfl
    ·by_cases hb2:n ∈ b.2.X
     ·rw [if_neg ha1,if_neg ha2,if_neg hb1,if_pos hb2,if_neg hb1,if_pos hb2]
      rfl
     ·rw [if_neg ha1,if_neg ha2,if_neg hb1,if_neg hb2,if_neg hb1,if_neg hb2,if_neg ha1,if_neg ha2]
      cases lk st.2 n with
      | none => rfl
      | some x => simp [aIF a.2.X b.2.X]
theorem push {ops:Array Oper} {a:OC}:∀ (L:List OC) (st:Slots × Mem),(∀ b ∈ L,indep ops a b = true) → uM (lX a (kP L st)) (kP L (lX a st))
 | [],_,_ => .refl _
 | b :: r,st,h => (push r (lX b st) fun c hc => h c (List.mem_cons_of_mem _ hc)).trans ((swap (h b List.mem_cons_self) st).run r)
theorem aCM:∀ (L:List OC) (p:OC) (st:Slots × Mem),kP (L ++ [p]) st = lX p (kP L st)
 | [],_,_ => rfl
 | q :: r,p,st => aCM r p (lX q st)
theorem Fh:∀ (L K:List OC) (st:Slots × Mem),kP (L ++ K) st = kP K (kP L st)
 | [],_,_ => rfl
 | q :: r,K,st => Fh r K (lX q st)
theorem aCT {t:Nat} {av:AV} (hj:OI av = true):∀ (L:List OC) (st:Slots × Mem),lk (kP L st).1 t = some av →
  (∃ A p B,L = A ++ p :: B ∧ p.1.dst = some t ∧ p.2.v = av ∧ ∀ q ∈ B,q.1.dst ≠ some t ∧ uw q.2.X av = true) ∨ (lk st.1 t = some av ∧ ∀ q ∈ L,q.1.dst ≠ some t ∧ uw q.2.X av = true)
 | [],st,h => .inr ⟨h,fun q hq => by cases hq⟩
 | p :: r,st,h => by
  rcases aCT hj r (lX p st) h with ⟨A,q,B,rfl,h1,h2,h3⟩ | ⟨h1,h2⟩
  ·exact .inl ⟨p :: A,q,B,rfl,h1,h2,h3⟩
  ·rw [Ah] at h1
   by_cases hd:p.1.dst = some t
   ·rw [if_pos hd] at h1
    injection h1 with h1
    exact .inl ⟨[],p,r,rfl,hd,h1,h2⟩
   ·rw [if_neg hd] at h1
    cases hl:lk st.1 t with
    | none => rw [hl] at h1; cases h1
    | some x =>
     rw [hl] at h1
     injection h1 with h1
     have hnr:uw p.2.X x = true:=aIE (by rw [h1]; exact hj)
     have hx:x = av:=by rw [← h1,Wh hnr]
     subst hx
     refine .inr ⟨rfl,fun q hq => ?_⟩
     cases hq with
     | head => exact ⟨hd,hnr⟩
     | tail _ hq => exact h2 q hq
theorem Xq {t:Nat} {av:AV}:∀ (L:List OC) (st:Slots × Mem),lk st.1 t = some av → (∀ q ∈ L,q.1.dst ≠ some t ∧ uw q.2.X av = true) → lk (kP L st).1 t = some av
 | [],_,h,_ => h
 | p :: r,st,h,k => by
  refine Xq r (lX p st) ?_ fun q hq => k q (List.mem_cons_of_mem _ hq)
  obtain ⟨h1,h2⟩:=k p List.mem_cons_self
  rw [Ah,if_neg h1,h]
  exact congrArg some (Wh h2)
theorem aBi {n:Nat} {ob:Ob} (hj:XE ob = true):∀ (L:List OC) (st:Slots × Mem),lk (kP L st).2 n = some ob →
  (∃ A p B,L = A ++ p :: B ∧ lk p.2.df n = some ob ∧ ∀ q ∈ B,n ∉ keys q.2.df ∧ n ∉ q.2.X ∧ oN q.2.X ob = true) ∨ (lk st.2 n = some ob ∧ ∀ q ∈ L,n ∉ keys q.2.df ∧ n ∉ q.2.X ∧ oN q.2.X ob = true)
 | [],st,h => .inr ⟨h,fun q hq => by cases hq⟩
 | p :: r,st,h => by
  rcases aBi hj r (lX p st) h with ⟨A,q,B,rfl,h1,h2⟩ | ⟨h1,h2⟩
  ·exact .inl ⟨p :: A,q,B,rfl,h1,h2⟩
  ·rw [Af] at h1
   by_cases hd:n ∈ keys p.2.df
   ·rw [if_pos hd] at h1
    exact .inl ⟨[],p,r,rfl,h1,h2⟩
   ·rw [if_neg hd] at h1
    by_cases hX:n ∈ p.2.X
    ·rw [if_pos hX] at h1; cases h1
    ·rw [if_neg hX] at h1
     cases hl:lk st.2 n with
     | none => rw [hl] at h1; cases h1
     | some x =>
      rw [hl] at h1
      injection h1 with h1
      have hnr:oN p.2.X x = true:=aIH (by rw [h1]; exact hj)
      have hx:x = ob:=by rw [← h1,Wl hnr]
      subst hx
      refine .inr ⟨rfl,fun q hq => ?_⟩
      cases hq with
      | head => exact ⟨hd,hX,hnr⟩
      | tail _ hq => exact h2 q hq
theorem XH {n:Nat} {ob:Ob}:∀ (L:List OC) (st:Slots × Mem),lk st.2 n = some ob → (∀ q ∈ L,n ∉ keys q.2.df ∧ n ∉ q.2.X ∧ oN q.2.X ob = true) → lk (kP L st).2 n = some ob
 | [],_,h,_ => h
 | p :: r,st,h,k => by
  refine XH r (lX p st) ?_ fun q hq => k q (List.mem_cons_of_mem _ hq)
  obtain ⟨h1,h2,h3⟩:=k p List.mem_cons_self
  rw [Af,if_neg h1,if_neg h2,h]
  exact congrArg some (Wl h3)
def One (P:Program) (C:Ctx) (ops:Array Oper) (p:OC) (st:Slots × Mem):Prop :=
 match p.2.want with
 | true => LT P p.1 p.2.ins p.2.us p.2.v p.2.df p.2.W p.2.X ∧ EvL st.1 p.2.ins ∧ oV st.2 p.2.us ∧ gX ops st.1 p.1 true ∧ (gU C.N p.1.dst && fF p.2.W (p.2.X ++ keys p.2.df) && fF p.2.W (keys p.2.us) && fF (keys p.2.df) (p.2.X ++ p.2.W) && mY p.2.X C.pn) = true
 | false => gX ops st.1 p.1 false ∧ gU C.N p.1.dst = true ∧ p.2.v = .dW [] ∧ p.2.df = [] ∧ p.2.X = [] ∧ p.2.ins = [] ∧ p.2.us = []
section
variable {P:Program} {C:Ctx} {ops:Array Oper}
theorem St.eqs {st st':Slots × Mem} {R B:Nat → Prop} {g:Nat → GS} {a:Act} {w:World} (h:uM st st') (hs:St P C st.1 st.2 R B g a w):St P C st'.1 st'.2 R B g a w :=
 hs.weak (fun t v hv => (h.1 t).trans hv) fun n o ho => (h.2 n).trans ho
theorem One.wp {p:OC} {st:Slots × Mem} (h:One P C ops p st) {R B:Nat → Prop} {g:Nat → GS} {a:Act} {w:World} (hs:St P C st.1 st.2 R B g a w) {i:Nat} (hi:ops[i]? = some p.1) {K:Act → World → Prop} {Q:Exit → Act → World → Prop}
  (hK:∀ R' B' g' a' w',St P C (lX p st).1 (lX p st).2 R' B' g' a' w' → K a' w'):wpOp P ops Q i K a w:=by
 unfold wpOp
 rw [hi]
 simp only
 unfold One at h
 split at h
 ·obtain ⟨hlt,hin,hus,hg,hside⟩:=h
  simp only [Bool.and_eq_true] at hside
  obtain ⟨⟨⟨⟨h1,h2⟩,h3⟩,h4⟩,h5⟩:=hside
  rw [if_pos (hg.wanted hs)]
  refine .inl (hlt R B g w a hs.wf (EvL.ra hs hin) (fun p hp => (oV.ro hs hus p hp).1) K _ fun u R' B' g' w' had hR hv hob => ?_)
  exact hK _ _ _ _ _ (hs.step hus (fun n hn => ⟨List.mem_append.1 (wV h2 n hn),mem_keys (wV h3 n hn)⟩) (fun p hp => List.mem_append.1 (wV h4 p.1 (List.mem_map.2 ⟨p,hp,rfl⟩))) h1 (QX h5) had hR hv hob)
 ·obtain ⟨hg,hd,h1,h2,h3,_,_⟩:=h
  rw [if_neg (by rw [hg.wanted hs]; exact Bool.false_ne_true)]
  refine hK R B g _ w ?_
  have e:lX p st = (fB st.1 p.1.dst (.dW []),st.2):=by
   unfold lX
   rw [h1,h2,h3,NE,H6]
   rfl
  rw [e]
  refine { hs with nd:=(XT a _ _).trans hs.nd,sz:=(XU a _ _).trans hs.sz,sl:=fun t v ht => ?_ }
  change lk (fB st.1 p.1.dst (.dW [])) t = some v at ht
  rw [aBH] at ht
  cases hdst:p.1.dst with
  | none => rw [hdst] at ht; exact hs.sl t v (by simpa using ht)
  | some d =>
   rw [hdst] at ht hd
   have hlt:d < a.tmps.size:=by rw [hs.sz]; exact Nat.le_of_ble_eq_true hd
   rw [VI a d t undef hlt]
   by_cases hdt:d = t
   ·subst hdt
    rw [if_pos rfl] at ht ⊢
    injection ht with ht
    subst ht
    exact ⟨[],rfl,rfl,fun k x hk => by simp at hk⟩
   ·rw [if_neg hdt]
    rw [if_neg (by simpa using hdt)] at ht
    exact hs.sl t v ht
theorem One.of {p:OC} {st st':Slots × Mem} (h:One P C ops p st) (h1:∀ t ∈ DU ops p,∀ v,lk st.1 t = some v → lk st'.1 t = some v) (h2:∀ q ∈ p.2.us,lk st.2 q.1 = some q.2 → lk st'.2 q.1 = some q.2):One P C ops p st':=by
 have hg:∀ b,gX ops st.1 p.1 b → gX ops st'.1 p.1 b:=fun b hb => by
  unfold gX at hb ⊢
  split at hb
  ·exact hb
  ·rename_i j want hgd
   obtain ⟨d,k1,⟨c,k2,k3⟩ | ⟨k2,k3⟩⟩:=hb
   ·exact ⟨d,k1,.inl ⟨c,h1 d (by simp [DU,hgd,k1]) _ k2,k3⟩⟩
   ·exact ⟨d,k1,.inr ⟨h1 d (by simp [DU,hgd,k1]) _ k2,k3⟩⟩
 unfold One at h ⊢
 split at h
 ·rename_i hw
  obtain ⟨k1,k2,k3,k4,k5⟩:=h
  refine ⟨k1,?_,?_,hg _ k4,k5⟩
  ·have:∀ ins:List (Operand × AV),(∀ q ∈ ins,q ∈ p.2.ins) → EvL st.1 ins → EvL st'.1 ins:=by
    intro ins
    induction ins with
    | nil => intro _ _; trivial
    | cons q r ih =>
     intro hm he
     obtain ⟨x,v⟩:=q
     refine ⟨?_,ih (fun q hq => hm q (List.mem_cons_of_mem _ hq)) he.2⟩
     have hx:=he.1
     cases x with
     | tmp t => exact h1 t (List.mem_append_left _ (List.mem_filterMap.2 ⟨_,hm _ List.mem_cons_self,rfl⟩)) v hx
     | _ => exact hx
   exact this _ (fun _ h => h) k2
  ·have:∀ us:Mem,(∀ q ∈ us,q ∈ p.2.us) → oV st.2 us → oV st'.2 us:=by
    intro us
    induction us with
    | nil => intro _ _; trivial
    | cons q r ih =>
     intro hm he
     obtain ⟨n,o⟩:=q
     exact ⟨h2 _ (hm _ List.mem_cons_self) he.1,ih (fun q hq => hm q (List.mem_cons_of_mem _ hq)) he.2⟩
   exact this _ (fun _ h => h) k3
 ·exact ⟨hg _ h.1,h.2⟩
def Jo (l:List Oper) (pr:List Nat):Nat → List Oper → Bool
 | _,[] => true
 | k,o :: r => (o.after.toList.all fun e => !Region.binds .any e || Nat.blt e.on k) && Nat.beq (Nat.lor (pr.getD k 0) (o.after.toList.foldl (fun s e => bif Region.binds .any e then Nat.lor (Nat.lor s (2 ^ e.on)) (pr.getD e.on 0) else s) 0)) (o.after.toList.foldl (fun s e => bif Region.binds .any e then Nat.lor (Nat.lor s (2 ^ e.on)) (pr.getD e.on 0) else s) 0) && Jo l pr (k + 1) r
def Jm (ops:Array Oper) (tu:Nat) (b:OC):Nat → List OC → Bool
 | _,[] => true
 | j,a :: r => (tu.testBit j || indep ops a b) && Jm ops tu b (j + 1) r
def KQ (tu:Nat):Nat → Bool
 | 0 => true
 | n + 1 => tu.testBit n && KQ tu n
def OJ (p:OC):Bool:=p.2.ins.all (fun q => OI q.2) && p.2.us.all fun q => XE q.2
def EL (ops:Array Oper) (L:List OC) (pr:List Nat):Nat → List OC → Bool
 | _,[] => true
 | k,b :: r => Jm ops (pr.getD k 0) b 0 (L.take k) && (OJ b || (KQ (pr.getD k 0) k && (r.zipIdx (k + 1)).all fun q => (pr.getD q.2 0).testBit k)) && EL ops L pr (k + 1) r
def LD (l:List Oper) (cs:List Ct):Bool :=
 let pr:=(Region.before l.toArray).toList
 Nat.beq cs.length l.length && Jo l pr 0 l && EL l.toArray (l.zip cs) pr 0 (l.zip cs)
theorem Zz {pr:List Nat} {j:Nat}:∀ (es:List Edge) (s:Nat),(es.foldl (fun s e => bif Region.binds .any e then Nat.lor (Nat.lor s (2 ^ e.on)) (pr.getD e.on 0) else s) s).testBit j = true →
  s.testBit j = true ∨ ∃ e ∈ es,Region.binds .any e = true ∧ (e.on = j ∨ (pr.getD e.on 0).testBit j = true)
 | [],s,h => .inl h
 | e :: r,s,h => by
  rw [List.foldl_cons] at h
  rcases Zz r _ h with h | ⟨e',h1,h2⟩
  ·cases hb:Region.binds .any e with
   | false => rw [hb] at h; exact .inl h
   | true =>
    rw [hb,cond_true] at h
    change ((s ||| 2 ^ e.on) ||| pr.getD e.on 0).testBit j = true at h
    rw [Nat.testBit_or,Nat.testBit_or,Nat.testBit_two_pow] at h
    simp only [Bool.or_eq_true,decide_eq_true_eq] at h
    rcases h with (h | h) | h
    ·exact .inl h
    ·exact .inr ⟨e,List.mem_cons_self,hb,.inl h⟩
    ·exact .inr ⟨e,List.mem_cons_self,hb,.inr h⟩
  ·exact .inr ⟨e',List.mem_cons_of_mem _ h1,h2⟩
theorem Si {l:List Oper} {pr:List Nat}:∀ (r:List Oper) (k:Nat),Jo l pr k r = true → ∀ (i:Nat) o,r[i]? = some o → (∀ e ∈ o.after,Region.binds .any e = true → e.on < k + i) ∧
  ∀ j,(pr.getD (k + i) 0).testBit j = true → ∃ e ∈ o.after,Region.binds .any e = true ∧ (e.on = j ∨ (pr.getD e.on 0).testBit j = true)
 | [],_,_,i,_,h => by simp at h
 | q :: r,k,h,i,o,hi => by
  unfold Jo at h
  simp only [Bool.and_eq_true] at h
  obtain ⟨⟨h1,h2⟩,h3⟩:=h
  cases i with
  | zero =>
   simp at hi
   subst hi
   refine ⟨fun e he hb => (by have:=List.all_eq_true.1 h1 e (by simpa using he); rw [hb] at this; exact Nat.le_of_ble_eq_true this),fun j hj => ?_⟩
   have e2:=Nat.eq_of_beq_eq_true h2
   have hb:(Nat.lor (pr.getD k 0) (q.after.toList.foldl (fun s e => bif Region.binds .any e then Nat.lor (Nat.lor s (2 ^ e.on)) (pr.getD e.on 0) else s) 0)).testBit j = true:=by
    show ((pr.getD k 0) ||| _).testBit j = true
    rw [Nat.testBit_or]
    rw [Nat.add_zero] at hj
    rw [hj,Bool.true_or]
   rw [e2] at hb
   rcases Zz _ _ hb with h | ⟨e,he,h⟩
   ·simp at h
   ·exact ⟨e,by simpa using he,h⟩
  | succ i =>
   have:=Si r (k + 1) h3 i o (by simpa using hi)
   rwa [show k + 1 + i = k + (i + 1) by omega] at this
theorem aBp {ops:Array Oper} {tu:Nat} {b:OC}:∀ (r:List OC) (j:Nat),Jm ops tu b j r = true → ∀ (i:Nat) a,r[i]? = some a → tu.testBit (j + i) = true ∨ indep ops a b = true
 | [],_,_,i,_,h => by simp at h
 | q :: r,j,h,i,a,hi => by
  unfold Jm at h
  simp only [Bool.and_eq_true,Bool.or_eq_true] at h
  cases i with
  | zero => simp at hi; subst hi; exact h.1
  | succ i =>
   have:=aBp r (j + 1) h.2 i a (by simpa using hi)
   rwa [show j + 1 + i = j + (i + 1) by omega] at this
theorem Yg {tu:Nat}:∀ n,KQ tu n = true → ∀ i < n,tu.testBit i = true
 | 0,_,i,h => by omega
 | n + 1,h,i,hi => by
  unfold KQ at h
  simp only [Bool.and_eq_true] at h
  by_cases hin:i = n
  ·subst hin; exact h.1
  ·exact Yg n h.2 i (by omega)
theorem Ut {ops:Array Oper} {L:List OC} {pr:List Nat}:∀ (r:List OC) (k:Nat),EL ops L pr k r = true → ∀ (i:Nat) b,r[i]? = some b →
  (∀ (j:Nat) a,j < k + i → L[j]? = some a → (pr.getD (k + i) 0).testBit j = true ∨ indep ops a b = true) ∧
  (OJ b = true ∨ ((∀ j < k + i,(pr.getD (k + i) 0).testBit j = true) ∧ ∀ q,i < q → q < r.length → (pr.getD (k + q) 0).testBit (k + i) = true))
 | [],_,_,i,_,h => by simp at h
 | c :: r,k,h,i,b,hi => by
  unfold EL at h
  simp only [Bool.and_eq_true,Bool.or_eq_true] at h
  obtain ⟨⟨h1,h2⟩,h3⟩:=h
  cases i with
  | zero =>
   simp at hi
   subst hi
   refine ⟨fun j a hj ha => ?_,h2.imp id fun h2 => ⟨fun j hj => Yg k h2.1 j hj,fun q hq Hg => ?_⟩⟩
   ·have:=aBp (L.take k) 0 h1 j a (by rw [List.getElem?_take,if_pos (by omega)]; exact ha)
    rwa [Nat.zero_add] at this
   ·have hlt:q - 1 < r.length:=by simp at Hg; omega
    have hm:(r[q - 1],k + q) ∈ r.zipIdx (k + 1):=by
     refine List.mem_of_getElem? (i:=q - 1) ?_
     rw [List.getElem?_zipIdx,List.getElem?_eq_getElem hlt]
     simp
     omega
    have:=List.all_eq_true.1 h2.2 _ hm
    simpa using this
  | succ i =>
   have:=Ut r (k + 1) h3 i b (by simpa using hi)
   rw [show k + 1 + i = k + (i + 1) by omega] at this
   refine ⟨this.1,this.2.imp id fun h => ⟨h.1,fun q hq Hg => ?_⟩⟩
   have:=h.2 (q - 1) (by omega) (by simp at Hg; omega)
   rwa [show k + 1 + (q - 1) = k + q by omega] at this
def sel (f:Nat → Bool):Nat → List OC → List OC
 | _,[] => []
 | k,p :: r => bif f k then p :: sel f (k + 1) r else sel f (k + 1) r
theorem TQ (f:Nat → Bool):∀ (A B:List OC) (k:Nat),sel f k (A ++ B) = sel f k A ++ sel f (k + A.length) B
 | [],B,k => by simp [sel]
 | p :: A,B,k => by
  have ih:=TQ f A B (k + 1)
  rw [show k + 1 + A.length = k + (A.length + 1) by omega] at ih
  simp only [List.cons_append,sel,List.length_cons]
  cases f k
  ·rw [cond_false,cond_false,ih]
  ·rw [cond_true,cond_true,ih]; rfl
theorem TR {f:Nat → Bool}:∀ {A:List OC} {k:Nat} {p:OC},p ∈ sel f k A → ∃ i,A[i]? = some p ∧ f (k + i) = true
 | [],_,_,h => by cases h
 | q :: A,k,p,h => by
  unfold sel at h
  cases hf:f k with
  | false =>
   rw [hf,cond_false] at h
   obtain ⟨i,h1,h2⟩:=TR h
   exact ⟨i + 1,by simpa using h1,by rwa [show k + (i + 1) = k + 1 + i by omega]⟩
  | true =>
   rw [hf,cond_true] at h
   cases h with
   | head => exact ⟨0,rfl,hf⟩
   | tail _ h =>
    obtain ⟨i,h1,h2⟩:=TR h
    exact ⟨i + 1,by simpa using h1,by rwa [show k + (i + 1) = k + 1 + i by omega]⟩
theorem TS {f:Nat → Bool} {A:List OC} {k:Nat}:∀ p ∈ sel f k A,p ∈ A:=fun p h => by
 obtain ⟨i,h1,_⟩:=TR h
 exact List.mem_of_getElem? h1
theorem Xm {f f':Nat → Bool}:∀ {A:List OC} {k:Nat},(∀ i < A.length,f (k + i) = f' (k + i)) → sel f k A = sel f' k A
 | [],_,_ => rfl
 | p :: A,k,h => by
  have h0:=h 0 (by simp)
  have ih:=Xm (f:=f) (f':=f') (A:=A) (k:=k + 1) fun i hi => by
   have:=h (i + 1) (by simpa using hi)
   rwa [show k + (i + 1) = k + 1 + i by omega] at this
  unfold sel
  rw [Nat.add_zero] at h0
  rw [h0,ih]
theorem Xl {f:Nat → Bool}:∀ {A:List OC} {k:Nat},(∀ i < A.length,f (k + i) = true) → sel f k A = A
 | [],_,_ => rfl
 | p :: A,k,h => by
  have h0:=h 0 (by simp)
  rw [Nat.add_zero] at h0
  unfold sel
  rw [h0,cond_true,Xl fun i hi => by
   have:=h (i + 1) (by simpa using hi)
   rwa [show k + (i + 1) = k + 1 + i by omega] at this]
theorem Xn {f:Nat → Bool}:∀ {A:List OC} {k:Nat},(∀ i < A.length,f (k + i) = false) → sel f k A = []
 | [],_,_ => rfl
 | p :: A,k,h => by
  have h0:=h 0 (by simp)
  rw [Nat.add_zero] at h0
  unfold sel
  rw [h0,cond_false,Xn fun i hi => by
   have:=h (i + 1) (by simpa using hi)
   rwa [show k + (i + 1) = k + 1 + i by omega] at this]
theorem One.found {P:Program} {C:Ctx} {ops:Array Oper} {p:OC} {A A' B:List OC} {st:Slots × Mem} (h:One P C ops p (kP A st)) (Hf:OJ p = true) (f:Nat → Bool) (hA:A' = sel f 0 A)
  (hsk:∀ (i:Nat) a,A[i]? = some a → f i = false → indep ops a p = true) (hB:∀ b ∈ B,indep ops p b = true):One P C ops p (kP B (kP A' st)):=by
 subst hA
 rw [← Fh]
 unfold OJ at Hf
 simp only [Bool.and_eq_true] at Hf
 have LV:∀ b ∈ B,Half ops b p:=fun b hb => by
  have:=hB b hb
  unfold indep at this
  simp only [Bool.and_eq_true] at this
  exact Qq this.2
 have aAY:∀ (i:Nat) a,A[i]? = some a → f i = false → Half ops a p:=fun i a hi hf => by
  have:=hsk i a hi hf
  unfold indep at this
  simp only [Bool.and_eq_true] at this
  exact Qq this.1
 -- reading a slot
 have slot:∀ t ∈ DU ops p,∀ v,OI v = true → (∀ b ∈ B,uw b.2.X v = true) → lk (kP A st).1 t = some v → lk (kP (sel f 0 A ++ B) st).1 t = some v:=fun t ht v hv hvB hl => by
  have hBt:∀ b ∈ B,b.1.dst ≠ some t ∧ uw b.2.X v = true:=fun b hb => ⟨fun hd => (LV b hb).rd t hd ht,hvB b hb⟩
  rcases aCT hv A st hl with ⟨A1,q,B1,rfl,h1,h2,h3⟩ | ⟨h1,h2⟩
  ·have hf:f A1.length = true:=by
    cases hf:f A1.length with
    | true => rfl
    | false => exact absurd ht ((aAY A1.length q (by simp) hf).rd t h1)
   rw [TQ]
   simp only [sel,Nat.zero_add,hf,cond_true]
   rw [List.append_assoc,Fh,List.cons_append]
   refine Xq _ (lX q _) (by rw [Ah,if_pos h1,h2]) fun b hb => ?_
   rcases List.mem_append.1 hb with hb | hb
   ·exact h3 b (TS b hb)
   ·exact hBt b hb
  ·refine Xq _ st h1 fun b hb => ?_
   rcases List.mem_append.1 hb with hb | hb
   ·exact h2 b (TS b hb)
   ·exact hBt b hb
 refine h.of (fun t ht v hl => ?_) fun q hq hl => ?_
 ·-- v is an input,or a guard's bool
  unfold One at h
  unfold DU at ht
  have hgd:∀ b,gX ops (kP A st).1 p.1 b → t ∈ (match p.1.guard with | some (j,_) => ((ops[j]?).bind (·.dst)).toList | none => []) → OI v = true ∧ ∀ X,uw X v = true:=fun b hb ht => by
   unfold gX at hb
   split at hb
   ·rename_i hg; rw [hg] at ht; cases ht
   ·rename_i j want hg
    rw [hg] at ht
    obtain ⟨d,k1,⟨c,k2,_⟩ | ⟨k2,_⟩⟩:=hb
    ·simp only [k1,Option.toList_some,List.mem_singleton] at ht
     subst ht
     rw [k2] at hl
     injection hl with hl
     subst hl
     exact ⟨rfl,fun _ => rfl⟩
    ·simp only [k1,Option.toList_some,List.mem_singleton] at ht
     subst ht
     rw [k2] at hl
     injection hl with hl
     subst hl
     exact ⟨rfl,fun _ => rfl⟩
  rcases List.mem_append.1 ht with hti | htg
  ·split at h
   ·obtain ⟨x,hx,hxt⟩:=List.mem_filterMap.1 hti
    obtain ⟨xo,xv⟩:=x
    cases xo with
    | tmp t' =>
     injection hxt with hxt
     subst hxt
     have hev:∀ ins:List (Operand × AV),EvL (kP A st).1 ins → (Operand.tmp t',xv) ∈ ins → lk (kP A st).1 t' = some xv:=by
      intro ins
      induction ins with
      | nil => intro _ hm; cases hm
      | cons y r ih =>
       intro he hm
       obtain ⟨yo,yv⟩:=y
       cases hm with
       | head => exact he.1
       | tail _ hm => exact ih he.2 hm
     have:=hev _ h.2.1 hx
     rw [this] at hl
     injection hl with hl
     subst hl
     exact slot t' (List.mem_append_left _ hti) xv (List.all_eq_true.1 Hf.1 _ hx) (fun b hb => (LV b hb).ins _ hx) this
    | _ => cases hxt
   ·obtain ⟨_,_,_,_,_,h6,_⟩:=h
    rw [h6] at hti
    cases hti
  ·have hg:∃ b,gX ops (kP A st).1 p.1 b:=by
    split at h
    ·exact ⟨true,h.2.2.2.1⟩
    ·exact ⟨false,h.1⟩
   obtain ⟨b,hb⟩:=hg
   obtain ⟨h1,h2⟩:=hgd b hb htg
   exact slot t (List.mem_append_right _ htg) v h1 (fun b _ => h2 _) hl
 ·have hqj:=List.all_eq_true.1 Hf.2 q hq
  have Vl:q.1 ∈ OL p:=List.mem_append_left _ (List.mem_map.2 ⟨q,hq,rfl⟩)
  have hBq:∀ b ∈ B,q.1 ∉ keys b.2.df ∧ q.1 ∉ b.2.X ∧ oN b.2.X q.2 = true:=fun b hb =>
   ⟨fun hd => (LV b hb).nm _ (NG hd) Vl,fun hx => (LV b hb).nm _ (UI hx) Vl,(LV b hb).us _ hq⟩
  rcases aBi hqj A st hl with ⟨A1,r,B1,rfl,h1,h2⟩ | ⟨h1,h2⟩
  ·have hf:f A1.length = true:=by
    cases hf:f A1.length with
    | true => rfl
    | false => exact absurd Vl ((aAY A1.length r (by simp) hf).nm _ (NG (aBF h1)))
   rw [TQ]
   simp only [sel,Nat.zero_add,hf,cond_true]
   rw [List.append_assoc,Fh,List.cons_append]
   refine XH _ (lX r _) (by rw [Af,if_pos (aBF h1),h1]) fun b hb => ?_
   rcases List.mem_append.1 hb with hb | hb
   ·exact h2 b (TS b hb)
   ·exact hBq b hb
  ·refine XH _ st h1 fun b hb => ?_
   rcases List.mem_append.1 hb with hb | hb
   ·exact h2 b (TS b hb)
   ·exact hBq b hb
end
end
section
def Chain (P:Program) (C:Ctx) (ops:Array Oper):List OC → Slots × Mem → Prop
 | [],_ => True
 | p :: r,st => One P C ops p st ∧ Chain P C ops r (lX p st)
section
variable {P:Program} {C:Ctx} {ops:Array Oper}
theorem Chain.at:∀ {L:List OC} {st:Slots × Mem},Chain P C ops L st → ∀ (i:Nat) p,L[i]? = some p → One P C ops p (kP (L.take i) st)
 | [],_,_,i,_,h => by simp at h
 | q :: r,st,hc,0,p,h => by
  simp at h
  subst h
  exact hc.1
 | q :: r,st,hc,i + 1,p,h => by
  have:=Chain.at hc.2 i p (by simpa using h)
  simpa [kP] using this
theorem mem_ready {listed:Array Bool} {i:Nat} (h:i ∈ Region.ready .any ops listed):i < ops.size ∧ listed.getD i true = false ∧ ∃ o,ops[i]? = some o ∧ ∀ e ∈ o.after,Region.binds .any e = true → listed.getD e.on false = true:=by
 unfold Region.ready at h
 obtain ⟨h1,h2⟩:=List.mem_filter.1 h
 simp only [Bool.and_eq_true,Bool.not_eq_true'] at h2
 obtain ⟨h2,h3⟩:=h2
 refine ⟨List.mem_range.1 h1,h2,?_⟩
 cases ho:ops[i]? with
 | none => rw [ho] at h3; simp at h3
 | some o =>
  rw [ho] at h3
  refine ⟨o,rfl,fun e he hb => ?_⟩
  have h4:o.after.all (fun e => !Region.binds .any e || listed.getD e.on false) = true:=by simpa using h3
  have h5:=(Array.all_eq_true_iff_forall_mem.1 h4) e he
  rw [hb] at h5
  simpa using h5
theorem aI9 {listed:Array Bool} {i:Nat} {o:Oper} (hi:ops[i]? = some o) (hl:listed.getD i true = false) (h:∀ e ∈ o.after,Region.binds .any e = true → listed.getD e.on false = true):i ∈ Region.ready .any ops listed:=by
 unfold Region.ready
 refine List.mem_filter.2 ⟨List.mem_range.2 (Array.getElem?_eq_some_iff.1 hi).1,?_⟩
 rw [hl,hi]
 simp only [Bool.not_false,Option.map_some,Option.getD_some,Bool.true_and]
 refine Array.all_eq_true_iff_forall_mem.2 fun e he => ?_
 cases hb:Region.binds .any e with
 | true => rw [h e he hb]; simp
 | false => simp
theorem St.drew {σ:Slots} {m:Mem} {R B:Nat → Prop} {g:Nat → GS} {a:Act} {w:World} (h:St P C σ m R B g a w):St P C σ m R B g a w.drew:=by
 have had:iH R B g w [] [] R B g w.drew:=⟨⟨h.wf.rb,h.wf.lt,h.wf.jZ,h.wf.jk,h.wf.nd⟩,fun _ h => h,fun _ h => h,rfl,rfl,rfl,Nat.le_refl _,fun _ _ _ => rfl,fun _ _ => rfl,fun n hn => (by cases hn),fun n hn => (by cases hn)⟩
 have:=h.step (us:=[]) (df:=[]) (d:=none) (v:=.dW []) (u:=undef) trivial (fun n hn => by cases hn) (fun p hp => by cases hp) rfl (fun n hn => by cases hn) had (fun b hb => .inl hb) (fun h => by cases h) (fun p hp => by cases hp)
 rw [NE,H6] at this
 exact this
variable {l:List Oper} {L:List OC} {pr:List Nat} {st0:Slots × Mem}
theorem aCQ {f:Nat → Bool} {i:Nat} {p:OC} (hi:L[i]? = some p):sel f 0 L = sel f 0 (L.take i) ++ (bif f i then [p] else []) ++ sel f (i + 1) (L.drop (i + 1)):=by
 have hlt:i < L.length:=(List.getElem?_eq_some_iff.1 hi).1
 have e:L = L.take i ++ (p :: L.drop (i + 1)):=by
  have h1:L.drop i = p :: L.drop (i + 1):=by
   rw [List.drop_eq_getElem_cons hlt]
   congr 1
   rw [List.getElem?_eq_getElem hlt] at hi
   injection hi
  rw [← h1,List.take_append_drop]
 have hl:(L.take i).length = i:=by simp; omega
 conv => lhs; rw [e]
 rw [TQ,hl,Nat.zero_add]
 have e2:sel f i (p :: L.drop (i + 1)) = bif f i then p :: sel f (i + 1) (L.drop (i + 1)) else sel f (i + 1) (L.drop (i + 1)):=rfl
 rw [e2]
 cases f i
 ·simp only [cond_false,List.append_nil]
 ·simp only [cond_true,List.append_assoc,List.singleton_append]
theorem aEz {Q:Exit → Act → World → Prop} (hL:L.map (·.1) = l) (hpr:Jo l pr 0 l = true) (hdr:EL l.toArray L pr 0 L = true) (Vb:Chain P C l.toArray L st0)
  (hfin:∀ R B g a w,St P C (kP L st0).1 (kP L st0).2 R B g a w → Q .normal a w):∀ (fuel:Nat) (listed:Array Bool) (R B:Nat → Prop) (g:Nat → GS) (a:Act) (w:World),listed.size = l.length → listed.toList.count false ≤ fuel →
  (∀ i j,i < l.length → listed.getD i true = true → (pr.getD i 0).testBit j = true → listed.getD j false = true) →
  St P C (kP (sel (fun k => listed.getD k true) 0 L) st0).1 (kP (sel (fun k => listed.getD k true) 0 L) st0).2 R B g a w → wpAny P .any l.toArray Q fuel listed a w:=by
 have hLl:L.length = l.length:=by rw [← hL,List.length_map]
 have hget:∀ (i:Nat) p,L[i]? = some p → l[i]? = some p.1:=fun i p h => by rw [← hL,List.getElem?_map,h]; rfl
 have AQ:∀ (A:Array Bool) (i:Nat) (d:Bool),i < A.size → A.getD i d = A.getD i true:=fun A i d hi => by
  simp only [Array.getD_eq_getD_getElem?,Array.getElem?_eq_getElem hi,Option.getD_some]
 -- nothing is ready: all are listed
 have hdone:∀ (listed:Array Bool),listed.size = l.length → Region.ready .any l.toArray listed = [] → ∀ i,i < l.length → listed.getD i true = true:=fun listed hsz hr i => by
  induction i using Nat.strongRecOn with
  | ind i ih =>
   intro hi
   cases hx:listed.getD i true with
   | true => rfl
   | false =>
    have ho:l[i]? = some l[i]:=List.getElem?_eq_getElem hi
    have hm:=aI9 (ops:=l.toArray) (i:=i) (o:=l[i]) (by simp) hx fun e he hb => by
     have hlt:=((Si l 0 hpr i l[i] ho).1 e he hb)
     rw [Nat.zero_add] at hlt
     rw [AQ _ _ _ (by omega)]
     exact ih e.on hlt (by omega)
    rw [hr] at hm
    cases hm
 have hend:∀ (listed:Array Bool),listed.size = l.length → Region.ready .any l.toArray listed = [] → sel (fun k => listed.getD k true) 0 L = L:=fun listed hsz hr => Xl fun i hi => by
  rw [Nat.zero_add]
  exact hdone listed hsz hr i (by omega)
 intro fuel
 induction fuel with
 | zero =>
  intro listed R B g a w hsz hcnt hcl hs
  have hr:Region.ready .any l.toArray listed = []:=by
   cases hr:Region.ready .any l.toArray listed with
   | nil => rfl
   | cons i r =>
    have:=mem_ready (ops:=l.toArray) (listed:=listed) (i:=i) (by rw [hr]; exact List.mem_cons_self)
    obtain ⟨h1,h2,_⟩:=this
    have hi:i < listed.size:=by rw [hsz]; simpa using h1
    have:false ∈ listed.toList:=by
     refine List.mem_of_getElem? (i:=i) ?_
     rw [Array.getD_eq_getD_getElem?,Array.getElem?_eq_getElem hi] at h2
     simpa [Array.getElem?_eq_getElem hi] using h2
    have:=List.count_pos_iff.2 this
    omega
  rw [hend listed hsz hr] at hs
  exact ⟨hr,hfin _ _ _ _ _ hs⟩
 | succ fuel ih =>
  intro listed R B g a w hsz hcnt hcl hs
  refine ⟨fun hr => ?_,fun i hi => ?_⟩
  ·rw [hend listed hsz hr] at hs
   exact hfin _ _ _ _ _ hs
  obtain ⟨h1,h2,o,ho,h3⟩:=mem_ready hi
  have h1':i < l.length:=by simpa using h1
  have hiL:i < L.length:=by omega
  have hp:L[i]? = some L[i]:=List.getElem?_eq_getElem hiL
  generalize hpe:L[i] = p at hp
  have hop:l[i]? = some p.1:=hget i p hp
  have aGI:o = p.1:=by
   have:l.toArray[i]? = some p.1:=by simpa using hop
   rw [ho] at this
   injection this
  subst aGI
  obtain ⟨hp1,hp2⟩:=Si l 0 hpr i p.1 hop
  rw [Nat.zero_add] at hp1 hp2
  -- its predecessors are listed
  have hpred:∀ j,(pr.getD i 0).testBit j = true → listed.getD j false = true:=fun j hj => by
   obtain ⟨e,he,hb,Vd⟩:=hp2 j hj
   have hel:=h3 e he hb
   have hlt:=hp1 e he hb
   rcases Vd with h | h
   ·rw [← h]; exact hel
   ·exact hcl e.on j (by omega) (by rw [AQ _ _ false (by omega)] at hel; exact hel) h
  have aGJ:∀ (k:Nat),k < l.length → ∀ j,(pr.getD k 0).testBit j = true → j < k:=by
   intro k
   induction k using Nat.strongRecOn with
   | ind k ihk =>
    intro hk j hj
    obtain ⟨q1,q2⟩:=Si l 0 hpr k l[k] (List.getElem?_eq_getElem hk)
    rw [Nat.zero_add] at q1 q2
    obtain ⟨e,he,hb',Vd⟩:=q2 j hj
    have hlt:=q1 e he hb'
    rcases Vd with h | h
    ·omega
    ·have:=ihk e.on hlt (by omega) j h
     omega
  obtain ⟨hd1,hd2⟩:=Ut L 0 hdr i p hp
  simp only [Nat.zero_add] at hd1 hd2
  -- those behind it that are listed do not stand in its way
  have aAG:∀ b ∈ sel (fun k => listed.getD k true) (i + 1) (L.drop (i + 1)),indep l.toArray p b = true:=fun b hb => by
   obtain ⟨j,hj1,hj2⟩:=TR hb
   rw [List.getElem?_drop] at hj1
   have hjl:i + 1 + j < l.length:=by rw [← hLl]; exact (List.getElem?_eq_some_iff.1 hj1).1
   obtain ⟨q1,_⟩:=Ut L 0 hdr (i + 1 + j) b hj1
   simp only [Nat.zero_add] at q1
   rcases q1 i p (by omega) hp with h | h
   ·have:=hcl (i + 1 + j) i hjl hj2 h
    rw [AQ _ _ false (by omega),h2] at this
    cases this
   ·exact h
  have aFQ:∀ (j:Nat) q,(L.take i)[j]? = some q → listed.getD j true = false → indep l.toArray q p = true:=fun j q hj hf => by
   rw [List.getElem?_take] at hj
   split at hj
   ·rename_i hji
    rcases hd1 j q hji hj with h | h
    ·have:=hpred j h
     rw [AQ _ _ false (by omega),hf] at this
     cases this
    ·exact h
   ·cases hj
  have hcut:=aCQ (f:=fun k => listed.getD k true) hp
  rw [h2,cond_false,List.append_nil] at hcut
  have aAS:=Vb.at i p hp
  have hone:One P C l.toArray p (kP (sel (fun k => listed.getD k true) 0 L) st0):=by
   rcases hd2 with Hf | ⟨hall,hnone⟩
   ·rw [hcut,Fh]
    exact One.found aAS Hf (fun k => listed.getD k true) rfl aFQ aAG
   ·have e1:sel (fun k => listed.getD k true) 0 (L.take i) = L.take i:=Xl fun j hj => by
     rw [Nat.zero_add]
     have hji:j < i:=by simp at hj; omega
     have:=hpred j (hall j hji)
     rwa [AQ _ _ false (by omega)] at this
    have e2:sel (fun k => listed.getD k true) (i + 1) (L.drop (i + 1)) = []:=Xn fun j hj => by
     have hjl:i + 1 + j < L.length:=by simp at hj; omega
     cases hx:listed.getD (i + 1 + j) true with
     | false => rfl
     | true =>
      have:=hcl (i + 1 + j) i (by omega) hx (hnone (i + 1 + j) (by omega) hjl)
      rw [AQ _ _ false (by omega),h2] at this
      cases this
    rw [hcut,e1,e2,List.append_nil]
    exact aAS
  refine hone.wp hs ho fun R' B' g' a' w' hs' => ?_
  have hnew:∀ k,k < l.length → (listed.setIfInBounds i true).getD k true = if k = i then true else listed.getD k true:=fun k hk => by
   simp only [Array.getD_eq_getD_getElem?,Array.getElem?_setIfInBounds]
   by_cases hki:i = k
   ·rw [if_pos hki,if_pos hki.symm,if_pos (by omega)]; rfl
   ·rw [if_neg hki,if_neg (Ne.symm hki)]
  refine ih (listed.setIfInBounds i true) R' B' g' a' w' (by simpa using hsz) ?_ ?_ ?_
  ·have hi':i < listed.toList.length:=by simpa [hsz] using h1'
   have hcs:=List.count_set (b:=false) (a:=true) (l:=listed.toList) hi'
   have hv:listed.toList[i] = false:=by
    rw [Array.getD_eq_getD_getElem?,Array.getElem?_eq_getElem (by omega)] at h2
    simpa using h2
   rw [Array.toList_setIfInBounds,hcs,hv]
   have e1:(if (true == false) = true then 1 else 0) = 0:=rfl
   have e2:(if (false == false) = true then 1 else 0) = 1:=rfl
   rw [e1,e2]
   omega
  ·intro k j hk hx hb
   have hjk:=aGJ k hk j hb
   rw [AQ _ _ false (by simp; omega),hnew j (by omega)]
   rw [hnew k hk] at hx
   by_cases hki:k = i
   ·subst hki
    have:=hpred j hb
    rw [AQ _ _ false (by omega)] at this
    rw [this]; simp
   ·rw [if_neg hki] at hx
    have:=hcl k j hk hx hb
    rw [AQ _ _ false (by omega)] at this
    rw [this]; simp
  ·have hcut':=aCQ (f:=fun k => (listed.setIfInBounds i true).getD k true) hp
   have hfi:(listed.setIfInBounds i true).getD i true = true:=by rw [hnew i h1',if_pos rfl]
   rw [hfi,cond_true] at hcut'
   have e1:sel (fun k => (listed.setIfInBounds i true).getD k true) 0 (L.take i) = sel (fun k => listed.getD k true) 0 (L.take i):=Xm fun j hj => by
    have:j < i:=by simp at hj; omega
    rw [Nat.zero_add,hnew j (by omega),if_neg (by omega)]
   have e2:sel (fun k => (listed.setIfInBounds i true).getD k true) (i + 1) (L.drop (i + 1)) = sel (fun k => listed.getD k true) (i + 1) (L.drop (i + 1)):=Xm fun j hj => by
    have:i + 1 + j < L.length:=by simp at hj; omega
    rw [hnew _ (by omega),if_neg (by omega)]
   rw [hcut',e1,e2,Fh,aCM]
   rw [hcut,Fh] at hs'
   exact hs'.eqs (push _ _ aAG)
end
theorem aEt (l:List Oper) (cs:List Ct) (h:cs.length = l.length):(l.zip cs).map (·.1) = l:=by
 induction l generalizing cs with
 | nil => rfl
 | cons x r ih =>
  cases cs with
  | nil => cases h
  | cons c cs => simp only [List.zip_cons_cons,List.map_cons,ih cs (by simpa using h)]
theorem aE0 {P:Program} {C:Ctx} {l:List Oper} {cs:List Ct} {st0:Slots × Mem} {id:Nat} {is:List It} {Q:Post} (hm:P.follows .mixedOrders = true) (hd:LD l cs = true) (Vb:Chain P C l.toArray (l.zip cs) st0)
  (h:jR P C is (kP (l.zip cs) st0).1 (kP (l.zip cs) st0).2 Q):jR P C (.code (.region id l.toArray true) :: is) st0.1 st0.2 Q:=fun R B g a w hs => by
 unfold LD at hd
 simp only [Bool.and_eq_true] at hd
 obtain ⟨⟨h1,h2⟩,h3⟩:=hd
 have hz:=aEt l cs (Nat.eq_of_beq_eq_true h1)
 refine wp_region_any hm ?_
 refine aEz (L:=l.zip cs) hz h2 h3 Vb (fun R B g a w hs => h R B g a w hs) _ _ R B g a w.drew (by simp) ?_ (fun i j hi hx _ => ?_) ?_
 ·simp
 ·rw [Array.getD_eq_getD_getElem?,Array.getElem?_replicate,if_pos (by simpa using hi)] at hx
  cases hx
 ·have e:sel (fun k => (Array.replicate l.toArray.size false).getD k true) 0 (l.zip cs) = []:=Xn fun i hi => by
   have:i < l.length:=by simp at hi; omega
   rw [Nat.zero_add,Array.getD_eq_getD_getElem?,Array.getElem?_replicate,if_pos (by simpa using this)]
   rfl
  rw [e]
  exact hs.drew
def aN {τ:Type} (P:Program) (C:Ctx) (l:List Oper) (done:List Ct) (rest:List Oper) (is:List It) (σ:Slots) (m:Mem) (M:Option τ) (K:τ → Post):Prop :=
 ∀ t,M = some t → ∃ cs:List Ct,cs.length = rest.length ∧ Chain P C l.toArray (rest.zip cs) (σ,m) ∧ LD l (done.reverse ++ cs) = true ∧ jR P C is (kP (rest.zip cs) (σ,m)).1 (kP (rest.zip cs) (σ,m)).2 (K t)
section
variable {P:Program} {C:Ctx} {σ:Slots} {m:Mem} {is:List It} {l rest:List Oper} {done:List Ct} {τ υ:Type} {M:Option τ} {K:τ → Post}
theorem aC.draw {id:Nat} (hm:P.follows .mixedOrders = true) (h:aN P C l [] l is σ m M K):aC P C (.code (.region id l.toArray true) :: is) σ m M K:=fun t ht => by
 obtain ⟨cs,_,h2,h3,h4⟩:=h t ht
 exact aE0 (st0:=(σ,m)) hm (by simpa using h3) h2 h4
theorem XG (x:CV):jO [] x = true:=by
 cases x <;> simp [jO]
theorem aBa (x:SV):Ji [] x = true:=by
 cases x with
 | c x => exact XG x
 | agg cs => exact List.all_eq_true.2 fun x _ => XG x
theorem aBY (x:AV):uw [] x = true:=by
 cases x with
 | s x => exact aBa x
 | dW cs => exact List.all_eq_true.2 fun x _ => aBa x
theorem aBZ (o:Ob):oN [] o = true:=by
 cases o with
 | row e els => exact List.all_eq_true.2 fun cs _ => List.all_eq_true.2 fun x _ => XG x
 | _ => first | rfl | simp [oN]
def Qp (ops:Array Oper) (a b:OC):Bool :=
 (match a.1.dst with | some d => !(DU ops b).elem d && b.1.dst != some d | none => true) && mY (BQ a) (OL b) && (a.2.X.isEmpty || (uw a.2.X b.2.v && b.2.ins.all (fun q => uw a.2.X q.2) && b.2.us.all (fun q => oN a.2.X q.2) && b.2.df.all (fun q => oN a.2.X q.2)))
theorem aAI {ops:Array Oper} {a b:OC} (h:Qp ops a b = true):half ops a b = true:=by
 unfold Qp at h
 unfold half
 rw [Bool.and_eq_true,Bool.or_eq_true] at h
 obtain ⟨h1,h2⟩:=h
 simp only [Bool.and_assoc] at h1 ⊢
 rw [Bool.and_eq_true] at h1
 rw [Bool.and_eq_true,Bool.and_eq_true]
 refine ⟨h1.1,h1.2,?_⟩
 rcases h2 with h2 | h2
 ·have:a.2.X = []:=by simpa using h2
  rw [this,aBY,List.all_eq_true.2 fun q _ => aBY q.2,List.all_eq_true.2 fun q _ => aBZ q.2,List.all_eq_true.2 fun q _ => aBZ q.2]
  rfl
 ·simpa only [Bool.and_assoc] using h2
def SL (ops:Array Oper) (tu:Nat) (b:OC):Nat → List OC → Bool
 | _,[] => true
 | j,a :: r => (tu.testBit j || (Qp ops a b && Qp ops b a)) && SL ops tu b (j + 1) r
theorem aBo {ops:Array Oper} {tu:Nat} {b:OC}:∀ (L:List OC) (j:Nat),SL ops tu b j L = true → Jm ops tu b j L = true
 | [],_,_ => rfl
 | a :: r,j,h => by
  unfold SL at h
  unfold Jm
  simp only [Bool.and_eq_true,Bool.or_eq_true] at h ⊢
  refine ⟨h.1.imp id fun h => ?_,aBo r (j + 1) h.2⟩
  unfold indep
  rw [aAI h.1,aAI h.2]; rfl
def Qa (ops:Array Oper) (L:List OC) (pr:List Nat):Nat → List OC → Bool
 | _,[] => true
 | k,b :: r => SL ops (pr.getD k 0) b 0 (L.take k) && ((KQ (pr.getD k 0) k && (r.zipIdx (k + 1)).all fun q => (pr.getD q.2 0).testBit k) || OJ b) && Qa ops L pr (k + 1) r
theorem Zc {ops:Array Oper} {L:List OC} {pr:List Nat}:∀ (r:List OC) (k:Nat),Qa ops L pr k r = true → EL ops L pr k r = true
 | [],_,_ => rfl
 | b :: r,k,h => by
  unfold Qa at h
  unfold EL
  rw [Bool.and_eq_true,Bool.and_eq_true] at h ⊢
  refine ⟨⟨aBo _ _ h.1.1,?_⟩,Zc r (k + 1) h.2⟩
  rw [Bool.or_comm]
  exact h.1.2
def QZ (l:List Oper) (cs:List Ct):Bool :=
 let pr:=(Region.before l.toArray).toList
 Nat.beq cs.length l.length && Jo l pr 0 l && Qa l.toArray (l.zip cs) pr 0 (l.zip cs)
theorem aEs {l:List Oper} {cs:List Ct} (h:QZ l cs = true):LD l cs = true:=by
 unfold QZ at h
 unfold LD
 simp only [Bool.and_eq_true] at h ⊢
 exact ⟨h.1,Zc _ _ h.2⟩
theorem aN.nil (hd:QZ l done.reverse = true) (h:aC P C is σ m M K):aN P C l done [] is σ m M K:=fun t ht => ⟨[],rfl,trivial,by simpa using aEs hd,h t ht⟩
theorem aN.bind {x:Option υ} {f:υ → Option τ} (h:∀ u,x = some u → aN P C l done rest is σ m (f u) K):aN P C l done rest is σ m (x.bind f) K:=fun t ht => by
 obtain ⟨u,hu,hf⟩:=Option.bind_eq_some_iff.1 ht
 exact h u hu t hf
theorem aN.split {b:Bool} {M1 M2:Option τ} (ht:b = true → aN P C l done rest is σ m M1 K) (hf:b = false → aN P C l done rest is σ m M2 K):aN P C l done rest is σ m (bif b then M1 else M2) K:=fun t h => by
 cases hb:b with
 | true => rw [hb] at h; exact ht hb t h
 | false => rw [hb] at h; exact hf hb t h
theorem aN.none:aN P C l done rest is σ m (none:Option τ) K:=fun t h => by cases h
theorem aN.step {o:Oper} {ins:List (Operand × AV)} {us df:Mem} {v:AV} {W X:List Nat} (hlt:LT P o ins us v df W X) (hi:EvL σ ins) (hu:oV m us) (hg:gX l.toArray σ o true)
  (hside:(gU C.N o.dst && fF W (X ++ keys df) && fF W (keys us) && fF (keys df) (X ++ W) && mY X C.pn) = true) (h:aN P C l (⟨ins,us,v,df,W,X,true⟩ :: done) rest is (fB (lK X σ) o.dst v) (df ++ jV X m) M K) :
  aN P C l done (o :: rest) is σ m M K:=fun t ht => by
 obtain ⟨cs,h1,h2,h3,h4⟩:=h t ht
 exact ⟨⟨ins,us,v,df,W,X,true⟩ :: cs,by simp [h1],⟨⟨hlt,hi,hu,hg,hside⟩,h2⟩,by simpa using h3,h4⟩
theorem aN.pure {o:Oper} {ins:List (Operand × AV)} {us:Mem} {v:AV} (hlt:LT P o ins us v [] [] []) (hi:EvL σ ins) (hu:oV m us) (hg:gX l.toArray σ o true)
  (hd:gU C.N o.dst = true) (h:aN P C l (⟨ins,us,v,[],[],[],true⟩ :: done) rest is (fB σ o.dst v) m M K):aN P C l done (o :: rest) is σ m M K :=
 aN.step hlt hi hu hg (by rw [hd]; rfl) (by rw [NE,H6]; exact h)
theorem aN.skip {o:Oper} (hg:gX l.toArray σ o false) (hd:gU C.N o.dst = true) (h:aN P C l (⟨[],[],.dW [],[],[],[],false⟩ :: done) rest is (fB σ o.dst (.dW [])) m M K):aN P C l done (o :: rest) is σ m M K:=fun t ht => by
 obtain ⟨cs,h1,h2,h3,h4⟩:=h t ht
 have e:lX (o,(⟨[],[],.dW [],[],[],[],false⟩:Ct)) (σ,m) = (fB σ o.dst (.dW []),m):=by
  unfold lX
  rw [NE,H6]
  rfl
 refine ⟨⟨[],[],.dW [],[],[],[],false⟩ :: cs,by simp [h1],⟨⟨hg,hd,rfl,rfl,rfl,rfl,rfl⟩,?_⟩,by simpa using h3,?_⟩
 ·rw [e]; exact h2
 ·rw [List.zip_cons_cons]
  show jR P C is (kP (rest.zip cs) (lX _ _)).1 (kP (rest.zip cs) (lX _ _)).2 (K t)
  rw [e]
  exact h4
end
end
section
def idx {α:Type} (l:List α) (i:Int):Option α:=if 0 ≤ i then l[i.toNat]? else none
def lim (n:Nat):Option Unit:=if n ≤ vY then some () else none
def H8 (n:Int):Option Unit:=if 0 ≤ n ∧ n ≤ 2147483648 then some () else none
def nz (n:Int):Option Unit:=if n ≠ 0 then some () else none
def same (a b:Nat):Option Unit:=if a = b then some () else none
def BIG:Nat:=18446744073709551616
theorem Hu {α:Type} {l:List α} {i:Int} {x:α} (h:idx l i = some x):0 ≤ i:=by
 unfold idx at h; split at h
 ·assumption
 ·cases h
theorem qC {α:Type} {l:List α} {i:Int} {x:α} (h:idx l i = some x):l[i.toNat]? = some x:=by
 unfold idx at h; split at h
 ·assumption
 ·cases h
theorem RG {α:Type} {l:List α} {i:Int} {x:α} (h:idx l i = some x):i < l.length:=by
 have h0:=Hu h
 have h1:=(List.getElem?_eq_some_iff.1 (qC h)).1
 omega
theorem jw {n:Nat} {u:Unit} (h:lim n = some u):n ≤ vY:=by
 unfold lim at h; split at h
 ·assumption
 ·cases h
theorem aA7 {n:Int} {u:Unit} (h:H8 n = some u):0 ≤ n ∧ n ≤ vY:=by
 unfold H8 at h; split at h
 ·assumption
 ·cases h
theorem DR {n:Int} {u:Unit} (h:nz n = some u):n ≠ 0:=by
 unfold nz at h; split at h
 ·assumption
 ·cases h
section
variable {P:Program} {C:Ctx} {σ σ':Slots} {m m':Mem} {is:List It} {τ υ:Type} {M:Option τ} {K:τ → Post}
def zf (σ' σ:Slots):Prop:=match σ' with
 | [] => True
 | (t,v) :: r => lk σ t = some v ∧ zf r σ
def zZ (m' m:Mem):Prop:=match m' with
 | [] => True
 | (n,o) :: r => lk m n = some o ∧ zZ r m
theorem zf.spec:∀ {σ':Slots},zf σ' σ → ∀ t v,lk σ' t = some v → lk σ t = some v
 | [],_,_,_,h => by cases h
 | (k,x) :: r,hs,t,v,h => by
  change (bif Nat.beq k t then some x else lk r t) = some v at h
  cases hb:Nat.beq k t with
  | true =>
   rw [hb,cond_true] at h
   injection h with h
   have:=Nat.eq_of_beq_eq_true hb
   subst this
   subst h
   exact hs.1
  | false =>
   rw [hb,cond_false] at h
   exact zf.spec hs.2 t v h
theorem zZ.spec:∀ {m':Mem},zZ m' m → ∀ t v,lk m' t = some v → lk m t = some v
 | [],_,_,_,h => by cases h
 | (k,x) :: r,hs,t,v,h => by
  change (bif Nat.beq k t then some x else lk r t) = some v at h
  cases hb:Nat.beq k t with
  | true =>
   rw [hb,cond_true] at h
   injection h with h
   have:=Nat.eq_of_beq_eq_true hb
   subst this
   subst h
   exact hs.1
  | false =>
   rw [hb,cond_false] at h
   exact zZ.spec hs.2 t v h
theorem aj.of (h1:zf σ' σ) (h2:zZ m' m):aj P C σ m σ' m':=fun R B g _ _ hs => ⟨R,B,g,hs.weak (zf.spec h1) (zZ.spec h2)⟩
theorem aj.refl:aj P C σ m σ m:=fun R B g _ _ hs => ⟨R,B,g,hs⟩
theorem aj.trans {σ2:Slots} {m2:Mem} (h:aj P C σ m σ' m') (k:aj P C σ' m' σ2 m2):aj P C σ m σ2 m2:=fun R B g a w hs => by
 obtain ⟨R',B',g',hs'⟩:=h R B g a w hs
 exact k R' B' g' a w hs'
theorem aT.ent {ops:Array Oper} {rest:List Oper} (h:aj P C σ m σ' m') (k:aT P C ops rest is σ' m' M K):aT P C ops rest is σ m M K:=fun t ht R B g a w hs => by
 obtain ⟨R',B',g',hs'⟩:=h R B g a w hs
 exact k t ht R' B' g' a w hs'
def KL {σs β ρ:Type} (P:Program) (C:Ctx) (id:Nat) (S:σs → Slots × Mem) (Sb:β → Slots × Mem) (Kr:ρ → Post):σs ⊕ (β ⊕ ρ) → Post:=fun o e σ m => match o with
 | .inl s => e = .normal ∧ aj P C σ m (S s).1 (S s).2
 | .inr (.inl b) => e = .exit id ∧ aj P C σ m (Sb b).1 (Sb b).2
 | .inr (.inr r) => e = .ret ∧ Kr r .ret σ m
theorem aC.ql {σs β ρ:Type} {body:Code} {id:Nat} (bm:σs → Option (σs ⊕ (β ⊕ ρ))) (S:σs → Slots × Mem) (Sb:β → Slots × Mem) (Kr:ρ → Post) {f:β → Option τ} {gr:ρ → Option τ} {n:Nat} {s:σs}
  (hb:∀ s,aC P C [.code body] (S s).1 (S s).2 (bm s) (KL P C id S Sb Kr)) (h0:aj P C σ m (S s).1 (S s).2) (hid:xq id is = true)
  (hl:∀ b,bW bm n s = some (.inl b) → aC P C (EM id is) (Sb b).1 (Sb b).2 (f b) K) (hr:∀ r t σ m,gr r = some t → Kr r .ret σ m → K t .ret σ m) :
  aC P C (.code (.loop body) :: is) σ m ((bW bm n s).bind (Sum.elim f gr)) K :=
 aC.loop (Lv:=fun o e σ m => match o with | .inl b => e = .exit id ∧ aj P C σ m (Sb b).1 (Sb b).2 | .inr r => e = .ret ∧ Kr r .ret σ m) bm S
  (fun s t ht R B g a w hs => wp_mono (hb s t ht R B g a w hs) fun e a w he => by
   obtain ⟨σ',m',R',B',g',hs',hp⟩:=he
   refine ⟨σ',m',R',B',g',hs',?_⟩
   rcases t with s' | b | r
   ·exact hp
   ·obtain ⟨rfl,hp⟩:=hp
    exact ⟨by simp,rfl,hp⟩
   ·obtain ⟨rfl,hp⟩:=hp
    exact ⟨by simp,rfl,hp⟩) h0 (fun u e σ' m' hu hlv t ht => by
   rcases u with b | r
   ·obtain ⟨rfl,hp⟩:=hlv
    exact iM.LK hid (iM.ent hp (hl b hu t ht))
   ·obtain ⟨rfl,hp⟩:=hlv
    exact iM.TD (hr r t σ' m' ht hp))
def KL1 {σs β:Type} (P:Program) (C:Ctx) (id:Nat) (S:σs → Slots × Mem) (Sb:β → Slots × Mem):σs ⊕ β → Post:=fun o e σ m => match o with
 | .inl s => e = .normal ∧ aj P C σ m (S s).1 (S s).2
 | .inr b => e = .exit id ∧ aj P C σ m (Sb b).1 (Sb b).2
theorem aC.jP {σs β:Type} {body:Code} {id:Nat} (bm:σs → Option (σs ⊕ β)) (S:σs → Slots × Mem) (Sb:β → Slots × Mem) {f:β → Option τ} {n:Nat} {s:σs}
  (hb:∀ s,aC P C [.code body] (S s).1 (S s).2 (bm s) (KL1 P C id S Sb)) (h0:aj P C σ m (S s).1 (S s).2) (hid:xq id is = true)
  (hl:∀ b,bW bm n s = some b → aC P C (EM id is) (Sb b).1 (Sb b).2 (f b) K):aC P C (.code (.loop body) :: is) σ m ((bW bm n s).bind f) K :=
 aC.loop (Lv:=fun b e σ m => e = .exit id ∧ aj P C σ m (Sb b).1 (Sb b).2) bm S
  (fun s t ht R B g a w hs => wp_mono (hb s t ht R B g a w hs) fun e a w he => by
   obtain ⟨σ',m',R',B',g',hs',hp⟩:=he
   refine ⟨σ',m',R',B',g',hs',?_⟩
   rcases t with s' | b
   ·exact hp
   ·obtain ⟨rfl,hp⟩:=hp
    exact ⟨by simp,rfl,hp⟩) h0 (fun u e σ' m' hu hlv t ht => by
   obtain ⟨rfl,hp⟩:=hlv
   exact iM.LK hid (iM.ent hp (hl u hu t ht)))
def KJ (P:Program) (C:Ctx) (S:υ → Slots × Mem):υ → Post:=fun u e σ m => e = .normal ∧ aj P C σ m (S u).1 (S u).2
theorem aC.eG {c:Code} {M1:Option υ} {f:υ → Option τ} (S:υ → Slots × Mem) (h1:aC P C [.code c] σ m M1 (KJ P C S)) (h2:∀ t,M1 = some t → aC P C is (S t).1 (S t).2 (f t) K):aC P C (.code c :: is) σ m (M1.bind f) K :=
 aC.join S h1 h2
theorem iM.LJ {id:Nat} {Q:Post}:∀ {is:List It},xq id is = false → Q (.exit id) σ m → iM P C is (.exit id) σ m Q
 | [],_,h => iM.nil h
 | .code c :: is,hb,h => iM.Zt (iM.LJ (is:=is) hb h)
 | .blk i :: is,hb,h => by
  unfold xq at hb
  rw [Bool.or_eq_false_iff] at hb
  exact iM.Zu (Ne.symm (Nat.ne_of_beq_eq_false hb.1)) (iM.LJ (is:=is) hb.2 h)
theorem aC.LJ {id:Nat} {t:τ} (hb:xq id is = false) (h:K t (.exit id) σ m):aC P C (.code (.exit id) :: is) σ m (some t) K:=aC.aE9 (iM.LJ hb h)
def lI {ρ:Type} (P:Program) (res:List ResultVar) (us:Mem) (X:List Nat) (rs:ρ → List SV) (iZ:ρ → Mem):ρ → Post:=fun t e σ m =>
 (e = .normal ∨ e = .ret) ∧ vZ P σ m res (rs t) ∧ oV m (iZ t) ∧ fF (keys us) (keys (iZ t)) = true ∧ fF X (keys (iZ t)) = true ∧ Px (vP (rs t)) ∧ (∀ p ∈ iZ t,bg p.2) ∧ okA (keys us ++ X) (vP (rs t)) = true ∧
  (iZ t).all (fun p => (keys us ++ X).elem p.1 && okO (keys us ++ X) p.2) = true
def vC:List PV → Prop
 | [] => True
 | p :: r => ah p ∧ vC r
theorem vC.spec:∀ {l:List PV},vC l → ∀ p ∈ l,ah p
 | [],_,p,hp => by cases hp
 | q :: r,h,p,hp => by
  cases hp with
  | head => exact h.1
  | tail _ hp => exact vC.spec h.2 p hp
def Dz:List CV → Prop
 | [] => True
 | p :: r => zY p ∧ Dz r
theorem Dz.spec:∀ {l:List CV},Dz l → ∀ p ∈ l,zY p
 | [],_,p,hp => by cases hp
 | q :: r,h,p,hp => by
  cases hp with
  | head => exact h.1
  | tail _ hp => exact Dz.spec h.2 p hp
def UO:SV → Prop
 | .c x => zY x
 | .agg cs => Dz cs
theorem UO.spec {x:SV} (h:UO x):KP x:=by
 cases x with
 | c x => exact h
 | agg cs => exact Dz.spec h
def yZ:List SV → Prop
 | [] => True
 | x :: r => UO x ∧ yZ r
theorem yZ.spec:∀ {l:List SV},yZ l → ∀ p ∈ l,KP p
 | [],_,p,hp => by cases hp
 | q :: r,h,p,hp => by
  cases hp with
  | head => exact h.1.spec
  | tail _ hp => exact yZ.spec h.2 p hp
theorem yZ.res {l:List SV} (h:yZ l):Px (vP l):=by
 match l,h with
 | [],_ => intro x hx; cases hx
 | [x],h => exact h.1.spec
 | x :: y :: r,h => exact yZ.spec h
def D5:Mem → Prop
 | [] => True
 | (_,o) :: r => bg o ∧ D5 r
theorem D5.spec:∀ {df:Mem},D5 df → ∀ p ∈ df,bg p.2
 | [],_,p,hp => by cases hp
 | (n,o) :: r,h,p,hp => by
  cases hp with
  | head => exact h.1
  | tail _ hp => exact D5.spec h.2 p hp
theorem bg.dO {α:Type} {enc:α → List PV} {e:TypeId} {xs:List α} (h:∀ a,vC (enc a)):bg (.fA e (xs.map enc)):=fun cs hcs p hp => by
 obtain ⟨a,_,rfl⟩:=List.mem_map.1 hcs
 exact (h a).spec p hp
theorem kK {α:Type} {enc:α → List PV} {xs:List α} (h:∀ a,vC (enc a)):zY (.pv (.xs true (xs.map enc))):=ah.xs fun cs hcs p hp => by
 obtain ⟨a,_,rfl⟩:=List.mem_map.1 hcs
 exact (h a).spec p hp
theorem fE {t:TypeId} (h:(P.info? t).isSome = true):P.info? t = some ((P.info? t).get h):=(Option.some_get h).symm
theorem lI.mk {ρ:Type} {res:List ResultVar} {us:Mem} {X:List Nat} {rs:ρ → List SV} {iZ:ρ → Mem} {t:ρ} {e:Exit} (he:e = .normal ∨ e = .ret) (h1:vZ P σ m res (rs t)) (h2:oV m (iZ t))
  (hside:(fF (keys us) (keys (iZ t)) && fF X (keys (iZ t)) && okA (keys us ++ X) (vP (rs t)) && (iZ t).all (fun p => (keys us ++ X).elem p.1 && okO (keys us ++ X) p.2)) = true) (h3:yZ (rs t)) (h4:D5 (iZ t)) :
  lI P res us X rs iZ t e σ m:=by
 simp only [Bool.and_eq_true] at hside
 obtain ⟨⟨⟨a1,a2⟩,a3⟩,a4⟩:=hside
 exact ⟨he,h1,h2,a1,a2,h3.res,h4.spec,a3,a4⟩
theorem lI.ret {ρ:Type} {res:List ResultVar} {us:Mem} {X:List Nat} {rs:ρ → List SV} {iZ:ρ → Mem} {t:ρ} {e:Exit} {σ:Slots} {m:Mem} (h:lI P res us X rs iZ t .ret σ m):lI P res us X rs iZ t .ret σ m:=h
theorem Fn.of {f:FuncId} {fn:Func} {c:Code} {args:List SV} {us:Mem} {pn X:List Nat} {N:Nat} {ρ:Type} {M:Option ρ} {rs:ρ → List SV} {iZ:ρ → Mem} (hf:P.funcs[f]? = some fn) (hb:fn.body = some c) (hN:fn.ntmps = N)
  (hargs:args.length ≤ N) (hside:(fF (keys us) (pn ++ X) && mY X pn && fF pn (keys us)) = true)
  (h:∀ w0 U0 R0 g0,aC P ⟨w0,U0,R0,g0,N,pn⟩ [.code c] (zh 0 args) us M (lI P fn.results.toList us X rs iZ)):∀ t,M = some t → Fn P f args us (vP (rs t)) (iZ t) (keys us) X :=
 Fn.aBj (df:=[]) hf hb hN hargs hside fun w0 U0 R0 g0 _ => h w0 U0 R0 g0
theorem Fn.A8 {f:FuncId} {fn:Func} {c:Code} {args:List SV} {us:Mem} {pn X:List Nat} {N:Nat} {ρ:Type} {M:Option ρ} {rs:ρ → List SV} {iZ:ρ → Mem} (hf:P.funcs[f]? = some fn) (hb:fn.body = some c) (hN:fn.ntmps = N)
  (hargs:args.length ≤ N) (hside:(fF (keys us) (pn ++ X) && mY X pn && fF pn (keys us)) = true)
  (h:∀ w0 U0 R0 g0,(∀ b,U0 b → ∃ n ∈ keys us,(g0 n).has b) → aC P ⟨w0,U0,R0,g0,N,pn⟩ [.code c] (zh 0 args) us M (lI P fn.results.toList us X rs iZ)):∀ t,M = some t → Fn P f args us (vP (rs t)) (iZ t) (keys us) X :=
 Fn.aBj (df:=[]) hf hb hN hargs hside h
end
def rn (ρ:List (Nat × Nat)) (n:Nat):Nat:=(lk ρ n).getD 0
def sH (ρ:List (Nat × Nat)):CV → CV
 | .loc n o l => .loc (rn ρ n) o l
 | .pl n o => .pl (rn ρ n) o
 | .fn f caps => .fn f (caps.map (rn ρ))
 | .mref n => .mref (rn ρ n)
 | .tl p k o l => .tl (rn ρ p) k o l
 | .tpl p k o => .tpl (rn ρ p) k o
 | x => x
def Jt (ρ:List (Nat × Nat)):SV → SV
 | .c x => .c (sH ρ x)
 | .agg cs => .agg (cs.map (sH ρ))
def rnA (ρ:List (Nat × Nat)):AV → AV
 | .s x => .s (Jt ρ x)
 | .dW xs => .dW (xs.map (Jt ρ))
def TF (ρ:List (Nat × Nat)):Ob → Ob
 | .row e els => .row e (els.map (·.map (sH ρ)))
 | .fA e els => .fA e els
 | .mp es => .mp es
 | .pool e rows => .pool e rows
 | .dh e p lens => .dh e (rn ρ p) lens
 | .lW e p q fs => .lW e (rn ρ p) (rn ρ q) fs
 | .unk => .unk
def rnM (ρ:List (Nat × Nat)) (m:Mem):Mem:=m.map fun p => (rn ρ p.1,TF ρ p.2)
section
variable {P:Program} {w:World} {R B:Nat → Prop} {g g':Nat → GS} {ρ:List (Nat × Nat)}
theorem RC.rn {x:CV} {v:Value} (hz:qw (keys ρ) x = true) (hg:∀ n ∈ keys ρ,g' (rn ρ n) = g n) (h:RC P w R B g x v):RC P w R B g' (sH ρ x) v:=by
 refine ⟨h.1,?_⟩
 have h2:=h.2
 cases x with
 | pv p => exact h2
 | px q cells => exact h2
 | loc n off len =>
  have hn:=hg n (List.mem_of_elem_eq_true hz)
  rcases h2 with ⟨h3,h4⟩ | h3 | ⟨b,cap,cur,e,h3,h4⟩
  ·exact .inl ⟨hn.trans h3,h4⟩
  ·exact .inr (.inl h3)
  ·exact .inr (.inr ⟨b,cap,cur,e,hn.trans h3,h4⟩)
 | pl n off =>
  obtain ⟨b,h3,h4⟩:=h2
  exact ⟨b,(hg n (List.mem_of_elem_eq_true hz)).trans h3,h4⟩
 | fn f caps =>
  obtain ⟨vs,h3,h4,h5⟩:=h2
  refine ⟨vs,h3,by simpa using h4,fun k n hk => ?_⟩
  rw [List.getElem?_map] at hk
  cases hc:caps[k]? with
  | none => rw [hc] at hk; cases hk
  | some n0 =>
   rw [hc] at hk
   injection hk with hk
   subst hk
   obtain ⟨b,h6,h7⟩:=h5 k n0 hc
   exact ⟨b,(hg n0 (List.mem_of_elem_eq_true (List.all_eq_true.1 hz n0 (List.mem_of_getElem? hc)))).trans h6,h7⟩
 | mref n =>
  obtain ⟨b,h3,h4⟩:=h2
  exact ⟨b,(hg n (List.mem_of_elem_eq_true hz)).trans h3,h4⟩
 | tl p k off len =>
  have hn:=hg p (List.mem_of_elem_eq_true hz)
  rcases h2 with ⟨h3,h4⟩ | h3 | ⟨b,cap,cur,e,h3,h4⟩
  ·exact .inl ⟨by rw [hn]; exact h3,h4⟩
  ·exact .inr (.inl h3)
  ·exact .inr (.inr ⟨b,cap,cur,e,by rw [hn]; exact h3,h4⟩)
 | tpl p k off =>
  obtain ⟨b,h3,h4⟩:=h2
  exact ⟨b,by rw [hg p (List.mem_of_elem_eq_true hz)]; exact h3,h4⟩
 | junk => trivial
theorem aEc {xs:List CV} {vs:List Value} (hz:xs.all (qw (keys ρ)) = true) (hg:∀ n ∈ keys ρ,g' (Fw.rn ρ n) = g n) (h:∀ (k:Nat) x,xs[k]? = some x → ∃ u,vs[k]? = some u ∧ RC P w R B g x u) :
  ∀ (k:Nat) x,(xs.map (sH ρ))[k]? = some x → ∃ u,vs[k]? = some u ∧ RC P w R B g' x u:=fun k x hk => by
 rw [List.getElem?_map] at hk
 cases hc:xs[k]? with
 | none => rw [hc] at hk; cases hk
 | some y =>
  rw [hc] at hk
  injection hk with hk
  subst hk
  obtain ⟨u,h4,h5⟩:=h k y hc
  exact ⟨u,h4,h5.rn (List.all_eq_true.1 hz y (List.mem_of_getElem? hc)) hg⟩
theorem RS.rn {x:SV} {v:Value} (hz:okS (keys ρ) x = true) (hg:∀ n ∈ keys ρ,g' (Fw.rn ρ n) = g n) (h:RS P w R B g x v):RS P w R B g' (Jt ρ x) v:=by
 cases x with
 | c x => exact RC.rn hz hg h
 | agg cs =>
  obtain ⟨vs,h1,h2,h3⟩:=h
  exact ⟨vs,h1,by simpa using h2,aEc hz hg h3⟩
theorem RA.rn {x:AV} {v:Value} (hz:okA (keys ρ) x = true) (hg:∀ n ∈ keys ρ,g' (Fw.rn ρ n) = g n) (h:RA P w R B g x v):RA P w R B g' (rnA ρ x) v:=by
 cases x with
 | s x => exact RS.rn hz hg h
 | dW xs =>
  obtain ⟨vs,h1,h2,h3⟩:=h
  refine ⟨vs,h1,by simpa using h2,fun k x hk => ?_⟩
  rw [List.getElem?_map] at hk
  cases hc:xs[k]? with
  | none => rw [hc] at hk; cases hk
  | some y =>
   rw [hc] at hk
   injection hk with hk
   subst hk
   obtain ⟨u,h4,h5⟩:=h3 k y hc
   exact ⟨u,h4,h5.rn (List.all_eq_true.1 hz y (List.mem_of_getElem? hc)) hg⟩
theorem aB6 (ρ:List (Nat × Nat)) (els:List (List PV)):(gY els).map (·.map (sH ρ)) = gY els:=by simp [gY,sH,Function.comp_def]
theorem aCl (ρ:List (Nat × Nat)) (p:Nat) (lens:List Nat):(iJ p lens).map (·.map (sH ρ)) = iJ (Fw.rn ρ p) lens:=by
 refine List.ext_getElem? fun j => ?_
 simp only [iJ,List.getElem?_map,List.getElem?_mapIdx,Option.map_map]
 cases lens[j]? <;> simp [sH]
theorem Zw (ρ:List (Nat × Nat)) (p q:Nat) (fs:List (Int × Nat × Nat)):(oZ p q fs).map (·.map (sH ρ)) = oZ (Fw.rn ρ p) (Fw.rn ρ q) fs:=by
 refine List.ext_getElem? fun j => ?_
 simp only [oZ,List.getElem?_map,List.getElem?_mapIdx,Option.map_map]
 cases fs[j]? <;> simp [sH]
theorem Zv {zs:List Nat} {e:TypeId} {p q:Nat} {fs:List (Int × Nat × Nat)} (hz:okO zs (.lW e p q fs) = true):(oZ p q fs).all (·.all (qw zs)) = true :=
 List.all_eq_true.2 fun cs hcs => by
  obtain ⟨j,i,a,b,rfl⟩:=Rx hcs
  simpa [qw,okO] using hz
theorem aCk {zs:List Nat} {e:TypeId} {p:Nat} {lens:List Nat} (hz:okO zs (.dh e p lens) = true):(iJ p lens).all (·.all (qw zs)) = true :=
 List.all_eq_true.2 fun cs hcs => by
  obtain ⟨j,l,rfl⟩:=Ry hcs
  simpa [qw,okO] using hz
theorem eU.rn {n:Nat} {e:TypeId} {els:List (List CV)} (hn:n ∈ keys ρ) (hz:els.all (·.all (qw (keys ρ))) = true) (hg:∀ n ∈ keys ρ,g' (Fw.rn ρ n) = g n) (h:eU P w R B g n e els):eU P w R B g' (Fw.rn ρ n) e (els.map (·.map (sH ρ))):=by
 rcases h with ⟨h1,h2⟩ | ⟨b,cur,h1,h2,h3,h4,h5⟩
 ·exact .inl ⟨(hg n hn).trans h1,by simp [h2]⟩
 ·refine .inr ⟨b,cur,(hg n hn).trans h1,h2,fun cs hcs => ?_,by simpa using h4,fun j k cs x hj hk => ?_⟩
  ·obtain ⟨c0,hc0,rfl⟩:=List.mem_map.1 hcs
   simpa using h3 c0 hc0
  ·rw [List.getElem?_map] at hj
   cases hc:els[j]? with
   | none => rw [hc] at hj; cases hj
   | some cs0 =>
    rw [hc] at hj
    injection hj with hj
    subst hj
    rw [List.getElem?_map] at hk
    cases hc2:cs0[k]? with
    | none => rw [hc2] at hk; cases hk
    | some y =>
     rw [hc2] at hk
     injection hk with hk
     subst hk
     obtain ⟨u,h6,h7⟩:=h5 j k cs0 y hc hc2
     exact ⟨u,h6,h7.rn (List.all_eq_true.1 (List.all_eq_true.1 hz cs0 (List.mem_of_getElem? hc)) y (List.mem_of_getElem? hc2)) hg⟩
theorem RO.rn {n:Nat} {o:Ob} (hn:n ∈ keys ρ) (hz:okO (keys ρ) o = true) (hg:∀ n ∈ keys ρ,g' (Fw.rn ρ n) = g n) (h:RO P w R B g n o):RO P w R B g' (Fw.rn ρ n) (TF ρ o):=by
 cases o with
 | row e els => exact eU.rn hn hz hg h
 | fA e els =>
  have:=eU.rn hn (by simp [gY,List.all_eq_true,qw]) hg (els:=gY els) h
  rwa [aB6] at this
 | mp es =>
  obtain ⟨b,uQ,clock,h1,h2⟩:=h
  exact ⟨b,uQ,clock,(hg n hn).trans h1,h2⟩
 | pool e rows =>
  obtain ⟨⟨bs,h1,h2⟩,h3⟩:=h
  exact ⟨⟨bs,(hg n hn).trans h1,h2⟩,by rw [hg n hn]; exact h3⟩
 | dh e p lens =>
  have:=eU.rn hn (aCk hz) hg (els:=iJ p lens) h
  rwa [aCl] at this
 | lW e p q fs =>
  have:=eU.rn hn (Zv hz) hg (els:=oZ p q fs) h
  rwa [Zw] at this
 | unk => trivial
theorem aCB {n:Nat} (h:n ∈ keys ρ):∃ k,lk ρ n = some k ∧ (n,k) ∈ ρ:=by
 induction ρ with
 | nil => simp [keys] at h
 | cons p r ih =>
  obtain ⟨a,b⟩:=p
  show ∃ k,(bif Nat.beq a n then some b else lk r n) = some k ∧ _
  cases hb:Nat.beq a n with
  | true => have:=Nat.eq_of_beq_eq_true hb; subst this; exact ⟨b,rfl,List.mem_cons_self⟩
  | false =>
   have hne:=Nat.ne_of_beq_eq_false hb
   have:n ∈ keys r:=by
    simp [keys] at h
    rcases h with h | h
    ·exact absurd h.symm hne
    ·exact List.mem_map.2 (by simpa using h)
   obtain ⟨k,h1,h2⟩:=ih this
   exact ⟨k,h1,List.mem_cons_of_mem _ h2⟩
def nodup:List Nat → Bool
 | [] => true
 | n :: r => !r.elem n && nodup r
theorem aBX:∀ {ρ:List (Nat × Nat)},nodup (ρ.map (·.2)) = true → ∀ p q,p ∈ ρ → q ∈ ρ → p.2 = q.2 → p = q
 | [],_,_,_,h,_,_ => by cases h
 | x :: r,hn,p,q,hp,hq,he => by
  unfold nodup at hn
  simp only [List.map_cons,Bool.and_eq_true,Bool.not_eq_true'] at hn
  have hx:=l9 hn.1
  cases hp with
  | head =>
   cases hq with
   | head => rfl
   | tail _ hq => exact absurd (List.mem_map.2 ⟨q,hq,he.symm⟩) hx
  | tail _ hp =>
   cases hq with
   | head => exact absurd (List.mem_map.2 ⟨p,hp,he⟩) hx
   | tail _ hq => exact aBX hn.2 p q hp hq he
theorem aCA (hn:nodup (ρ.map (·.2)) = true) {n k:Nat} (h1:n ∈ keys ρ) (h2:k ∈ keys ρ) (h:rn ρ n = rn ρ k):n = k:=by
 obtain ⟨a,ha,hma⟩:=aCB h1
 obtain ⟨b,hb,hmb⟩:=aCB h2
 unfold rn at h
 rw [ha,hb] at h
 have:=aBX hn _ _ hma hmb h
 injection this
theorem RC.un {x:CV} {v:Value} (hz:qw (keys ρ) x = true) (hg:∀ n ∈ keys ρ,g' n = g (Fw.rn ρ n)) (h:RC P w R B g (sH ρ x) v):RC P w R B g' x v:=by
 refine ⟨h.1,?_⟩
 have h2:=h.2
 cases x with
 | pv p => exact h2
 | px q cells => exact h2
 | loc n off len =>
  have hn:=hg n (List.mem_of_elem_eq_true hz)
  rcases h2 with ⟨h3,h4⟩ | h3 | ⟨b,cap,cur,e,h3,h4⟩
  ·exact .inl ⟨hn.trans h3,h4⟩
  ·exact .inr (.inl h3)
  ·exact .inr (.inr ⟨b,cap,cur,e,hn.trans h3,h4⟩)
 | pl n off =>
  obtain ⟨b,h3,h4⟩:=h2
  exact ⟨b,(hg n (List.mem_of_elem_eq_true hz)).trans h3,h4⟩
 | fn f caps =>
  obtain ⟨vs,h3,h4,h5⟩:=h2
  refine ⟨vs,h3,by simpa using h4,fun k n hk => ?_⟩
  obtain ⟨b,h6,h7⟩:=h5 k (Fw.rn ρ n) (by rw [List.getElem?_map,hk]; rfl)
  exact ⟨b,(hg n (List.mem_of_elem_eq_true (List.all_eq_true.1 hz n (List.mem_of_getElem? hk)))).trans h6,h7⟩
 | mref n =>
  obtain ⟨b,h3,h4⟩:=h2
  exact ⟨b,(hg n (List.mem_of_elem_eq_true hz)).trans h3,h4⟩
 | tl p k off len =>
  have hn:=hg p (List.mem_of_elem_eq_true hz)
  rcases h2 with ⟨h3,h4⟩ | h3 | ⟨b,cap,cur,e,h3,h4⟩
  ·exact .inl ⟨by rw [hn]; exact h3,h4⟩
  ·exact .inr (.inl h3)
  ·exact .inr (.inr ⟨b,cap,cur,e,by rw [hn]; exact h3,h4⟩)
 | tpl p k off =>
  obtain ⟨b,h3,h4⟩:=h2
  exact ⟨b,by rw [hg p (List.mem_of_elem_eq_true hz)]; exact h3,h4⟩
 | junk => trivial
theorem aEd {xs:List CV} {vs:List Value} (hz:xs.all (qw (keys ρ)) = true) (hg:∀ n ∈ keys ρ,g' n = g (Fw.rn ρ n)) (h:∀ (k:Nat) x,(xs.map (sH ρ))[k]? = some x → ∃ u,vs[k]? = some u ∧ RC P w R B g x u) :
  ∀ (k:Nat) x,xs[k]? = some x → ∃ u,vs[k]? = some u ∧ RC P w R B g' x u:=fun k x hk => by
 obtain ⟨u,h4,h5⟩:=h k (sH ρ x) (by rw [List.getElem?_map,hk]; rfl)
 exact ⟨u,h4,h5.un (List.all_eq_true.1 hz x (List.mem_of_getElem? hk)) hg⟩
theorem RS.un {x:SV} {v:Value} (hz:okS (keys ρ) x = true) (hg:∀ n ∈ keys ρ,g' n = g (Fw.rn ρ n)) (h:RS P w R B g (Jt ρ x) v):RS P w R B g' x v:=by
 cases x with
 | c x => exact RC.un hz hg h
 | agg cs =>
  obtain ⟨vs,h1,h2,h3⟩:=h
  exact ⟨vs,h1,by simpa using h2,aEd hz hg h3⟩
theorem eU.un {n:Nat} {e:TypeId} {els:List (List CV)} (hn:n ∈ keys ρ) (hz:els.all (·.all (qw (keys ρ))) = true) (hg:∀ n ∈ keys ρ,g' n = g (Fw.rn ρ n)) (h:eU P w R B g (Fw.rn ρ n) e (els.map (·.map (sH ρ)))):eU P w R B g' n e els:=by
 rcases h with ⟨h1,h2⟩ | ⟨b,cur,h1,h2,h3,h4,h5⟩
 ·exact .inl ⟨(hg n hn).trans h1,by simpa using h2⟩
 ·refine .inr ⟨b,cur,(hg n hn).trans h1,h2,fun cs hcs => ?_,by simpa using h4,fun j k cs x hj hk => ?_⟩
  ·have:=h3 (cs.map (sH ρ)) (List.mem_map.2 ⟨cs,hcs,rfl⟩)
   simpa using this
  ·obtain ⟨u,h6,h7⟩:=h5 j k (cs.map (sH ρ)) (sH ρ x) (by rw [List.getElem?_map,hj]; rfl) (by rw [List.getElem?_map,hk]; rfl)
   exact ⟨u,h6,h7.un (List.all_eq_true.1 (List.all_eq_true.1 hz cs (List.mem_of_getElem? hj)) x (List.mem_of_getElem? hk)) hg⟩
theorem RO.un {n:Nat} {o:Ob} (hn:n ∈ keys ρ) (hz:okO (keys ρ) o = true) (hg:∀ n ∈ keys ρ,g' n = g (Fw.rn ρ n)) (h:RO P w R B g (Fw.rn ρ n) (TF ρ o)):RO P w R B g' n o:=by
 cases o with
 | row e els => exact eU.un hn hz hg h
 | fA e els => exact eU.un hn (by simp [gY,List.all_eq_true,qw]) hg (els:=gY els) (by rw [aB6]; exact h)
 | mp es =>
  obtain ⟨b,uQ,clock,h1,h2⟩:=h
  exact ⟨b,uQ,clock,(hg n hn).trans h1,h2⟩
 | pool e rows =>
  obtain ⟨⟨bs,h1,h2⟩,h3⟩:=h
  exact ⟨⟨bs,(hg n hn).trans h1,h2⟩,by rw [hg n hn]; exact h3⟩
 | dh e p lens => exact eU.un hn (aCk hz) hg (els:=iJ p lens) (by rw [aCl]; exact h)
 | lW e p q fs => exact eU.un hn (Zv hz) hg (els:=oZ p q fs) (by rw [Zw]; exact h)
 | unk => trivial
theorem Fn.ren {f:FuncId} {args:List SV} {us df:Mem} {v:AV} {W X:List Nat} (ρ:List (Nat × Nat)) (h:Fn P f args us v df W X)
  (hc:(nodup (ρ.map (·.2)) && args.all (okS (keys ρ)) && us.all (fun p => (keys ρ).elem p.1 && okO (keys ρ) p.2) && okA (keys ρ) v && df.all (fun p => (keys ρ).elem p.1 && okO (keys ρ) p.2) && fF W (keys ρ) && fF X (keys ρ)) = true) :
  Fn P f (args.map (Jt ρ)) (rnM ρ us) (rnA ρ v) (rnM ρ df) (W.map (rn ρ)) (X.map (rn ρ)):=by
 simp only [Bool.and_eq_true] at hc
 obtain ⟨⟨⟨⟨⟨⟨hnd,hargs⟩,hus⟩,hv⟩,hdf⟩,hW⟩,hX⟩:=hc
 have LW:=wV hW
 have hXk:=wV hX
 intro R B g w vs hw hlen hvs aHj
 classical
 let gc:Nat → GS:=fun n => if n ∈ keys ρ then g (rn ρ n) else .dead
 have hgc:∀ n ∈ keys ρ,gc n = g (rn ρ n):=fun n hn => if_pos hn
 have hgd:∀ n,gc n ≠ .dead → n ∈ keys ρ:=fun n h => by
  by_cases hn:n ∈ keys ρ
  ·exact hn
  ·exact absurd (if_neg hn) h
 have hgk:∀ n b,(gc n).has b → n ∈ keys ρ:=fun n b h => hgd n fun e => by rw [e] at h; exact h
 have hwc:WF R B gc w:=⟨hw.rb,hw.lt,fun n b hg => by
  have hn:=hgk n b hg
  rw [hgc n hn] at hg
  exact hw.jZ _ b hg,fun n k b h1 h2 => by
  have hn:=hgk n b h1
  have hk:=hgk k b h2
  rw [hgc n hn] at h1
  rw [hgc k hk] at h2
  exact aCA hnd hn hk (hw.jk _ _ b h1 h2),fun n j k b h1 h2 => by
  have hn:=hgd n fun e => by rw [e] at h1; cases h1
  rw [hgc n hn] at h1 h2
  exact hw.nd _ j k b h1 h2⟩
 refine (h R B gc w vs hwc (by simpa using hlen) (fun k x hk => ?_) (fun p hp => ?_)).mono fun e w' hp => ?_
 ·obtain ⟨u,h1,h2⟩:=hvs k (Jt ρ x) (by rw [List.getElem?_map,hk]; rfl)
  exact ⟨u,h1,h2.un (List.all_eq_true.1 hargs x (List.mem_of_getElem? hk)) hgc⟩
 ·have h1:=List.all_eq_true.1 hus p hp
  simp only [Bool.and_eq_true] at h1
  exact RO.un (List.mem_of_elem_eq_true h1.1) h1.2 hgc (aHj (rn ρ p.1,TF ρ p.2) (List.mem_map.2 ⟨p,hp,rfl⟩))
 ·obtain ⟨u,R',B',g',rfl,had,hR,hvv,aF6⟩:=hp
  let g2:Nat → GS:=fun n => if h:∃ k,k ∈ keys ρ ∧ rn ρ k = n then g' h.choose else g n
  have hin:∀ k ∈ keys ρ,g2 (rn ρ k) = g' k:=fun k hk => by
   have hex:∃ j,j ∈ keys ρ ∧ rn ρ j = rn ρ k:=⟨k,hk,rfl⟩
   show (if h:∃ j,j ∈ keys ρ ∧ rn ρ j = rn ρ k then g' h.choose else g (rn ρ k)) = g' k
   rw [dif_pos hex]
   have:=hex.choose_spec
   rw [aCA hnd this.1 hk this.2]
  have hout:∀ n,(¬ ∃ k,k ∈ keys ρ ∧ rn ρ k = n) → g2 n = g n:=fun n hn => dif_neg hn
  have aFS:∀ b,R' b → b < w'.heap.size:=fun b hb => had.wf.lt b (had.wf.rb b hb)
  have Lc:∀ n k b,(¬ ∃ k,k ∈ keys ρ ∧ rn ρ k = n) → k ∈ keys ρ → (g n).has b → (g' k).has b → False:=fun n k b hn hk h1 h2 => by
   by_cases hkX:k ∈ X
   ·rcases had.fresh k hkX b h2 with h3 | ⟨m,hm,h3⟩
    ·exact absurd (hw.jZ n b h1).2 (by omega)
    ·rw [hgc m (LW m hm)] at h3
     exact hn ⟨m,LW m hm,hw.jk _ _ b h3 h1⟩
   ·rw [had.names k hkX,hgc k hk] at h2
    exact hn ⟨k,hk,hw.jk _ _ b h2 h1⟩
  have hwf:WF R' (fun b => B b ∨ R' b) g2 w':=by
   refine ⟨fun b hb => .inr hb,fun b hb => hb.elim (fun hb => Nat.lt_of_lt_of_le (hw.lt b hb) had.size) (aFS b),fun n b hg => ?_,fun n k b hn hk => ?_,fun n i j b hi hj => ?_⟩
   ·by_cases hn:∃ k,k ∈ keys ρ ∧ rn ρ k = n
    ·obtain ⟨k,hk,rfl⟩:=hn
     rw [hin k hk] at hg
     have h1:=had.wf.jZ k b hg
     exact ⟨fun hB => h1.1 (hB.elim (had.b b) (had.wf.rb b)),h1.2⟩
    ·rw [hout n hn] at hg
     have h1:=hw.jZ n b hg
     refine ⟨fun hB => ?_,Nat.lt_of_lt_of_le h1.2 had.size⟩
     rcases hB with hB | hB
     ·exact h1.1 hB
     ·rcases hR b hB with h2 | h2
      ·exact h1.1 (hw.rb b h2)
      ·exact absurd h1.2 (by omega)
   ·by_cases h1:∃ j,j ∈ keys ρ ∧ rn ρ j = n <;> by_cases h2:∃ j,j ∈ keys ρ ∧ rn ρ j = k
    ·obtain ⟨n0,hn0,rfl⟩:=h1
     obtain ⟨k0,hk0,rfl⟩:=h2
     rw [hin n0 hn0] at hn
     rw [hin k0 hk0] at hk
     rw [had.wf.jk n0 k0 b hn hk]
    ·obtain ⟨n0,hn0,rfl⟩:=h1
     rw [hin n0 hn0] at hn
     rw [hout k h2] at hk
     exact (Lc k n0 b h2 hn0 hk hn).elim
    ·obtain ⟨k0,hk0,rfl⟩:=h2
     rw [hin k0 hk0] at hk
     rw [hout n h1] at hn
     exact (Lc n k0 b h1 hk0 hn hk).elim
    ·rw [hout n h1] at hn
     rw [hout k h2] at hk
     exact hw.jk n k b hn hk
   ·by_cases hn:∃ k,k ∈ keys ρ ∧ rn ρ k = n
    ·obtain ⟨k,hk,rfl⟩:=hn
     rw [hin k hk] at hi hj
     exact had.wf.nd k i j b hi hj
    ·rw [hout n hn] at hi hj
     exact hw.nd n i j b hi hj
  have LX:iH R B g w (W.map (rn ρ)) (X.map (rn ρ)) R' (fun b => B b ∨ R' b) g2 w':=by
   refine ⟨hwf,had.r,fun b hb => .inl hb,had.os,had.tape,had.output,had.size,fun b hb mg => had.heap b hb fun n hn => ?_,fun n hn => ?_,fun n hn b hb => ?_,fun n mg vK b cur e hg hh => ?_⟩
   ·rw [hgc n (LW n hn)]
    exact mg _ (List.mem_map.2 ⟨n,hn,rfl⟩)
   ·by_cases h1:∃ k,k ∈ keys ρ ∧ rn ρ k = n
    ·obtain ⟨k,hk,rfl⟩:=h1
     rw [hin k hk,had.names k fun hkX => hn (List.mem_map.2 ⟨k,hkX,rfl⟩),hgc k hk]
    ·exact hout n h1
   ·obtain ⟨k,hkX,rfl⟩:=List.mem_map.1 hn
    rw [hin k (hXk k hkX)] at hb
    rcases had.fresh k hkX b hb with h3 | ⟨m,hm,h3⟩
    ·exact .inl h3
    ·rw [hgc m (LW m hm)] at h3
     exact .inr ⟨rn ρ m,List.mem_map.2 ⟨m,hm,rfl⟩,h3⟩
   ·obtain ⟨k,hkW,rfl⟩:=List.mem_map.1 mg
    exact had.shape k hkW (fun hkX => vK (List.mem_map.2 ⟨k,hkX,rfl⟩)) b cur e (by rw [hgc k (LW k hkW)]; exact hg) hh
  refine ⟨u,R',_,g2,rfl,LX,hR,hvv.rn hv hin,fun p hp => ?_⟩
  obtain ⟨q,hq,rfl⟩:=List.mem_map.1 hp
  have h1:=List.all_eq_true.1 hdf q hq
  simp only [Bool.and_eq_true] at h1
  exact RO.rn (List.mem_of_elem_eq_true h1.1) h1.2 hin (aF6 q hq)
end
end
section
section
variable {P:Program} {o:Oper} {α:Type} {enc:α → List PV}
theorem LT.gB {x:Operand} {t e:TypeId} {q:Bool} {xs:List α} (ho:o.op = .call { callee:=.builtin .len,args:=#[x],argTypes:=#[t] }) (ht:P.underlying t = some (.slice e)) :
  LT P o [(x,Cc (.pv (.xs q (xs.map enc))))] [] (Iv xs.length) [] [] []:=by
 have:=LT.aIM (P:=P) (o:=o) (q:=q) (els:=xs.map enc) ho ht
 rwa [List.length_map] at this
theorem LT.dZ {x y:Operand} {t e:TypeId} {i:Int} {q:Bool} {xs:List α} {b:α} (ho:o.op = .indexAddr t x y) (h:uP P t = some e) (hi:idx xs i = some b) (hs:bZ P e = (enc b).length) :
  LT P o [(x,Cc (.pv (.xs q (xs.map enc)))),(y,Iv i)] [] (Cc (.px q (enc b))) [] [] [] :=
 LT.aHz ho h (Hu hi) (by rw [List.getElem?_map,qC hi]; rfl) hs.symm
theorem LT.iW {x y:Operand} {t e:TypeId} {i:Int} {n len:Nat} {xs:List α} {b:α} (hl:len = xs.length) (ho:o.op = .indexAddr t x y) (h:uP P t = some e) (hi:idx xs i = some b) :
  LT P o [(x,Cc (.loc n 0 len)),(y,Iv i)] [(n,.fA e (xs.map enc))] (Cc (.pl n (i.toNat * bZ P e))) [] [] []:=by
 subst hl
 exact LT.Tn (LT.WV ho h (Hu hi) (RG hi))
theorem XV {xs:List α} {i:Int} {b:α} (hi:idx xs i = some b):(gY (xs.map enc))[i.toNat]? = some ((enc b).map .pv):=by
 simp [gY,List.getElem?_map,qC hi]
theorem LT.aJ0 {x:Operand} {t e:TypeId} {n off k:Nat} {i:Int} {xs:List α} {b:α} {p:PV} (ho:o.op = .load t x) (h:kZ P t = some false) (hi:idx xs i = some b) (hk:(enc b)[k]? = some p)
  (ha:off = i.toNat * bZ P e + k):LT P o [(x,Cc (.pl n off))] [(n,.fA e (xs.map enc))] (Cc (.pv p)) [] [] [] :=
 LT.Tn (LT.Wq ho h (XV hi) (by rw [List.getElem?_map,hk]; rfl) ha)
theorem LT.J3 {x:Operand} {t e:TypeId} {n off s:Nat} {i:Int} {xs:List α} {b:α} {it:TypeInfo} (ho:o.op = .load t x) (h:kZ P t = some true) (hit:P.info? t = some it) (hs:bZ P t = s) (hi:idx xs i = some b) (hl:(enc b).length = s)
  (ha:off = i.toNat * bZ P e):LT P o [(x,Cc (.pl n off))] [(n,.fA e (xs.map enc))] (Ag ((enc b).map .pv)) [] [] []:=by
 have hd:((((enc b).map CV.pv).drop 0).take (bZ P t)) = (enc b).map CV.pv:=by
  rw [List.drop_zero,List.take_of_length_le]
  rw [List.length_map,hl,hs]; exact Nat.le_refl _
 have:=LT.aBI (P:=P) (o:=o) (n:=n) (e:=e) (k:=0) ho h hit (XV (enc:=enc) hi) ha (by rw [hd,List.length_map,hl,hs])
 rw [hd] at this
 exact LT.Tn this
theorem LT.KT {x:Operand} {t e:TypeId} {n off:Nat} {cs:List CV} {c:CV} (ho:o.op = .load t x) (h:kZ P t = some false) (hk:cs[off]? = some c):LT P o [(x,Cc (.pl n off))] [(n,.row e [cs])] (Cc c) [] [] [] :=
 LT.Wq (j:=0) ho h rfl hk (by rw [Nat.zero_mul,Nat.zero_add])
theorem LT.aDs {x:Operand} {t e:TypeId} {n off s:Nat} {cs out:List CV} {it:TypeInfo} (ho:o.op = .load t x) (h:kZ P t = some true) (hit:P.info? t = some it) (hs:bZ P t = s) (ho2:(cs.drop off).take s = out) (hl:out.length = s) :
  LT P o [(x,Cc (.pl n off))] [(n,.row e [cs])] (Ag out) [] [] []:=by
 have hd:((cs.drop off).take (bZ P t)) = out:=by rw [hs,ho2]
 have:=LT.aBI (P:=P) (o:=o) (n:=n) (off:=off) (e:=e) (els:=[cs]) (j:=0) (k:=off) ho h hit rfl (by rw [Nat.zero_mul,Nat.zero_add]) (by rw [hd,hl,hs])
 rwa [hd] at this
theorem LT.Yq {t e:TypeId} {n off s:Nat} {x y:Operand} {cs out:List CV} {v:SV} {it:TypeInfo} (ho:o.op = .store t x y) (hd:o.dst = none) (hit:P.info? t = some it) (hs:bZ P t = s) (hl:(kR v).length = s) (hk:off + s ≤ cs.length)
  (hout:ow cs off (kR v) = out):LT P o [(x,Cc (.pl n off)),(y,.s v)] [(n,.row e [cs])] (.dW []) [(n,.row e [out])] [n] []:=by
 have:=LT.store (P:=P) (o:=o) (n:=n) (off:=off) (e:=e) (els:=[cs]) (j:=0) (k:=off) ho hd hit hs hl rfl (by rw [Nat.zero_mul,Nat.zero_add]) hk
 subst hout
 exact this
theorem LT.aCq {t e:TypeId} {n off k s:Nat} {x y:Operand} {i:Int} {xs:List α} {b b':α} {v:SV} {it:TypeInfo} (ho:o.op = .store t x y) (hd:o.dst = none) (hit:P.info? t = some it) (hs:bZ P t = s) (hl:(kR v).length = s) (hi:idx xs i = some b)
  (ha:off = i.toNat * bZ P e + k) (hk:k + s ≤ (enc b).length) (hb:ow ((enc b).map .pv) k (kR v) = (enc b').map .pv) :
  LT P o [(x,Cc (.pl n off)),(y,.s v)] [(n,.fA e (xs.map enc))] (.dW []) [(n,.fA e ((xs.set i.toNat b').map enc))] [n] []:=by
 have:=LT.store (P:=P) (o:=o) (n:=n) (off:=off) (e:=e) (els:=gY (xs.map enc)) ho hd hit hs hl (XV hi) ha (by simpa using hk)
 have e1:(gY (xs.map enc)).set i.toNat (ow ((enc b).map .pv) k (kR v)) = gY ((xs.set i.toNat b').map enc):=by
  rw [hb]
  simp [gY,List.map_set]
 rw [e1] at this
 exact LT.Kw (Y:=[]) (LT.Tn (by rw [OW]; exact this))
section
variable {t e:TypeId} {x y:Operand} {n n2 len H7:Nat} {xs ys:List α} {z:Value} {s qZ:Nat} {q:Bool}
theorem Zg (h:∀ a,(enc a).length = s):∀ cs ∈ ys.map enc,cs.length = s:=fun cs hcs => by
 obtain ⟨a,_,rfl⟩:=List.mem_map.1 hcs
 exact h a
theorem LT.BM (hl:len = xs.length) (ho:o.op = .call { callee:=.builtin .append,args:=#[x,y],argTypes:=#[t,t] }) (ht:P.underlying t = some (.slice e)) (hz:TI P e z s qZ) (hzs:z.cells.size = s) (hs:0 < s) (hb:qZ ≤ 65536)
  (hl2:∀ a,(enc a).length = s) (hlim:xs.length + ys.length ≤ vY) :
  LT P o [(x,Cc (.loc n 0 len)),(y,Cc (.pv (.xs q (ys.map enc))))] [(n,.fA e (xs.map enc))] (Cc (.loc n 0 (xs ++ ys).length)) [(n,.fA e ((xs ++ ys).map enc))] [n] [n]:=by
 subst hl
 have:=LT.aDn (P:=P) (o:=o) (n:=n) (q:=q) (kN:=xs.map enc) (oI:=ys.map enc) ho ht hz hzs hs hb (Zg hl2) (by simpa using hlim)
 rwa [List.length_map,List.length_map,← List.map_append,← List.length_append] at this
theorem LT.ng (hl:len = xs.length) (hl2:H7 = ys.length) (ho:o.op = .call { callee:=.builtin .append,args:=#[x,y],argTypes:=#[t,t] }) (ht:P.underlying t = some (.slice e)) (hz:TI P e z s qZ) (hzs:z.cells.size = s) (hs:0 < s) (hb:qZ ≤ 65536)
  (hel:∀ a,(enc a).length = s) (hlim:xs.length + ys.length ≤ vY) :
  LT P o [(x,Cc (.loc n 0 len)),(y,Cc (.loc n2 0 H7))] [(n,.fA e (xs.map enc)),(n2,.fA e (ys.map enc))] (Cc (.loc n 0 (xs ++ ys).length)) [(n,.fA e ((xs ++ ys).map enc))] [n] [n]:=by
 subst hl; subst hl2
 have:=LT.aDm (P:=P) (o:=o) (n:=n) (n2:=n2) (kN:=xs.map enc) (oI:=ys.map enc) ho ht hz hzs hs hb (Zg hel) (by simpa using hlim)
 rwa [List.length_map,List.length_map,← List.map_append,← List.length_append] at this
end
theorem LT.aJt {t e:TypeId} {len n:Nat} {parts:Array (Nat × Operand)} (ps:Parts) {z:Value} {s b:Nat} {zc:List CV} (xs:List α) (ho:o.op = .buildSlice t len parts) (hps:parts.toList = Parts.ops ps) (he:P.underlying t = some (.slice e)) (hz:TI P e z s b)
  (hzc:z.cells.toList.map sC = zc) (h1:z.cells.toList.all (·.oneCell') = true) (hsz:zc.length = s) (hlen:xs.length = len) (hmax:len * s ≤ 16777216 ∧ 0 < s) (hel:∀ a,(enc a).length = s)
  (hf:EN (fun i => some (i * s,s)) ((List.range (len * s)).map fun i => zc.getD (i % s) .junk) (Parts.vals ps) = some (gY (xs.map enc)).flatten) :
  LT P o (Parts.ins ps) [] (Cc (.loc n 0 xs.length)) [(n,.fA e (xs.map enc))] [] [n]:=by
 have hlen':(gY (xs.map enc)).length = xs.length:=by simp [gY]
 have:=LT.buildSlice (P:=P) (o:=o) (n:=n) ps (els:=gY (xs.map enc)) ho hps he hz hzc h1 hsz (hlen'.trans hlen) hmax (by
  refine List.all_eq_true.2 fun cs hcs => ?_
  obtain ⟨c,hc,rfl⟩:=List.mem_map.1 hcs
  obtain ⟨a,_,rfl⟩:=List.mem_map.1 hc
  rw [List.length_map,hel a]
  exact Nat.beq_refl s) hf
 rw [hlen'] at this
 exact this.Kw
theorem LT.aCo {t e:TypeId} {n:Nat} {x y:Operand} {len:Int} {z:Value} {s b:Nat} {zc:List CV} (a:α) (ho:o.op = .makeSlice t x y) (he:P.underlying t = some (.slice e)) (hz:TI P e z s b)
  (hzc:z.cells.toList.map sC = zc) (h1:z.cells.toList.all (·.oneCell') = true) (hsz:zc.length = s) (hs:0 < s) (hb:b ≤ 65536) (hl:0 ≤ len ∧ len ≤ vY) (ha:(enc a).map .pv = zc) :
  LT P o [(x,Iv len),(y,Iv len)] [] (Cc (.loc n 0 (List.replicate len.toNat a).length)) [(n,.fA e ((List.replicate len.toNat a).map enc))] [] [n]:=by
 have:=LT.makeSlice (P:=P) (o:=o) (n:=n) (x:=x) (y:=y) ho he hz hzc h1 hsz hs hb hl
 have e1:List.replicate len.toNat zc = gY ((List.replicate len.toNat a).map enc):=by simp [gY,List.map_replicate,ha]
 have e2:(List.replicate len.toNat zc).length = (List.replicate len.toNat a).length:=by simp
 rw [e2,e1] at this
 exact this.Kw
theorem pY.dG {sh:Mem} {n len:Nat} {e:TypeId} {xs:List α} (hl:len = xs.length) (h:lk sh n = some (.fA e (xs.map enc))):pY sh (.loc n 0 len) (.pv (.xs false (xs.map enc))):=by
 subst hl
 have:=pY.loc h
 rwa [List.length_map] at this
def Dy (X:List Nat):Mem → Prop
 | [] => True
 | (_,o) :: r => lD X o = o ∧ Dy X r
theorem Dy.spec {X:List Nat}:∀ {us:Mem},Dy X us → ∀ p ∈ us,lD X p.2 = p.2
 | [],_,p,hp => by cases hp
 | (n,o) :: r,h,p,hp => by
  cases hp with
  | head => exact h.1
  | tail _ hp => exact Dy.spec h.2 p hp
theorem LT.Ub {cf:Operand} {f:FuncId} {ops:Array Operand} {ts:Array TypeId} {xs ys:List SV} {us sh df:Mem} {v:AV} {W X:List Nat} (hf:Fn P f ys us v df W X)
  (ho:o.op = .call { callee:=.value cf,args:=ops,argTypes:=ts }) (hb:dL P f = true) (hsh:qI sh xs ys) (hlen:ops.size = xs.length)
  (hside:(mY (keys sh) (W ++ X ++ keys us ++ keys df ++ []) && fF W (keys us)) = true) (hus:Dy (keys sh) us):LT P o ((cf,Cc (.fn f [])) :: KH ops.toList xs) (us ++ sh) v df W X :=
 LT.call (caps:=[]) (by rw [List.map_nil,List.append_nil]; exact hf) ho hb hlen hsh hside hus.spec
end
section
variable {P:Program} {C:Ctx} {σ:Slots} {m:Mem}
theorem St.aIh {R B:Nat → Prop} {g:Nat → GS} {a:Act} {w:World} (hs:St P C σ m R B g a w) (n:Nat) (hn:n ∉ C.pn) (e:TypeId):St P C (lK [n] σ) ((n,.fA e []) :: jV [n] m) R B (upd g n .nil) a w:=by
 have had:iH R B g w [] [n] R B (upd g n .nil) w:=by
  refine ⟨hs.wf.upd n _ (Nat.le_refl _) (fun b hb => hb.elim) (fun i j b hi => by cases hi),fun _ h => h,fun _ h => h,rfl,rfl,rfl,Nat.le_refl _,fun _ _ _ => rfl,fun k hk => upd_ne g _ (by simpa using hk),fun k hk b hb => ?_,fun k hk => by cases hk⟩
  ·have:k = n:=by simpa using hk
   subst this
   rw [upd_same] at hb; exact hb.elim
 exact hs.step (us:=[]) (df:=[(n,.fA e [])]) (W:=[]) (X:=[n]) (d:=none) (v:=.dW []) (u:=undef) trivial (fun _ h => by cases h) (fun p hp => by
   have:p = (n,.fA e []):=by simpa using hp
   subst this; exact .inl (by simp)) rfl (fun k hk => by
   have:k = n:=by simpa using hk
   subst this; exact hn) had (fun b hb => .inl hb) (fun h => by cases h) (Jl (.inl ⟨upd_same ..,rfl⟩))
def FV (n k:Nat) (cs:List CV):List CV:=cs.set k (.loc n 0 0)
theorem aIg {w:World} {R B:Nat → Prop} {g:Nat → GS} {n k:Nat} {cs:List CV} {us:Nat → Option Value} (hg:g n = .nil) (hk:cs[k]? = some (sC aO)) (h:∀ (j:Nat) x,cs[j]? = some x → ∃ u,us j = some u ∧ RC P w R B g x u) :
  ∀ (j:Nat) x,(FV n k cs)[j]? = some x → ∃ u,us j = some u ∧ RC P w R B g x u:=fun j x hj => by
 unfold FV at hj
 rw [List.getElem?_set] at hj
 by_cases hkj:k = j
 ·subst hkj
  have hlt:k < cs.length:=(List.getElem?_eq_some_iff.1 hk).1
  rw [if_pos rfl,if_pos hlt] at hj
  injection hj with hj
  subst hj
  obtain ⟨u,h1,h2⟩:=h k _ hk
  obtain ⟨_,h2⟩:=h2
  cases h2
  exact ⟨aO,h1,rfl,.inl ⟨hg,rfl,rfl,rfl⟩⟩
 ·rw [if_neg hkj] at hj
  exact h j x hj
theorem aII {n k:Nat} {cs:List CV} (h:cs[k]? = some (sC aO)):(cs.map (cO [n]))[k]? = some (sC aO):=by rw [List.getElem?_map,h]; rfl
theorem aj.qp (b k n:Nat) (e:TypeId) {t:TypeId} {cs:List CV} (hn:C.pn.elem n = false) (hbn:Nat.beq b n = false) (h:lk m b = some (.row t [cs])) (hk:cs[k]? = some (sC aO)) :
  aj P C σ m (lK [n] σ) ((b,.row t [FV n k (cs.map (cO [n]))]) :: (n,.fA e []) :: jV [n] m):=fun R B g a w hs => by
 have h1:=hs.aIh n (l9 hn) e
 have hne:b ≠ n:=Nat.ne_of_beq_eq_false hbn
 have hlk:lk ((n,Ob.fA e []) :: jV [n] m) b = some (.row t [cs.map (cO [n])]):=by
  show (bif Nat.beq n b then some (Ob.fA e []) else lk (jV [n] m) b) = _
  have hnb:Nat.beq n b = false:=by
   cases hx:Nat.beq n b with
   | false => rfl
   | true => exact absurd (Nat.eq_of_beq_eq_true hx).symm hne
  rw [hnb,cond_false,Rf,if_neg (by simpa using hne),h]
  rfl
 refine ⟨R,B,_,{ h1 with ob:=fun j o hj => ?_,ow:=fun j o c hj hg => ?_ }⟩
 ·change (bif Nat.beq b j then some (Ob.row t [FV n k (cs.map (cO [n]))]) else lk ((n,Ob.fA e []) :: jV [n] m) j) = some o at hj
  cases hb:Nat.beq b j with
  | false => rw [hb] at hj; exact h1.ob j o hj
  | true =>
   rw [hb,cond_true] at hj
   injection hj with hj
   subst hj
   have:=Nat.eq_of_beq_eq_true hb
   subst this
   have h2:=h1.ob b _ hlk
   rcases h2 with ⟨_,h3⟩ | ⟨c,cur,h3,h4,h5,h6,h7⟩
   ·cases h3
   ·refine .inr ⟨c,cur,h3,h4,fun x hx => ?_,by simpa using h6,fun j k' x y hj hk' => ?_⟩
    ·have:x = FV n k (cs.map (cO [n])):=by simpa using hx
     subst this
     have:=h5 (cs.map (cO [n])) (by simp)
     simpa [FV] using this
    ·cases j with
     | zero =>
      simp at hj
      subst hj
      exact aIg (us:=fun k' => cur[0 * bZ P t + k']?) (upd_same ..) (aII hk) (fun q y hq => h7 0 q _ y rfl hq) k' y hk'
     | succ j => simp at hj
 ·change (bif Nat.beq b j then some (Ob.row t [FV n k (cs.map (cO [n]))]) else lk ((n,Ob.fA e []) :: jV [n] m) j) = some o at hj
  cases hb:Nat.beq b j with
  | false => rw [hb] at hj; exact h1.ow j o c hj hg
  | true =>
   have:=Nat.eq_of_beq_eq_true hb
   subst this
   exact h1.ow b _ c hlk hg
end
end
section
def qo (n k j:Nat):Nat:=bif Nat.beq j n then k else j
def xJ (n k:Nat):CV → CV
 | .loc j o l => .loc (qo n k j) o l
 | .pl j o => .pl (qo n k j) o
 | .fn f caps => .fn f (caps.map (qo n k))
 | .mref j => .mref (qo n k j)
 | .tl j i o l => .tl (qo n k j) i o l
 | .tpl j i o => .tpl (qo n k j) i o
 | x => x
def XC (n k:Nat):SV → SV
 | .c x => .c (xJ n k x)
 | .agg cs => .agg (cs.map (xJ n k))
def OG (n k:Nat):AV → AV
 | .s x => .s (XC n k x)
 | .dW xs => .dW (xs.map (XC n k))
def OH (n k:Nat):Ob → Ob
 | .row e els => .row e (els.map (·.map (xJ n k)))
 | .fA e els => .fA e els
 | .mp es => .mp es
 | .pool e rows => .pool e rows
 | .dh e p lens => .dh e (qo n k p) lens
 | .lW e p q fs => .lW e (qo n k p) (qo n k q) fs
 | .unk => .unk
def XD (n k:Nat) (σ:Slots):Slots:=σ.map fun p => (p.1,OG n k p.2)
def mvM (n k:Nat) (m:Mem):Mem:=m.map fun p => (qo n k p.1,OH n k p.2)
def tq (n k:Nat) (g:Nat → GS):Nat → GS:=fun j => if j = k then g n else if j = n then .dead else g j
theorem DN {n k j:Nat} (g:Nat → GS) (hj:j ≠ k):tq n k g (qo n k j) = g j:=by
 unfold qo
 cases hb:Nat.beq j n with
 | true =>
  have:=Nat.eq_of_beq_eq_true hb
  subst this
  simp [tq]
 | false =>
  have:=Nat.ne_of_beq_eq_false hb
  simp [tq,hj,this]
section
variable {P:Program} {w:World} {R B:Nat → Prop} {g:Nat → GS} {n k:Nat}
theorem FQ {j k:Nat} (h:[k].elem j = false):j ≠ k:=by
 have:=l9 h
 simpa using this
theorem RC.mv {x:CV} {v:Value} (hz:jO [k] x = true) (h:RC P w R B g x v):RC P w R B (tq n k g) (xJ n k x) v:=by
 refine ⟨h.1,?_⟩
 have h2:=h.2
 cases x with
 | pv p => exact h2
 | px q cells => exact h2
 | loc j off len =>
  have hn:=DN (n:=n) g (FQ (by simpa [jO] using hz))
  rcases h2 with ⟨h3,h4⟩ | h3 | ⟨b,cap,cur,e,h3,h4⟩
  ·exact .inl ⟨hn.trans h3,h4⟩
  ·exact .inr (.inl h3)
  ·exact .inr (.inr ⟨b,cap,cur,e,hn.trans h3,h4⟩)
 | pl j off =>
  obtain ⟨b,h3,h4⟩:=h2
  exact ⟨b,(DN g (FQ (by simpa [jO] using hz))).trans h3,h4⟩
 | fn f caps =>
  obtain ⟨vs,h3,h4,h5⟩:=h2
  refine ⟨vs,h3,by simpa using h4,fun i j hk => ?_⟩
  rw [List.getElem?_map] at hk
  cases hc:caps[i]? with
  | none => rw [hc] at hk; cases hk
  | some n0 =>
   rw [hc] at hk
   injection hk with hk
   subst hk
   obtain ⟨b,h6,h7⟩:=h5 i n0 hc
   have hz':caps.any [k].elem = false:=by simpa [jO] using hz
   have hne:[k].elem n0 = false:=by
    cases hx:[k].elem n0 with
    | false => rfl
    | true =>
     have:caps.any [k].elem = true:=List.any_eq_true.2 ⟨n0,List.mem_of_getElem? hc,hx⟩
     rw [hz'] at this
     cases this
   exact ⟨b,(DN g (FQ hne)).trans h6,h7⟩
 | mref j =>
  obtain ⟨b,h3,h4⟩:=h2
  exact ⟨b,(DN g (FQ (by simpa [jO] using hz))).trans h3,h4⟩
 | tl j i off len =>
  have hn:=DN (n:=n) g (FQ (by simpa [jO] using hz))
  rcases h2 with ⟨h3,h4⟩ | h3 | ⟨b,cap,cur,e,h3,h4⟩
  ·exact .inl ⟨by rw [hn]; exact h3,h4⟩
  ·exact .inr (.inl h3)
  ·exact .inr (.inr ⟨b,cap,cur,e,by rw [hn]; exact h3,h4⟩)
 | tpl j i off =>
  obtain ⟨b,h3,h4⟩:=h2
  exact ⟨b,by rw [DN (n:=n) g (FQ (by simpa [jO] using hz))]; exact h3,h4⟩
 | junk => trivial
theorem aBb (X:List Nat) (x:CV):jO X (cO X x) = true:=by
 cases x with
 | loc j o l => cases hx:X.elem j <;> simp only [jO,cO,hx,cond_true,cond_false,Bool.not_false]
 | pl j o => cases hx:X.elem j <;> simp only [jO,cO,hx,cond_true,cond_false,Bool.not_false]
 | fn f caps => cases hx:caps.any X.elem <;> simp only [jO,cO,hx,cond_true,cond_false,Bool.not_false]
 | mref j => cases hx:X.elem j <;> simp only [jO,cO,hx,cond_true,cond_false,Bool.not_false]
 | tl j i o l => cases hx:X.elem j <;> simp only [jO,cO,hx,cond_true,cond_false,Bool.not_false]
 | tpl j i o => cases hx:X.elem j <;> simp only [jO,cO,hx,cond_true,cond_false,Bool.not_false]
 | _ => rfl
theorem ZN {xs:List CV} {us:Nat → Option Value} (h:∀ (i:Nat) x,(xs.map (cO [k]))[i]? = some x → ∃ u,us i = some u ∧ RC P w R B g x u) :
  ∀ (i:Nat) x,((xs.map (cO [k])).map (xJ n k))[i]? = some x → ∃ u,us i = some u ∧ RC P w R B (tq n k g) x u:=fun i x hi => by
 rw [List.getElem?_map] at hi
 cases hc:(xs.map (cO [k]))[i]? with
 | none => rw [hc] at hi; cases hi
 | some y =>
  rw [hc] at hi
  injection hi with hi
  subst hi
  obtain ⟨u,h1,h2⟩:=h i y hc
  refine ⟨u,h1,h2.mv ?_⟩
  rw [List.getElem?_map] at hc
  cases hx:xs[i]? with
  | none => rw [hx] at hc; cases hc
  | some z =>
   rw [hx] at hc
   injection hc with hc
   subst hc
   exact aBb _ _
theorem RS.mv {x:SV} {v:Value} (h:RS P w R B g (qi [k] x) v):RS P w R B (tq n k g) (XC n k (qi [k] x)) v:=by
 cases x with
 | c x => exact RC.mv (aBb _ _) h
 | agg cs =>
  obtain ⟨vs,h1,h2,h3⟩:=h
  exact ⟨vs,h1,by simpa using h2,ZN (us:=fun i => vs[i]?) h3⟩
theorem RA.mv {x:AV} {v:Value} (h:RA P w R B g (pK [k] x) v):RA P w R B (tq n k g) (OG n k (pK [k] x)) v:=by
 cases x with
 | s x => exact RS.mv h
 | dW xs =>
  obtain ⟨vs,h1,h2,h3⟩:=h
  refine ⟨vs,h1,by simpa using h2,fun i x hi => ?_⟩
  rw [List.getElem?_map,List.getElem?_map] at hi
  cases hx:xs[i]? with
  | none => rw [hx] at hi; cases hi
  | some z =>
   rw [hx] at hi
   injection hi with hi
   subst hi
   obtain ⟨u,h4,h5⟩:=h3 i (qi [k] z) (by rw [List.getElem?_map,hx]; rfl)
   exact ⟨u,h4,h5.mv⟩
theorem RO.mv {j:Nat} {o:Ob} (hj:j ≠ k) (h:RO P w R B g j (lD [k] o)):RO P w R B (tq n k g) (qo n k j) (OH n k (lD [k] o)):=by
 have hg:=DN (n:=n) g hj
 have hrow:∀ {e:TypeId} {els:List (List CV)},eU P w R B g j e (els.map (·.map (cO [k]))) → eU P w R B (tq n k g) (qo n k j) e ((els.map (·.map (cO [k]))).map (·.map (xJ n k))):=fun {e els} h => by
  rcases h with ⟨h1,h2⟩ | ⟨b,cur,h1,h2,h3,h4,h5⟩
  ·exact .inl ⟨hg.trans h1,by rw [h2]; rfl⟩
  ·refine .inr ⟨b,cur,hg.trans h1,h2,fun cs hcs => ?_,by simpa using h4,fun i q cs x hi hq => ?_⟩
   ·obtain ⟨c0,hc0,rfl⟩:=List.mem_map.1 hcs
    simpa using h3 c0 hc0
   ·rw [List.getElem?_map,List.getElem?_map] at hi
    cases hc:els[i]? with
    | none => rw [hc] at hi; cases hi
    | some c0 =>
     rw [hc] at hi
     injection hi with hi
     subst hi
     exact ZN (us:=fun q => cur[i * bZ P e + q]?) (fun q y hq => h5 i q _ y (by rw [List.getElem?_map,hc]; rfl) hq) q x hq
 cases o with
 | row e els => exact hrow h
 | fA e els =>
  have h':eU P w R B g j e ((gY els).map (·.map (cO [k]))):=by rw [OW]; exact h
  have:=hrow h'
  rw [OW] at this
  have e1:(gY els).map (·.map (xJ n k)) = gY els:=by simp [gY,xJ,Function.comp_def]
  rw [e1] at this
  exact this
 | mp es =>
  obtain ⟨b,uQ,clock,h1,h2⟩:=h
  exact ⟨b,uQ,clock,hg.trans h1,h2⟩
 | pool e rows =>
  obtain ⟨⟨bs,h1,h2⟩,h3⟩:=h
  exact ⟨⟨bs,hg.trans h1,h2⟩,by rw [hg]; exact h3⟩
 | dh e p lens =>
  change RO P w R B g j (bif [k].elem p then .unk else .dh e p lens) at h
  show RO P w R B (tq n k g) (qo n k j) (OH n k (bif [k].elem p then .unk else .dh e p lens))
  cases hx:[k].elem p with
  | true => trivial
  | false =>
   rw [hx] at h
   have h':eU P w R B g j e ((iJ p lens).map (·.map (cO [k]))):=by
    rw [Td hx]
    exact h
   have:=hrow h'
   rw [Td hx] at this
   have e1:(iJ p lens).map (·.map (xJ n k)) = iJ (qo n k p) lens:=by
    refine List.ext_getElem? fun i => ?_
    simp only [iJ,List.getElem?_map,List.getElem?_mapIdx,Option.map_map]
    cases lens[i]? <;> simp [xJ]
   rw [e1] at this
   exact this
 | lW e p q fs =>
  change RO P w R B g j (bif [k].elem p then .unk else bif [k].elem q then .unk else .lW e p q fs) at h
  show RO P w R B (tq n k g) (qo n k j) (OH n k (bif [k].elem p then .unk else bif [k].elem q then .unk else .lW e p q fs))
  cases hx:[k].elem p with
  | true => trivial
  | false =>
   cases hy:[k].elem q with
   | true => trivial
   | false =>
    rw [hx,hy] at h
    have h':eU P w R B g j e ((oZ p q fs).map (·.map (cO [k]))):=by
     rw [U3 hx hy]
     exact h
    have:=hrow h'
    rw [U3 hx hy] at this
    have e1:(oZ p q fs).map (·.map (xJ n k)) = oZ (qo n k p) (qo n k q) fs:=by
     refine List.ext_getElem? fun i => ?_
     simp only [oZ,List.getElem?_map,List.getElem?_mapIdx,Option.map_map]
     cases fs[i]? <;> simp [xJ]
    rw [e1] at this
    exact this
 | unk => trivial
end
section
variable {P:Program} {C:Ctx} {σ:Slots} {m:Mem} {n k:Nat}
theorem aBG (n k:Nat):∀ (σ:Slots) (t:Nat),lk (XD n k σ) t = (lk σ t).map (OG n k)
 | [],_ => rfl
 | (j,v) :: r,t => by
  show (bif Nat.beq j t then some (OG n k v) else lk (XD n k r) t) = Option.map (OG n k) (bif Nat.beq j t then some v else lk r t)
  cases Nat.beq j t
  ·exact aBG n k r t
  ·rfl
theorem aBL {m:Mem} {j:Nat} {o:Ob} (h:lk (mvM n k m) j = some o):∃ j0 o0,(j0,o0) ∈ m ∧ j = qo n k j0 ∧ o = OH n k o0:=by
 obtain ⟨p,hp,he⟩:=List.mem_map.1 (Ae h)
 injection he with h1 h2
 exact ⟨p.1,p.2,hp,h1.symm,h2.symm⟩
def Tm:Mem → Bool
 | [] => true
 | (n,_) :: r => !(keys r).elem n && Tm r
theorem aCz:∀ {m:Mem} {n:Nat} {o:Ob},Tm m = true → (n,o) ∈ m → lk m n = some o
 | [],_,_,_,h => by cases h
 | (j,x) :: r,n,o,hu,h => by
  unfold Tm at hu
  simp only [Bool.and_eq_true,Bool.not_eq_true'] at hu
  show (bif Nat.beq j n then some x else lk r n) = some o
  cases h with
  | head => rw [Nat.beq_refl]; rfl
  | tail _ h =>
   have hne:j ≠ n:=fun e => l9 hu.1 (e ▸ List.mem_map.2 ⟨_,h,rfl⟩)
   cases hb:Nat.beq j n with
   | true => exact absurd (Nat.eq_of_beq_eq_true hb) hne
   | false => exact aCz hu.2 h
theorem aj.mv (n k:Nat) (hp:(!C.pn.elem n && !C.pn.elem k) = true) (hu:Tm m = true):aj P C σ m (XD n k (lK [k] σ)) (mvM n k (jV [k] m)):=fun R B g a w hs => by
 simp only [Bool.and_eq_true,Bool.not_eq_true'] at hp
 have hpn:=l9 hp.1
 have hpk:=l9 hp.2
 -- forget k first
 have had:iH R B g w [] [k] R B (upd g k .dead) w:=by
  refine ⟨hs.wf.upd k _ (Nat.le_refl _) (fun b hb => hb.elim) (fun i j b hi => by cases hi),fun _ h => h,fun _ h => h,rfl,rfl,rfl,Nat.le_refl _,fun _ _ _ => rfl,fun i hi => upd_ne g _ (by simpa using hi),fun i hi b hb => ?_,fun i hi => by cases hi⟩
  ·have:i = k:=by simpa using hi
   subst this
   rw [upd_same] at hb; exact hb.elim
 have h1:St P C (lK [k] σ) (jV [k] m) R B (upd g k .dead) a w :=
  hs.step (us:=[]) (df:=[]) (W:=[]) (X:=[k]) (d:=none) (v:=.dW []) (u:=undef) trivial (fun _ h => by cases h) (fun p hp => by cases hp) rfl (fun j hj => by
   have:j = k:=by simpa using hj
   subst this; exact hpk) had (fun b hb => .inl hb) (fun h => by cases h) (fun p hp => by cases hp)
 have hjm:∀ (m0:Mem) (j:Nat) (o:Ob),(j,o) ∈ jV [k] m0 → j ≠ k ∧ ∃ o0,(j,o0) ∈ m0 ∧ o = lD [k] o0:=by
  intro m0
  induction m0 with
  | nil => intro j o h; cases h
  | cons p r ih =>
   intro j o h
   obtain ⟨i,x⟩:=p
   unfold jV at h
   cases hi:[k].elem i with
   | true =>
    rw [hi,cond_true] at h
    obtain ⟨h1,o0,h2,h3⟩:=ih j o h
    exact ⟨h1,o0,List.mem_cons_of_mem _ h2,h3⟩
   | false =>
    rw [hi,cond_false] at h
    cases h with
    | head => exact ⟨FQ hi,x,List.mem_cons_self,rfl⟩
    | tail _ h =>
     obtain ⟨h1,o0,h2,h3⟩:=ih j o h
     exact ⟨h1,o0,List.mem_cons_of_mem _ h2,h3⟩
 have hlk:∀ j o,(j,o) ∈ jV [k] m → lk (jV [k] m) j = some o:=fun j o hm => by
  obtain ⟨h2,o0,h3,rfl⟩:=hjm m j o hm
  rw [Rf,if_neg (by simpa using h2),aCz hu h3]
  rfl
 generalize upd g k .dead = g1 at h1
 refine ⟨R,B,tq n k g1,{ h1 with wf:=⟨h1.wf.rb,h1.wf.lt,fun j b hj => ?_,fun i j b hi hj => ?_,fun q i j b hi hj => ?_⟩,sl:=fun t v ht => ?_,ob:=fun j o hj => ?_,ow:=fun j o b hj hb => ?_,pin:=fun j hj => ?_ }⟩
 ·unfold tq at hj
  split at hj
  ·exact h1.wf.jZ n b hj
  ·split at hj
   ·exact hj.elim
   ·exact h1.wf.jZ j b hj
 ·unfold tq at hi hj
  split at hi
  ·rename_i e1
   split at hj
   ·rename_i e2; rw [e1,e2]
   ·split at hj
    ·exact hj.elim
    ·rename_i e3; exact absurd (h1.wf.jk n j b hi hj).symm e3
  ·split at hi
   ·exact hi.elim
   ·rename_i e1 e2
    split at hj
    ·exact absurd (h1.wf.jk i n b hi hj) e2
    ·split at hj
     ·exact hj.elim
     ·exact h1.wf.jk i j b hi hj
 ·unfold tq at hi hj
  split at hi
  ·rename_i e1
   rw [if_pos e1] at hj
   exact h1.wf.nd n i j b hi hj
  ·rename_i e1
   rw [if_neg e1] at hj
   split at hi
   ·cases hi
   ·rename_i e2
    rw [if_neg e2] at hj
    exact h1.wf.nd q i j b hi hj
 ·rw [aBG,IC] at ht
  cases hl:lk σ t with
  | none => rw [hl] at ht; cases ht
  | some x =>
   rw [hl] at ht
   injection ht with ht
   subst ht
   exact RA.mv (h1.sl t _ (by rw [IC,hl]; rfl))
 ·obtain ⟨j0,o0,hm,rfl,rfl⟩:=aBL hj
  obtain ⟨h2,o1,h3,rfl⟩:=hjm m j0 o0 hm
  exact RO.mv h2 (h1.ob j0 _ (hlk j0 _ hm))
 ·obtain ⟨j0,o0,hm,rfl,rfl⟩:=aBL hj
  obtain ⟨h2,_⟩:=hjm m j0 o0 hm
  rw [DN g1 h2] at hb
  exact h1.ow j0 o0 b (hlk j0 o0 hm) hb
 ·have e1:j ≠ k:=fun e => hpk (e ▸ hj)
  have e2:j ≠ n:=fun e => hpn (e ▸ hj)
  have:tq n k g1 j = g1 j:=by simp [tq,e1,e2]
  rw [this]
  exact h1.pin j hj
end
end
section
def jM:List Int → List Int → Bool
 | [],[] => true
 | a :: r,b :: s => (a == b) && jM r s
 | _,_ => false
theorem Zk:∀ a b:List Int,jM a b = decide (a = b)
 | [],[] => rfl
 | [],_ :: _ => by simp [jM]
 | _ :: _,[] => by simp [jM]
 | a :: r,b :: s => by
  rw [jM,Zk r s]
  by_cases h1:a = b <;> by_cases h2:r = s <;> simp [h1,h2]
def RJ (P:Program):Nat → List Field → Bool
 | _,[] => true
 | k,f :: r => (f.name != "_") && Nat.beq f.offset k && (match P.underlying f.type with | some (.int _) => true | _ => false) && RJ P (k + 1) r
def Hz (P:Program) (t:TypeId):Option Nat:=match P.underlying t with
 | some (.struct fs) => if (RJ P 0 fs.toList && !P.stoodInHeld t && !P.eqGuardType P.depth t) = true then some fs.size else none
 | _ => none
section
variable {P:Program} {o:Oper}
def Ad (l:List Int):Array Value:=(l.map fun n => Value.int .i64 n).toArray
theorem aCH (w:World) (d:Nat):∀ (fs:List Field) (k:Nat) (xs ys:List Int),RJ P k fs = true → xs.length = k + fs.length → ys.length = k + fs.length →
  (Op.eqFields (d + 1) (Ad xs) (Ad ys) fs).run P w = .ok (jM (xs.drop k) (ys.drop k)) w
 | [],k,xs,ys,_,hx,hy => by
  rw [List.drop_eq_nil_of_le (by simp at hx; omega),List.drop_eq_nil_of_le (by simp at hy; omega)]
  rfl
 | f :: r,k,xs,ys,h,hx,hy => by
  unfold RJ at h
  simp only [Bool.and_eq_true] at h
  obtain ⟨⟨⟨h1,h2⟩,h3⟩,h4⟩:=h
  have hoff:f.offset = k:=Nat.eq_of_beq_eq_true h2
  have hname:f.name ≠ "_" := by simpa using h1
  have hkx:k < xs.length:=by simp at hx; omega
  have hky:k < ys.length:=by simp at hy; omega
  have hkind:∃ kd,P.underlying f.type = some (.int kd):=by
   split at h3
   ·exact ⟨_,by assumption⟩
   ·cases h3
  obtain ⟨kd,hk⟩:=hkind
  have hpx:(part f.type (Ad xs) f.offset).run P w = .ok (.int .i64 xs[k]) w:=by simp [part,isAgg,run_underlying hk,hoff,Ad,List.getElem?_map,hkx]
  have hpy:(part f.type (Ad ys) f.offset).run P w = .ok (.int .i64 ys[k]) w:=by simp [part,isAgg,run_underlying hk,hoff,Ad,List.getElem?_map,hky]
  have ih:=aCH w d r (k + 1) xs ys h4 (by simp at hx ⊢; omega) (by simp at hy ⊢; omega)
  rw [List.drop_eq_getElem_cons hkx,List.drop_eq_getElem_cons hky]
  unfold Op.eqFields
  rw [if_pos hname]
  simp only [Sem.run_bind,hpx,hpy,Result.andThen_ok,run_equalIn_int w d f.type .i64 kd _ _ hk]
  cases hb:(xs[k] == ys[k]) with
  | true => simp [ih,jM,hb]
  | false => simp [jM,hb]
theorem aCI {t:TypeId} {n:Nat} (h:Hz P t = some n) (xs ys:List Int) (hx:xs.length = n) (hy:ys.length = n) (w:World) :
  (Op.equalIn 10000 t (.agg (Ad xs)) (.agg (Ad ys))).run P w = .ok (jM xs ys) w ∧ P.eqGuardType P.depth t = false:=by
 unfold Hz at h
 split at h
 ·rename_i fs hfs
  split at h
  ·rename_i hc
   simp only [Bool.and_eq_true,Bool.not_eq_true'] at hc
   injection h with h
   subst h
   have hf:P.fieldsOf t = fs:=by simp [Program.fieldsOf,hfs]
   refine ⟨?_,hc.2⟩
   rw [show (10000:Nat) = 9999 + 1 from rfl,run_equalIn_agg w 9999 t _ _ (by rw [hf]; exact hfs) hc.1.2,hf]
   have:=aCH (P:=P) w 9998 fs.toList 0 xs ys hc.1.1 (by simpa using hx) (by simpa using hy)
   simpa using this
  ·cases h
 ·cases h
theorem P8 {w:World} {R B:Nat → Prop} {g:Nat → GS} {xs:List Int} {v:Value} (h:RA P w R B g (Ag (xs.map iC)) v):v = .agg (Ad xs):=by
 obtain ⟨vs,rfl,hl,hc⟩:=h
 have:vs = xs.map fun n => Value.int .i64 n:=by
  refine List.ext_getElem (by simpa using hl) fun i h1 h2 => ?_
  have hi:i < xs.length:=by simpa using h2
  obtain ⟨u,h3,h4⟩:=hc i (iC xs[i]) (by rw [List.getElem?_map,List.getElem?_eq_getElem hi]; rfl)
  obtain ⟨_,h4⟩:=h4
  cases h4
  rw [List.getElem?_eq_getElem h1] at h3
  injection h3 with h3
  rw [h3]
  simp
 rw [this]
 rfl
theorem LT.LH {t t':TypeId} {x y:Operand} {n:Nat} (xs ys:List Int) (ho:o.op = .binOp .eql t x y t') (h:Hz P t = some n) (hx:xs.length = n) (hy:ys.length = n) :
  LT P o [(x,Ag (xs.map iC)),(y,Ag (ys.map iC))] [] (Bv (jM xs ys)) [] [] []:=.calm fun R B g w a _ hi _ => by
 obtain ⟨h1,h2⟩:=aCI h xs ys hx hy w
 refine ⟨.bool (jM xs ys),?_,qx rfl⟩
 simp only [execOp,ho,P8 (in1 hi),P8 (in2 hi),Sem.run_bind,run_eqGuard_agg w .eql t x y _ _ h2,Result.andThen_ok,run_eql_struct,h1,Sem.run_pure]
theorem LT.Jf {t t':TypeId} {x y:Operand} {n:Nat} (xs ys:List Int) (ho:o.op = .binOp .neq t x y t') (h:Hz P t = some n) (hx:xs.length = n) (hy:ys.length = n) :
  LT P o [(x,Ag (xs.map iC)),(y,Ag (ys.map iC))] [] (Bv (!jM xs ys)) [] [] []:=.calm fun R B g w a _ hi _ => by
 obtain ⟨h1,h2⟩:=aCI h xs ys hx hy w
 refine ⟨.bool (!jM xs ys),?_,qx rfl⟩
 simp only [execOp,ho,P8 (in1 hi),P8 (in2 hi),Sem.run_bind,run_eqGuard_agg w .neq t x y _ _ h2,Result.andThen_ok,run_neq_struct,h1,Sem.run_pure]
end
end
theorem UK {n:Nat} (h:n ≤ 1099511627776):n < BIG:=by unfold BIG; omega
theorem fD {n:Int} (h1:-4611686018427387904 ≤ n) (h2:n ≤ 4611686018427387904):aB n = n:=Fz (by omega) (by omega)
theorem aBJ {σ τ:Type} {b:σ → Option (σ ⊕ τ)} {r:τ} (st:Nat → σ) (n:Nat) (h:∀ k,k < n → b (st k) = some (.inl (st (k + 1)))) (hr:b (st n) = some (.inr r)):∀ (j k f:Nat),k + j = n → j < f → bW b f (st k) = some r
 | 0,k,f,hk,hf => by
  obtain ⟨f,rfl⟩:∃ g,f = g + 1:=⟨f - 1,by omega⟩
  have:k = n:=by omega
  subst this
  unfold bW
  rw [hr]
 | j + 1,k,f,hk,hf => by
  obtain ⟨f,rfl⟩:∃ g,f = g + 1:=⟨f - 1,by omega⟩
  unfold bW
  rw [h k (by omega)]
  exact aBJ st n h hr j (k + 1) f (by omega) (by omega)
theorem jl {σ τ:Type} {b:σ → Option (σ ⊕ τ)} {r:τ} {s:σ} (st:Nat → σ) (n:Nat) (hn:n ≤ 1099511627776) (h0:st 0 = s) (h:∀ k,k < n → b (st k) = some (.inl (st (k + 1)))) (hr:b (st n) = some (.inr r)):bW b BIG s = some r:=by
 subst h0
 exact aBJ st n h hr n 0 BIG (by omega) (UK hn)
theorem oH {α:Type} {l:List α} {k:Nat} (h:k < l.length):idx l (k:Int) = some l[k]:=by
 unfold idx
 rw [if_pos (by omega),Int.toNat_natCast,List.getElem?_eq_getElem h]
theorem nV {α:Type} {l:List α} {k:Nat} {x:α} (h:l[k]? = some x):idx l (k:Int) = some x:=by
 unfold idx
 rw [if_pos (by omega),Int.toNat_natCast,h]
theorem fP {k:Nat} (h:k ≤ 1099511627776):aB ((k:Int) + 1) = ((k + 1:Nat):Int):=by
 rw [fD (by omega) (by omega)]; omega
theorem aDk {γ:Type} {b:Int → Option (Int ⊕ (Unit ⊕ γ))} (bad:Nat → Bool) (c:γ) (k0 n:Nat) (hn:n ≤ 1099511627776) (h0:k0 ≤ n) (h:∀ k:Nat,k0 ≤ k → k < n → b k = bif bad k then some (.inr (.inr c)) else some (.inl (aB ((k:Int) + 1)))) (hr:b n = some (.inr (.inl ()))) :
  bW b BIG k0 = some (bif (List.range' k0 (n - k0)).any bad then .inr c else .inl ()):=by
 have go:∀ (j k f:Nat),k + j = n → k0 ≤ k → j < f → bW b f (k:Int) = some (bif (List.range' k j).any bad then .inr c else .inl ()):=by
  intro j
  induction j with
  | zero =>
   intro k f hk _ hf
   obtain ⟨f,rfl⟩:∃ g,f = g + 1:=⟨f - 1,by omega⟩
   have:k = n:=by omega
   subst this
   unfold bW
   rw [hr]
   rfl
  | succ j ih =>
   intro k f hk hk0 hf
   obtain ⟨f,rfl⟩:∃ g,f = g + 1:=⟨f - 1,by omega⟩
   have h1:=h k hk0 (by omega)
   unfold bW
   cases hb:bad k with
   | true =>
    rw [hb,cond_true] at h1
    rw [h1,List.range'_succ,List.any_cons,hb]
    rfl
   | false =>
    rw [hb,cond_false,fP (by omega)] at h1
    rw [h1,List.range'_succ,List.any_cons,hb,Bool.false_or]
    exact ih (k + 1) f (by omega) (by omega) (by omega)
 exact go (n - k0) k0 BIG (by omega) (Nat.le_refl _) (by have:=UK hn; omega)
theorem pO {σ τ:Type} {b:σ → Option (σ ⊕ τ)} {s:σ} (I:Nat → σ → Prop) (Q:τ → Prop) (n:Nat) (hn:n ≤ 1099511627776) (h0:I 0 s)
  (h:∀ k s,k < n → I k s → (∃ s',b s = some (.inl s') ∧ I (k + 1) s') ∨ ∃ r,b s = some (.inr r) ∧ Q r) (hr:∀ s,I n s → ∃ r,b s = some (.inr r) ∧ Q r):∃ r,bW b BIG s = some r ∧ Q r:=by
 have go:∀ (j k f:Nat) (s:σ),k + j = n → j < f → I k s → ∃ r,bW b f s = some r ∧ Q r:=by
  intro j
  induction j with
  | zero =>
   intro k f s hk hf hi
   obtain ⟨f,rfl⟩:∃ g,f = g + 1:=⟨f - 1,by omega⟩
   have:k = n:=by omega
   subst this
   obtain ⟨r,h1,h2⟩:=hr s hi
   exact ⟨r,by unfold bW; rw [h1],h2⟩
  | succ j ih =>
   intro k f s hk hf hi
   obtain ⟨f,rfl⟩:∃ g,f = g + 1:=⟨f - 1,by omega⟩
   rcases h k s (by omega) hi with ⟨s',h1,h2⟩ | ⟨r,h1,h2⟩
   ·obtain ⟨r,h3,h4⟩:=ih (k + 1) f s' (by omega) (by omega) h2
    exact ⟨r,by unfold bW; rw [h1]; exact h3,h4⟩
   ·exact ⟨r,by unfold bW; rw [h1],h2⟩
 exact go n 0 BIG s (by omega) (UK hn) h0
theorem jy {n:Nat} (h:n ≤ 2147483648):lim n = some ():=by unfold lim vY; rw [if_pos h]
theorem aA8 {n:Int} (h0:0 ≤ n) (h:n ≤ 2147483648):H8 n = some ():=by unfold H8; rw [if_pos ⟨h0,h⟩]
def iter {β:Type} (f:Nat → β → β):Nat → β → β
 | 0,a => a
 | n + 1,a => f n (iter f n a)
def pieces {α:Type} (f:Nat → List α):Nat → List α
 | 0 => []
 | n + 1 => pieces f n ++ f n
theorem pieces_len {α:Type} {f:Nat → List α} {c:Nat}:∀ n,(∀ k,k < n → (f k).length ≤ c) → (pieces f n).length ≤ c * n
 | 0,_ => by simp [pieces]
 | n + 1,h => by
  have h1:=pieces_len n fun k hk => h k (by omega)
  have h2:=h n (by omega)
  show (pieces f n ++ f n).length ≤ _
  rw [List.length_append,Nat.mul_add,Nat.mul_one]
  omega
theorem SQ {α:Type} {f g:Nat → List α}:∀ n,(∀ k,k < n → f k = g k) → pieces f n = pieces g n
 | 0,_ => rfl
 | n + 1,h => by
  show pieces f n ++ f n = pieces g n ++ g n
  rw [SQ n fun k hk => h k (by omega),h n (by omega)]
theorem Gj {α τ σ:Type} {b:σ → Option (σ ⊕ τ)} {s:σ} (mk:Nat → List α → σ) (f:Nat → List α) (fin:List α → τ) (c n:Nat) (FX:List α) (hn:n ≤ 1099511627776) (hs:s = mk 0 FX) (hc:∀ k,k < n → (f k).length ≤ c)
  (h:∀ k out,k < n → out.length ≤ FX.length + c * k → b (mk k out) = some (.inl (mk (k + 1) (out ++ f k)))) (hr:∀ out,b (mk n out) = some (.inr (fin out))) :
  bW b BIG s = some (fin (FX ++ pieces f n)):=by
 subst hs
 refine jl (fun k => mk k (FX ++ pieces f k)) n hn (by simp [pieces]) (fun k hk => ?_) (hr _)
 have h1:=pieces_len (f:=f) (c:=c) k fun j hj => hc j (by omega)
 rw [h k _ hk (by rw [List.length_append]; omega),List.append_assoc]
 rfl
theorem aDl {p:Nat → Bool} {k0 n:Nat}:(List.range' k0 n).any p = true ↔ ∃ k,k0 ≤ k ∧ k < k0 + n ∧ p k = true:=by
 rw [List.any_eq_true]
 constructor
 ·rintro ⟨k,hk,h⟩
  rw [List.mem_range'_1] at hk
  exact ⟨k,hk.1,hk.2,h⟩
 ·rintro ⟨k,h1,h2,h⟩
  exact ⟨k,List.mem_range'_1.2 ⟨h1,h2⟩,h⟩
theorem D7 {p:Nat → Bool} {k0 n:Nat}:(List.range' k0 n).any p = false ↔ ∀ k,k0 ≤ k → k < k0 + n → p k = false:=by
 rw [← Bool.not_eq_true,aDl]
 constructor
 ·intro h k h1 h2
  cases hp:p k
  ·rfl
  ·exact absurd ⟨k,h1,h2,hp⟩ h
 ·rintro h ⟨k,h1,h2,h3⟩
  rw [h k h1 h2] at h3
  cases h3
theorem BZ {γ:Type} {b:Int → Option (Int ⊕ (Unit ⊕ γ))} (bad:Nat → Bool) (c:γ) (n:Nat) (hn:n ≤ 1099511627776) (h:∀ k:Nat,k < n → b k = bif bad k then some (.inr (.inr c)) else some (.inl (aB ((k:Int) + 1)))) (hr:b n = some (.inr (.inl ()))) :
  bW b BIG 0 = some (bif (List.range' 0 n).any bad then .inr c else .inl ()):=by
 have:=aDk (b:=b) bad c 0 n hn (by omega) (fun k _ hk => h k hk) hr
 rwa [Nat.sub_zero] at this
theorem zS {α:Type} {l:List α} {k:Nat} (hk:k < l.length):l.take (k + 1) = l.take k ++ [l[k]]:=by
 rw [List.take_add_one,List.getElem?_eq_getElem hk]; rfl
end Go.Fw
end
section
namespace Go.Fw
open Go.ChangeMaps
def slc {α:Type} (l:List α) (lo hi:Int):Option (List α):=if 0 ≤ lo ∧ lo ≤ hi ∧ hi ≤ (l.length:Int) then some ((l.take hi.toNat).drop lo.toNat) else none
theorem zO {α:Type} {l r:List α} {lo hi:Int} (h:slc l lo hi = some r):0 ≤ lo ∧ lo ≤ hi ∧ hi ≤ (l.length:Int) ∧ r = (l.take hi.toNat).drop lo.toNat:=by
 unfold slc at h
 split at h
 ·rename_i h0
  injection h with h
  exact ⟨h0.1,h0.2.1,h0.2.2,h.symm⟩
 ·cases h
theorem Jy {α:Type} {l r:List α} {lo hi:Int} (h:slc l lo hi = some r):lo.toNat ≤ hi.toNat:=by
 have:=zO h
 omega
theorem Jw {α:Type} {l r:List α} {lo hi:Int} (h:slc l lo hi = some r):hi.toNat ≤ l.length:=by
 have:=zO h
 omega
def uq:List (Int × Int) → Int → Int
 | [],_ => 0
 | e :: r,k => bif k == e.1 then e.2 else uq r k
def DK:List (Int × Int) → Int → Bool
 | [],_ => false
 | e :: r,k => bif k == e.1 then true else DK r k
def wL:List (Int × Int) → Int → Int → List (Int × Int)
 | [],k,v => [(k,v)]
 | e :: r,k,v => bif k == e.1 then (k,v) :: r else e :: wL r k v
section
variable {P:Program} {o:Oper} {w:World} {R B:Nat → Prop} {g:Nat → GS}
theorem aJP {lo hi:Option Value} {len cap:Nat} {l h:Nat} (hlo:lo = some (.int .i64 (l:Int)) ∨ (lo = none ∧ l = 0)) (hhi:hi = some (.int .i64 (h:Int)) ∨ (hi = none ∧ h = len)) (h1:l ≤ h) (h2:h ≤ len) (h3:len ≤ cap) (w:World) :
  (Instr.sliceBounds true len cap lo hi none).run P w = .ok (l,h,cap) w:=by
 have e1:(Instr.sliceBound (.int .i64 (h:Int)) cap .sliceAcap).run P w = .ok h w:=by
  have:(0:Int) ≤ (h:Int) ∧ (h:Int) ≤ (cap:Int):=by omega
  simp [Instr.sliceBound,asIntOf,this]
 have e2:(Instr.sliceBound (.int .i64 (l:Int)) h .sliceB).run P w = .ok l w:=by
  have:(0:Int) ≤ (l:Int) ∧ (l:Int) ≤ (h:Int):=by omega
  simp [Instr.sliceBound,asIntOf,this]
 rcases hlo with rfl | ⟨rfl,rfl⟩ <;> rcases hhi with rfl | ⟨rfl,rfl⟩ <;> simp [Instr.sliceBounds,e1,e2,Result.andThen]
def EC:Option (Operand × Int) → List (Operand × AV)
 | some (x,n) => [(x,Iv n)]
 | none => []
theorem QB {a:Act} {b:Option (Operand × Int)} {x:Option Operand} (hx:x = b.map (·.1)) (h:∀ p ∈ EC b,RA P w R B g p.2 (a.eval p.1)):x.map a.eval = b.map fun q => Value.int .i64 q.2:=by
 subst hx
 cases b with
 | none => rfl
 | some q =>
  obtain ⟨y,n⟩:=q
  have:=mJ (h (y,Iv n) List.mem_cons_self)
  simp [this]
theorem aCL {t e:TypeId} {it:TypeInfo} (ht:P.underlying t = some (.slice e)) (hit:P.info? e = some it) {lo hi:Option Value} {A:Option Addr} {len cap l h:Nat} (hlo:lo = some (.int .i64 (l:Int)) ∨ (lo = none ∧ l = 0)) (hhi:hi = some (.int .i64 (h:Int)) ∨ (hi = none ∧ h = len)) (h1:l ≤ h) (h2:h ≤ len) (h3:len ≤ cap) (w:World) :
  (Instr.sliceAt t (.slice A len cap) lo hi none).run P w = .ok (.slice (if cap = l then A else A.map (·.add (l * bZ P e))) (h - l) (cap - l)) w:=by
 have hb:=aJP (P:=P) hlo hhi h1 h2 h3 w
 simp [Instr.sliceAt,Instr.slice,run_underlying ht,hb,run_sizeOf hit,Result.andThen]
theorem Yo {b:Option (Operand × Int)} {n:Nat} {d:Option Nat} (h:(∃ x m,b = some (x,m) ∧ 0 ≤ m ∧ n = m.toNat) ∨ (b = none ∧ some n = d)):(b.map fun q => Value.int .i64 q.2) = some (.int .i64 (n:Int)) ∨ ((b.map fun q => Value.int .i64 q.2) = none ∧ some n = d):=by
 rcases h with ⟨x,m,rfl,h0,rfl⟩ | ⟨rfl,h⟩
 ·left
  simp [Int.toNat_of_nonneg h0]
 ·exact .inr ⟨rfl,h⟩
theorem LT.aJd {x:Operand} {t e:TypeId} {lo hi:Option Operand} {kU kT:Option (Operand × Int)} {q:Bool} {els:List (List PV)} {l h:Nat} (ho:o.op = .slice t x lo hi none) (hlo:lo = kU.map (·.1)) (hhi:hi = kT.map (·.1)) (ht:P.underlying t = some (.slice e)) (hi2:(P.info? e).isSome = true)
  (hl:∀ cs ∈ els,cs.length = bZ P e) (el:(∃ x m,kU = some (x,m) ∧ 0 ≤ m ∧ l = m.toNat) ∨ (kU = none ∧ some l = some 0)) (eh:(∃ x m,kT = some (x,m) ∧ 0 ≤ m ∧ h = m.toNat) ∨ (kT = none ∧ some h = some els.length)) (h1:l ≤ h) (h2:h ≤ els.length) :
  LT P o ((x,Cc (.pv (.xs q els))) :: (EC kU ++ EC kT)) [] (Cc (.pv (.xs q ((els.take h).drop l)))) [] [] []:=.calm fun R B g w a hw hi3 _ => by
 obtain ⟨it,hit⟩:=Option.isSome_iff_exists.1 hi2
 have hv:=in1 hi3
 have e1:lo.map a.eval = kU.map fun q => Value.int .i64 q.2:=QB hlo fun p hp => hi3 p (List.mem_cons_of_mem _ (List.mem_append_left _ hp))
 have e2:hi.map a.eval = kT.map fun q => Value.int .i64 q.2:=QB hhi fun p hp => hi3 p (List.mem_cons_of_mem _ (List.mem_append_right _ hp))
 have Ze:=Yo el
 have Zd:=Yo eh
 rw [← e1] at Ze
 rw [← e2] at Zd
 have el2:lo.map a.eval = some (.int .i64 (l:Int)) ∨ (lo.map a.eval = none ∧ l = 0):=Ze.imp id (fun h => ⟨h.1,by injection h.2⟩)
 have Qb:hi.map a.eval = some (.int .i64 (h:Int)) ∨ (hi.map a.eval = none ∧ h = els.length):=Zd.imp id (fun h => ⟨h.1,by injection h.2⟩)
 obtain ⟨_,hv⟩:=hv
 generalize hav:a.eval x = v at hv
 have fin:∀ (A:Option Addr) (c:Nat),v = .slice A els.length c → els.length ≤ c → ((els.take h).drop l = [] ∨ ∃ ad,A = some ad ∧ DT R B q ad.block ∧ ∃ (s:Nat) (val:Nat → Nat → Value),(∀ cs ∈ els,cs.length = s) ∧ (∀ j k cs p,els[j]? = some cs → cs[k]? = some p → w.cell? (ad.add (j * s + k)) = some (val j k)) ∧ ∀ j k cs p,els[j]? = some cs → cs[k]? = some p → jH w R B p (val j k)) →
   ∃ u,(execOp a.eval o).run P w = .ok (.value u) w ∧ RA P w R B g (Cc (.pv (.xs q ((els.take h).drop l)))) u:=fun A c hA hc hx => by
  have hr:=aCL (P:=P) ht hit (A:=A) el2 Qb h1 h2 hc w
  refine ⟨.slice (if c = l then A else A.map (·.add (l * bZ P e))) (h - l) (c - l),?_,?_⟩
  ·simp only [execOp,ho,hav,hA,Sem.run_bind,Option.map_none,hr,Result.andThen_ok,Sem.run_pure]
  ·refine ⟨rfl,?_⟩
   by_cases hnil:(els.take h).drop l = []
   ·rw [hnil]
    have hz:h - l = 0:=by
     have:=congrArg List.length hnil
     simp at this
     omega
    rw [hz]
    exact .emp
   ·rcases hx with hx | ⟨ad,rfl,hb,s,val,hs,hcell,V3⟩
    ·exact absurd hx hnil
    ·have hlt:l < h:=by
      rcases Nat.lt_or_ge l h with h | h'
      ·exact h
      ·exact absurd (List.drop_eq_nil_of_le (by simp; omega)) hnil
     have hne:¬ c = l:=by omega
     rw [if_neg hne]
     have hget:∀ j,((els.take h).drop l)[j]? = if l + j < h then els[l + j]? else none:=fun j => by
      rw [List.getElem?_drop,List.getElem?_take]
     have hss:s = bZ P e:=by
      have h0:0 < els.length:=by omega
      have hm:=List.getElem_mem h0
      rw [← hs _ hm,hl _ hm]
     refine .xs (s:=s) (fun j k => val (l + j) k) (by simp; omega) (by rw [add_block]; exact hb) (by simp; omega) (fun cs hcs => hs cs (List.mem_of_mem_take (List.mem_of_mem_drop hcs))) (fun j k cs p hj hk => ?_) (fun j k cs p hj hk => ?_)
     ·rw [hget] at hj
      split at hj
      ·have:=hcell _ _ _ _ hj hk
       rw [add_add,← hss]
       rwa [show l * s + (j * s + k) = (l + j) * s + k by rw [Nat.add_mul]; omega]
      ·cases hj
     ·rw [hget] at hj
      split at hj
      ·exact V3 _ _ _ _ hj hk
      ·cases hj
 cases hv with
 | @emp _ A c =>
  have h0:h = 0:=by simp at h2; exact h2
  have hl0:l = 0:=by omega
  subst h0
  subst hl0
  -- the capacity may be anything
  have hr:=aCL (P:=P) ht hit (A:=A) (len:=0) (cap:=c) el2 (Qb.imp id fun h => ⟨h.1,by simpa using h.2⟩) h1 (Nat.le_refl _) (Nat.zero_le _) w
  refine ⟨_,by simp only [execOp,ho,hav,Sem.run_bind,Option.map_none,hr,Result.andThen_ok,Sem.run_pure]; rfl,rfl,jH.emp⟩
 | @xs _ _ ad c s n val hn hb hc hs hcell V3 =>
  subst hn
  exact fin (some ad) c rfl hc (.inr ⟨ad,rfl,hb,s,val,hs,hcell,V3⟩)
variable {α:Type} {enc:α → List PV}
theorem LT.J4 {x:Operand} {t e:TypeId} {lo hi:Option Operand} {kU kT:Option (Operand × Int)} {q:Bool} {xs:List α} {l h:Nat} (ho:o.op = .slice t x lo hi none) (hlo:lo = kU.map (·.1)) (hhi:hi = kT.map (·.1)) (ht:P.underlying t = some (.slice e)) (hi2:(P.info? e).isSome = true)
  (hs:∀ a,(enc a).length = bZ P e) (el:(∃ x m,kU = some (x,m) ∧ 0 ≤ m ∧ l = m.toNat) ∨ (kU = none ∧ some l = some 0)) (eh:(∃ x m,kT = some (x,m) ∧ 0 ≤ m ∧ h = m.toNat) ∨ (kT = none ∧ some h = some xs.length)) (h1:l ≤ h) (h2:h ≤ xs.length) :
  LT P o ((x,Cc (.pv (.xs q (xs.map enc)))) :: (EC kU ++ EC kT)) [] (Cc (.pv (.xs q (((xs.take h).drop l).map enc)))) [] [] []:=by
 have:=LT.aJd (P:=P) (o:=o) (q:=q) (els:=xs.map enc) ho hlo hhi ht hi2 (fun cs hcs => by obtain ⟨a,_,rfl⟩:=List.mem_map.1 hcs; exact hs a) el (eh.imp id fun h => ⟨h.1,by simpa using h.2⟩) h1 (by simpa using h2)
 simpa [List.map_take,List.map_drop] using this
theorem bg.ou {e:TypeId} {cs:List CV} (h:Dz cs):bg (.row e [cs]):=fun c hc x hx => by
 have:c = cs:=by simpa using hc
 subst this
 exact h.spec x hx
end
end Go.Fw
end
section
namespace Go.Fw
section
section
variable {P:Program} {C:Ctx} {σ:Slots} {m:Mem}
theorem RC.junk {w:World} {R B:Nat → Prop} {g:Nat → GS} {x:CV} {v:Value} (h:RC P w R B g x v):RC P w R B g .junk v:=⟨h.1,trivial⟩
theorem St.slot {R B:Nat → Prop} {g:Nat → GS} {a:Act} {w:World} (hs:St P C σ m R B g a w) {t:Nat} {v:AV} (h:RA P w R B g v (a.tmps.getD t undef)):St P C ((t,v) :: σ) m R B g a w:=by
 refine { hs with sl:=?_ }
 intro t' v' hl
 change (bif Nat.beq t t' then some v else lk σ t') = some v' at hl
 cases hb:Nat.beq t t' with
 | true =>
  rw [hb,cond_true] at hl
  injection hl with hl
  subst hl
  rw [← Nat.eq_of_beq_eq_true hb]
  exact h
 | false =>
  rw [hb,cond_false] at hl
  exact hs.sl t' v' hl
theorem St.obj {R B:Nat → Prop} {g:Nat → GS} {a:Act} {w:World} (hs:St P C σ m R B g a w) {n:Nat} {o0 o:Ob} (h0:lk m n = some o0) (h:RO P w R B g n o):St P C σ ((n,o) :: m) R B g a w:=by
 refine { hs with ob:=?_,ow:=?_ }
 ·intro n' o' hl
  change (bif Nat.beq n n' then some o else lk m n') = some o' at hl
  cases hb:Nat.beq n n' with
  | true =>
   rw [hb,cond_true] at hl
   injection hl with hl
   subst hl
   rw [← Nat.eq_of_beq_eq_true hb]
   exact h
  | false =>
   rw [hb,cond_false] at hl
   exact hs.ob n' o' hl
 ·intro n' o' b hl hg
  change (bif Nat.beq n n' then some o else lk m n') = some o' at hl
  cases hb:Nat.beq n n' with
  | true =>
   have:=Nat.eq_of_beq_eq_true hb
   subst this
   exact hs.ow n o0 b h0 hg
  | false =>
   rw [hb,cond_false] at hl
   exact hs.ow n' o' b hl hg
theorem aj.qi (t:Nat) {x:CV} (h:lk σ t = some (Cc x)):aj P C σ m ((t,Cc .junk) :: σ) m:=fun R B g a w hs =>
 ⟨R,B,g,hs.slot (v:=Cc .junk) (RC.junk (x:=x) (hs.sl t _ h))⟩
def yc:List PV → List PV → Prop
 | [],[] => True
 | p :: r,p' :: r' => QW p p' ∧ yc r r'
 | _,_ => False
theorem yc.get:∀ {l l':List PV},yc l l' → l'.length = l.length ∧ ∀ (k:Nat) p p',l[k]? = some p → l'[k]? = some p' → QW p p'
 | [],[],_ => ⟨rfl,fun k p p' h => by simp at h⟩
 | p :: r,p' :: r',h => by
  obtain ⟨h1,h2⟩:=yc.get h.2
  refine ⟨by simp [h1],fun k x x' hx hx' => ?_⟩
  cases k with
  | zero =>
   simp at hx hx'
   subst hx
   subst hx'
   exact h.1
  | succ k => exact h2 k x x' (by simpa using hx) (by simpa using hx')
 | [],_ :: _,h => h.elim
 | _ :: _,[],h => h.elim
theorem QW.iL {α:Type} {enc enc':α → List PV} (h:∀ a,yc (enc a) (enc' a)) {q q':Bool} (hq:q' = true → q = true) (xs:List α):QW (.xs q (xs.map enc)) (.xs q' (xs.map enc')):=by
 refine .xs hq (by simp) (fun j cs cs' h1 h2 => ?_) (fun j k cs cs' p p' h1 h2 h3 h4 => ?_)
 ·rw [List.getElem?_map] at h1 h2
  cases hx:xs[j]? with
  | none => rw [hx] at h1; cases h1
  | some a =>
   rw [hx] at h1 h2
   injection h1 with h1
   injection h2 with h2
   subst h1
   subst h2
   exact (h a).get.1
 ·rw [List.getElem?_map] at h1 h2
  cases hx:xs[j]? with
  | none => rw [hx] at h1; cases h1
  | some a =>
   rw [hx] at h1 h2
   injection h1 with h1
   injection h2 with h2
   subst h1
   subst h2
   exact (h a).get.2 k p p' h3 h4
theorem aIx {α:Type} {enc:α → List PV} (h:∀ a,vC (enc a)) (xs:List α):ah (.xs true (xs.map enc)):=.xs fun cs hcs p hp => by
 obtain ⟨a,_,rfl⟩:=List.mem_map.1 hcs
 exact (h a).spec p hp
theorem St.freeze {R B:Nat → Prop} {g:Nat → GS} {a:Act} {w:World} (hs:St P C σ m R B g a w) {n:Nat} {e:TypeId} {els:List (List PV)} (ho:lk m n = some (.fA e els)) (hn:n ∉ C.pn) (hU:∀ b,C.U0 b → ∃ k ∈ C.pn,(C.g0 k).has b) :
  ∃ R' B' g',iH R B g w [] [n] R' B' g' w ∧ St P C (lK [n] σ) (jV [n] m) R' B' g' a w ∧ ∀ v,RC P w R B g (.loc n 0 els.length) v → jH w R' B' (.xs true els) v:=by
 have hro:eU P w R B g n e (gY els):=hs.ob n _ ho
 have hw:=hs.wf
 let R':Nat → Prop:=fun b => R b ∨ (g n).has b
 let B':Nat → Prop:=fun b => B b ∨ (g n).has b
 have hne:∀ k,k ≠ n → upd g n .dead k = g k:=fun k hk => upd_ne g _ hk
 have hwf:WF R' B' (upd g n .dead) w:=by
  have h0:=hw.upd n .dead (w':=w) (Nat.le_refl _) (fun b hb => hb.elim) (fun i j b hi => by cases hi)
  refine ⟨fun b hb => hb.imp (hw.rb b) id,fun b hb => hb.elim (hw.lt b) fun h => (hw.jZ n b h).2,fun k b hk => ⟨fun hB => ?_,(h0.jZ k b hk).2⟩,h0.jk,h0.nd⟩
  rcases hB with hB | hB
  ·exact (h0.jZ k b hk).1 hB
  ·by_cases hkn:k = n
   ·subst hkn; rw [upd_same] at hk; exact hk.elim
   ·rw [hne k hkn] at hk
    exact hkn (hw.jk k n b hk hB)
 have had:iH R B g w [] [n] R' B' (upd g n .dead) w:=by
  refine ⟨hwf,fun _ h => .inl h,fun _ h => .inl h,rfl,rfl,rfl,Nat.le_refl _,fun _ _ _ => rfl,fun k hk => hne k (by simpa using hk),fun k hk b hb => ?_,fun k hk => by cases hk⟩
  have:k = n:=by simpa using hk
  subst this
  rw [upd_same] at hb
  exact hb.elim
 refine ⟨R',B',upd g n .dead,had,?_,fun v hv => ?_⟩
 ·refine { hs with wf:=hwf,sl:=?_,ob:=?_,ow:=?_,perm:=?_,r0:=?_,pin:=?_ }
  ·intro t v hl
   rw [IC] at hl
   cases hv:lk σ t with
   | none => rw [hv] at hl; cases hl
   | some u =>
    rw [hv] at hl
    injection hl with hl
    subst hl
    exact had.ra hw (hs.sl t u hv)
  ·intro k o hl
   obtain ⟨hk,o0,h0,rfl⟩:=IB [n] m k o hl
   exact had.ro hw hk (by simp) (hs.ob k o0 h0)
  ·intro k o b hl hg
   obtain ⟨hk,o0,h0,_⟩:=IB [n] m k o hl
   rw [hne k (by simpa using hk)] at hg
   exact hs.ow k o0 b h0 hg
  ·intro b hb
   rcases hb with hb | hb
   ·exact hs.perm b hb
   ·rcases hs.ow n _ b ho hb with h | h
    ·exact .inr h
    ·obtain ⟨k,hk,hg⟩:=hU b h
     have:=hw.jk k n b (by rw [hs.pin k hk]; exact hg) hb
     subst this
     exact absurd hk hn
  ·intro b hb
   exact .inl (hs.r0 b hb)
  ·intro k hk
   rw [hne k (fun h => hn (h ▸ hk))]
   exact hs.pin k hk
 ·obtain ⟨_,hv⟩:=hv
  rcases hv with ⟨h1,_,h3,h4⟩ | ⟨_,h2,_⟩ | ⟨b,cap,cur,e',k1,k2,k3,k4,k5,k6⟩
  ·have:els = []:=List.eq_nil_of_length_eq_zero h3
   subst this
   subst h4
   exact .emp
  ·exact absurd rfl h2
  ·rcases hro with ⟨h1,_⟩ | ⟨b',cur',h1,h2,h3,h4,h5⟩
   ·rw [k1] at h1; cases h1
   ·rw [k1] at h1
    injection h1 with h1
    subst h1
    rw [k2] at h2
    injection h2 with h2
    injection h2 with h2 h6 h7
    subst h2
    subst h6
    subst k6
    have hval:∀ j k cs p,els[j]? = some cs → cs[k]? = some p → ∃ u,cur[j * bZ P e' + k]? = some u ∧ RC P w R B g (.pv p) u:=fun j k cs p hj hk => by
     have:=h5 j k (cs.map .pv) (.pv p) (by simp [gY,hj]) (by simp [hk])
     exact this
    refine .xs (s:=bZ P e') (fun j k => cur.getD (j * bZ P e' + k) undef) rfl (.inr (GS.uh k1)) k3 (fun cs hcs => ?_) (fun j k cs p hj hk => ?_) (fun j k cs p hj hk => ?_)
    ·have:=h3 (cs.map .pv) (List.mem_map.2 ⟨cs,hcs,rfl⟩)
     simpa using this
    ·obtain ⟨u,hu,_⟩:=hval j k cs p hj hk
     rw [Nat.zero_mul,add_lit,Nat.zero_add,DW k2,hu]
     simp [Array.getD_eq_getD_getElem?,hu]
    ·obtain ⟨u,hu,hr⟩:=hval j k cs p hj hk
     have:cur.getD (j * bZ P e' + k) undef = u:=by simp [Array.getD_eq_getD_getElem?,hu]
     rw [this]
     exact (had.rc hw (x:=.pv p) hr).2
section
variable {α:Type} {enc:α → List PV}
theorem aj.VH (t n:Nat) {e:TypeId} {xs:List α} {len:Nat} (hU:∀ b,C.U0 b → ∃ k ∈ C.pn,(C.g0 k).has b) (hn:C.pn.elem n = false) (hl:len = xs.length) (h:lk σ t = some (Cc (.loc n 0 len))) (ho:lk m n = some (.fA e (xs.map enc))) :
  aj P C σ m ((t,Cc (.pv (.xs true (xs.map enc)))) :: lK [n] σ) (jV [n] m):=fun R B g a w hs => by
 subst hl
 obtain ⟨R',B',g',had,hs',hv⟩:=hs.freeze ho (fun h => by rw [List.elem_eq_true_of_mem h] at hn; cases hn) hU
 have hr:RC P w R B g (.loc n 0 xs.length) (a.tmps.getD t undef):=hs.sl t _ h
 exact ⟨R',B',g',hs'.slot (v:=Cc (.pv (.xs true (xs.map enc)))) ⟨hr.1,hv _ (by rw [List.length_map]; exact hr)⟩⟩
end
end
end
section
def yu (p k m:Nat):CV → CV
 | .loc n o l => bif Nat.beq n m then .tl p k o l else .loc n o l
 | .pl n o => bif Nat.beq n m then .tpl p k o else .pl n o
 | x => x
def Gp (p k m:Nat):SV → SV
 | .c x => .c (yu p k m x)
 | .agg cs => .agg (cs.map (yu p k m))
def Gn (p k m:Nat):AV → AV
 | .s x => .s (Gp p k m x)
 | .dW xs => .dW (xs.map (Gp p k m))
def zn (p m:Nat):CV → Bool
 | .loc n _ _ => Nat.beq n m || ![m,p].elem n
 | .pl n _ => Nat.beq n m || ![m,p].elem n
 | x => jO [m,p] x
def LU (p m:Nat):SV → Bool
 | .c x => zn p m x
 | .agg cs => cs.all (zn p m)
def LP (p m:Nat):AV → Bool
 | .s x => LU p m x
 | .dW xs => xs.all (LU p m)
section
variable {P:Program} {w:World} {R B:Nat → Prop} {g g':Nat → GS} {X:List Nat} {p k m:Nat}
theorem RC.av {x:CV} {v:Value} (hz:jO X x = true) (hg:∀ n,n ∉ X → g' n = g n) (h:RC P w R B g x v):RC P w R B g' x v:=by
 refine ⟨h.1,?_⟩
 have h2:=h.2
 cases x with
 | pv p => exact h2
 | px q cells => exact h2
 | loc n off len =>
  have hn:=hg n (l9 (by simpa [jO] using hz))
  rcases h2 with ⟨h3,h4⟩ | h3 | ⟨b,cap,cur,e,h3,h4⟩
  ·exact .inl ⟨hn.trans h3,h4⟩
  ·exact .inr (.inl h3)
  ·exact .inr (.inr ⟨b,cap,cur,e,hn.trans h3,h4⟩)
 | pl n off =>
  obtain ⟨b,h3,h4⟩:=h2
  exact ⟨b,(hg n (l9 (by simpa [jO] using hz))).trans h3,h4⟩
 | fn f caps =>
  obtain ⟨vs,h3,h4,h5⟩:=h2
  exact ⟨vs,h3,h4,fun k n hk => by
   obtain ⟨b,h6,h7⟩:=h5 k n hk
   have hc:caps.any X.elem = false:=by simpa [jO] using hz
   have hn:X.elem n = false:=by
    have:=List.any_eq_false.1 hc n (List.mem_of_getElem? hk)
    simpa using this
   exact ⟨b,(hg n (l9 hn)).trans h6,h7⟩⟩
 | mref n =>
  obtain ⟨b,h3,h4⟩:=h2
  exact ⟨b,(hg n (l9 (by simpa [jO] using hz))).trans h3,h4⟩
 | tl q j off len =>
  have hn:=hg q (l9 (by simpa [jO] using hz))
  rcases h2 with ⟨h3,h4⟩ | h3 | ⟨b,cap,cur,e,h3,h4⟩
  ·exact .inl ⟨by rw [hn]; exact h3,h4⟩
  ·exact .inr (.inl h3)
  ·exact .inr (.inr ⟨b,cap,cur,e,by rw [hn]; exact h3,h4⟩)
 | tpl q j off =>
  obtain ⟨b,h3,h4⟩:=h2
  exact ⟨b,by rw [hg q (l9 (by simpa [jO] using hz))]; exact h3,h4⟩
 | junk => trivial
theorem RS.av {x:SV} {v:Value} (hz:Ji X x = true) (hg:∀ n,n ∉ X → g' n = g n) (h:RS P w R B g x v):RS P w R B g' x v:=by
 cases x with
 | c x => exact RC.av hz hg h
 | agg cs =>
  obtain ⟨vs,h1,h2,h3⟩:=h
  exact ⟨vs,h1,h2,fun k x hk => by
   obtain ⟨u,h4,h5⟩:=h3 k x hk
   exact ⟨u,h4,h5.av (List.all_eq_true.1 hz x (List.mem_of_getElem? hk)) hg⟩⟩
theorem eU.av {n:Nat} {e:TypeId} {els:List (List CV)} (hn:n ∉ X) (hz:els.all (·.all (jO X)) = true) (hg:∀ n,n ∉ X → g' n = g n) (h:eU P w R B g n e els):eU P w R B g' n e els:=by
 rcases h with ⟨h1,h2⟩ | ⟨b,cur,h1,h2,h3,h4,h5⟩
 ·exact .inl ⟨(hg n hn).trans h1,h2⟩
 ·exact .inr ⟨b,cur,(hg n hn).trans h1,h2,h3,h4,fun j k cs x hj hk => by
   obtain ⟨u,h6,h7⟩:=h5 j k cs x hj hk
   exact ⟨u,h6,h7.av (List.all_eq_true.1 (List.all_eq_true.1 hz cs (List.mem_of_getElem? hj)) x (List.mem_of_getElem? hk)) hg⟩⟩
theorem RO.av {n:Nat} {o:Ob} (hn:n ∉ X) (hz:oN X o = true) (hg:∀ n,n ∉ X → g' n = g n) (h:RO P w R B g n o):RO P w R B g' n o:=by
 cases o with
 | row e els => exact eU.av hn hz hg h
 | fA e els => exact eU.av hn (by simp [gY,List.all_eq_true,jO]) hg h
 | mp es =>
  obtain ⟨b,uQ,clock,h1,h2⟩:=h
  exact ⟨b,uQ,clock,(hg n hn).trans h1,h2⟩
 | pool e rows =>
  obtain ⟨⟨bs,h1,h2⟩,h3⟩:=h
  exact ⟨⟨bs,(hg n hn).trans h1,h2⟩,by rw [hg n hn]; exact h3⟩
 | dh e p lens => exact eU.av hn (List.all_eq_true.2 fun cs hcs => by
   obtain ⟨j,l,rfl⟩:=Ry hcs
   simpa [jO,oN] using hz) hg h
 | lW e p q fs => exact eU.av hn (List.all_eq_true.2 fun cs hcs => by
   obtain ⟨j,i,a,b,rfl⟩:=Rx hcs
   simpa [jO,oN] using hz) hg h
 | unk => trivial
theorem RC.fo {x:CV} {v:Value} (hz:zn p m x = true) (h1:g' m = (g p).at k) (hg:∀ n,n ∉ [m,p] → g' n = g n) (h:RC P w R B g (yu p k m x) v):RC P w R B g' x v:=by
 cases x with
 | loc n off len =>
  simp only [yu] at h
  cases hb:Nat.beq n m with
  | true =>
   rw [hb,cond_true] at h
   have:=Nat.eq_of_beq_eq_true hb
   subst this
   refine ⟨h.1,?_⟩
   rcases h.2 with ⟨h3,h4⟩ | h3 | ⟨b,cap,cur,e,h3,h4⟩
   ·exact .inl ⟨h1.trans h3,h4⟩
   ·exact .inr (.inl h3)
   ·exact .inr (.inr ⟨b,cap,cur,e,h1.trans h3,h4⟩)
  | false =>
   rw [hb,cond_false] at h
   simp only [zn] at hz
   rw [hb,Bool.false_or] at hz
   exact RC.av (X:=[m,p]) hz hg h
 | pl n off =>
  simp only [yu] at h
  cases hb:Nat.beq n m with
  | true =>
   rw [hb,cond_true] at h
   have:=Nat.eq_of_beq_eq_true hb
   subst this
   obtain ⟨b,h3,h4⟩:=h.2
   exact ⟨h.1,b,h1.trans h3,h4⟩
  | false =>
   rw [hb,cond_false] at h
   simp only [zn] at hz
   rw [hb,Bool.false_or] at hz
   exact RC.av (X:=[m,p]) hz hg h
 | _ => exact RC.av (X:=[m,p]) hz hg h
theorem RC.bk {x:CV} {v:Value} (hz:zn p m x = true) (h1:(g' p).at k = g m) (hg:∀ n,n ∉ [m,p] → g' n = g n) (h:RC P w R B g x v):RC P w R B g' (yu p k m x) v:=by
 cases x with
 | loc n off len =>
  simp only [yu]
  cases hb:Nat.beq n m with
  | true =>
   rw [cond_true]
   have:=Nat.eq_of_beq_eq_true hb
   subst this
   refine ⟨h.1,?_⟩
   rcases h.2 with ⟨h3,h4⟩ | h3 | ⟨b,cap,cur,e,h3,h4⟩
   ·exact .inl ⟨h1.trans h3,h4⟩
   ·exact .inr (.inl h3)
   ·exact .inr (.inr ⟨b,cap,cur,e,h1.trans h3,h4⟩)
  | false =>
   rw [cond_false]
   simp only [zn] at hz
   rw [hb,Bool.false_or] at hz
   exact RC.av (X:=[m,p]) hz hg h
 | pl n off =>
  simp only [yu]
  cases hb:Nat.beq n m with
  | true =>
   rw [cond_true]
   have:=Nat.eq_of_beq_eq_true hb
   subst this
   obtain ⟨b,h3,h4⟩:=h.2
   exact ⟨h.1,b,h1.trans h3,h4⟩
  | false =>
   rw [cond_false]
   simp only [zn] at hz
   rw [hb,Bool.false_or] at hz
   exact RC.av (X:=[m,p]) hz hg h
 | _ => exact RC.av (X:=[m,p]) hz hg h
theorem RS.fo {x:SV} {v:Value} (hz:LU p m x = true) (h1:g' m = (g p).at k) (hg:∀ n,n ∉ [m,p] → g' n = g n) (h:RS P w R B g (Gp p k m x) v):RS P w R B g' x v:=by
 cases x with
 | c x => exact RC.fo hz h1 hg h
 | agg cs =>
  obtain ⟨vs,h2,h3,h4⟩:=h
  refine ⟨vs,h2,by simpa using h3,fun j x hj => ?_⟩
  obtain ⟨u,h5,h6⟩:=h4 j (yu p k m x) (by rw [List.getElem?_map,hj]; rfl)
  exact ⟨u,h5,h6.fo (List.all_eq_true.1 hz x (List.mem_of_getElem? hj)) h1 hg⟩
theorem RA.fo {x:AV} {v:Value} (hz:LP p m x = true) (h1:g' m = (g p).at k) (hg:∀ n,n ∉ [m,p] → g' n = g n) (h:RA P w R B g (Gn p k m x) v):RA P w R B g' x v:=by
 cases x with
 | s x => exact RS.fo hz h1 hg h
 | dW cs =>
  obtain ⟨vs,h2,h3,h4⟩:=h
  refine ⟨vs,h2,by simpa using h3,fun j x hj => ?_⟩
  obtain ⟨u,h5,h6⟩:=h4 j (Gp p k m x) (by rw [List.getElem?_map,hj]; rfl)
  exact ⟨u,h5,RS.fo (List.all_eq_true.1 hz x (List.mem_of_getElem? hj)) h1 hg h6⟩
theorem RS.bk {x:SV} {v:Value} (hz:LU p m x = true) (h1:(g' p).at k = g m) (hg:∀ n,n ∉ [m,p] → g' n = g n) (h:RS P w R B g x v):RS P w R B g' (Gp p k m x) v:=by
 cases x with
 | c x => exact RC.bk hz h1 hg h
 | agg cs =>
  obtain ⟨vs,h2,h3,h4⟩:=h
  refine ⟨vs,h2,by simpa using h3,fun j x hj => ?_⟩
  rw [List.getElem?_map] at hj
  cases hc:cs[j]? with
  | none => rw [hc] at hj; cases hj
  | some y =>
   rw [hc] at hj
   injection hj with hj
   subst hj
   obtain ⟨u,h5,h6⟩:=h4 j y hc
   exact ⟨u,h5,h6.bk (List.all_eq_true.1 hz y (List.mem_of_getElem? hc)) h1 hg⟩
theorem RA.bk {x:AV} {v:Value} (hz:LP p m x = true) (h1:(g' p).at k = g m) (hg:∀ n,n ∉ [m,p] → g' n = g n) (h:RA P w R B g x v):RA P w R B g' (Gn p k m x) v:=by
 cases x with
 | s x => exact RS.bk hz h1 hg h
 | dW cs =>
  obtain ⟨vs,h2,h3,h4⟩:=h
  refine ⟨vs,h2,by simpa using h3,fun j x hj => ?_⟩
  rw [List.getElem?_map] at hj
  cases hc:cs[j]? with
  | none => rw [hc] at hj; cases hj
  | some y =>
   rw [hc] at hj
   injection hj with hj
   subst hj
   obtain ⟨u,h5,h6⟩:=h4 j y hc
   exact ⟨u,h5,RS.bk (List.all_eq_true.1 hz y (List.mem_of_getElem? hc)) h1 hg h6⟩
theorem tC.of {n:Nat} {e:TypeId} {els:List (List PV)} (h:eU P w R B g n e (gY els)):tC P w R B (g n) e els:=by
 rcases h with ⟨h1,h2⟩ | ⟨b,cur,h1,h2,h3,h4,h5⟩
 ·exact .inl ⟨h1,by simpa [gY] using h2⟩
 ·refine .inr ⟨b,cur,h1,h2,fun cs hcs => ?_,by simpa [gY] using h4,fun j k cs x hj hk => ?_⟩
  ·have:=h3 (cs.map .pv) (List.mem_map.2 ⟨cs,hcs,rfl⟩)
   simpa using this
  ·obtain ⟨u,hu,hr⟩:=h5 j k (cs.map .pv) (.pv x) (by simp [gY,hj]) (by simp [hk])
   exact ⟨u,hu,hr.2⟩
theorem tC.row {n:Nat} {s:GS} {e:TypeId} {els:List (List PV)} (h:tC P w R B s e els) (hn:g n = s):eU P w R B g n e (gY els):=by
 rcases h with ⟨h1,h2⟩ | ⟨b,cur,h1,h2,h3,h4,h5⟩
 ·exact .inl ⟨hn.trans h1,by rw [h2]; rfl⟩
 ·refine .inr ⟨b,cur,hn.trans h1,h2,fun cs hcs => ?_,by simpa [gY] using h4,fun j k cs x hj hk => ?_⟩
  ·obtain ⟨c0,hc0,rfl⟩:=List.mem_map.1 hcs
   simpa using h3 c0 hc0
  ·simp only [gY,List.getElem?_map] at hj
   cases hc:els[j]? with
   | none => rw [hc] at hj; cases hj
   | some c0 =>
    rw [hc] at hj
    injection hj with hj
    subst hj
    rw [List.getElem?_map] at hk
    cases hc2:c0[k]? with
    | none => rw [hc2] at hk; cases hk
    | some y =>
     rw [hc2] at hk
     injection hk with hk
     subst hk
     obtain ⟨u,hu,hr⟩:=h5 j k c0 y hc hc2
     exact ⟨u,hu,hr.oneCell,hr⟩
def GS.hole (s:GS) (k:Nat):GS:=match s with
 | .pool bs => .pool (bs.set k none)
 | s => s
theorem GS.Lj {s:GS} {k j:Nat} (h:j ≠ k):(s.hole k).at j = s.at j:=by
 cases s with
 | pool bs => simp only [GS.hole,GS.at,List.getElem?_set_ne (fun e => h e.symm)]
 | _ => rfl
theorem GS.Vj {s:GS} {k b:Nat} (h:(s.hole k).at k = .blk b):False:=by
 cases s with
 | pool bs =>
  simp only [GS.hole,GS.at,List.getElem?_set] at h
  split at h
  ·rename_i o b2 hb
   by_cases hl:k < bs.length <;> simp [hl] at hb
  ·cases h
  ·cases h
 | _ => cases h
theorem GS.Rw {s:GS} {bs:List (Option Nat)} (hs:s = .pool bs) {b:Nat} (h:s.has b):∃ j,s.at j = .blk b:=by
 subst hs
 obtain ⟨j,hj⟩:=List.mem_iff_getElem?.1 (show some b ∈ bs from h)
 exact ⟨j,by simp only [GS.at,hj]⟩
theorem GS.aGH {s:GS} {bs:List (Option Nat)} (hs:s = .pool bs) {k b:Nat} (h:(s.hole k).has b):s.has b ∧ ∃ j,j ≠ k ∧ s.at j = .blk b:=by
 obtain ⟨j,hj⟩:=GS.Rw (s:=s.hole k) (bs:=bs.set k none) (by rw [hs]; rfl) h
 have hne:j ≠ k:=fun e => by rw [e] at hj; exact GS.Vj hj
 rw [GS.Lj hne] at hj
 exact ⟨GS.tH hj,j,hne,hj⟩
theorem GS.aAK {s:GS} {bs:List (Option Nat)} (hs:s = .pool bs) {k b:Nat} (h:s.has b):(s.hole k).has b ∨ s.at k = .blk b:=by
 obtain ⟨j,hj⟩:=GS.Rw hs h
 by_cases hk:j = k
 ·subst hk; exact .inr hj
 ·left
  rw [← GS.Lj (k:=k) hk] at hj
  exact GS.tH hj
def wz (p k m:Nat) (g:Nat → GS):Nat → GS:=fun n => if n = m then (g p).at k else if n = p then (g p).hole k else g n
theorem EO:wz p k m g m = (g p).at k:=if_pos rfl
theorem LQ (h:p ≠ m):wz p k m g p = (g p).hole k:=by unfold wz; rw [if_neg h,if_pos rfl]
theorem G6 {n:Nat} (h:n ∉ [m,p]):wz p k m g n = g n:=by
 unfold wz
 rw [if_neg fun e => h (by simp [e]),if_neg fun e => h (by simp [e])]
theorem GS.aDq {s:GS} {k b:Nat} (h:(s.at k).has b):s.at k = .blk b:=by
 cases s with
 | pool bs =>
  simp only [GS.at] at h ⊢
  cases hb:bs[k]? with
  | none => rw [hb] at h; exact h.elim
  | some o =>
   rw [hb] at h
   cases o with
   | none => exact h.elim
   | some c =>
    have:b = c:=h
    rw [this]
 | _ => exact h.elim
theorem GS.at_at {s:GS} {k j b:Nat} (h:(s.at k).at j = .blk b):False:=by
 cases s with
 | pool bs =>
  simp only [GS.at] at h
  cases hb:bs[k]? with
  | none => rw [hb] at h; cases h
  | some o => rw [hb] at h; cases o <;> cases h
 | _ => cases h
theorem Ql (hw:WF R B g w) {bs:List (Option Nat)} (hs:g p = .pool bs) (hp:p ≠ m) {n b:Nat} (h:(wz p k m g n).has b):(n = m ∧ (g p).at k = .blk b) ∨ (n = p ∧ ∃ j,j ≠ k ∧ (g p).at j = .blk b) ∨ (n ∉ [m,p] ∧ (g n).has b):=by
 by_cases h1:n = m
 ·subst h1
  rw [EO] at h
  exact .inl ⟨rfl,GS.aDq h⟩
 ·by_cases h2:n = p
  ·subst h2
   rw [LQ hp] at h
   exact .inr (.inl ⟨rfl,(GS.aGH hs h).2⟩)
  ·have:n ∉ [m,p]:=by simp [h1,h2]
   rw [G6 this] at h
   exact .inr (.inr ⟨this,h⟩)
theorem Qm (hw:WF R B g w) {bs:List (Option Nat)} (hs:g p = .pool bs) (hp:p ≠ m):WF R B (wz p k m g) w:=by
 refine ⟨hw.rb,hw.lt,fun n b h => ?_,fun n j b h1 h2 => ?_,fun n i j b h1 h2 => ?_⟩
 ·rcases Ql hw hs hp h with ⟨_,h⟩ | ⟨_,j,_,h⟩ | ⟨_,h⟩
  ·exact hw.jZ p b (GS.tH h)
  ·exact hw.jZ p b (GS.tH h)
  ·exact hw.jZ n b h
 ·rcases Ql hw hs hp h1 with ⟨rfl,h3⟩ | ⟨rfl,i,hi,h3⟩ | ⟨hn,h3⟩ <;> rcases Ql hw hs hp h2 with ⟨rfl,h4⟩ | ⟨rfl,i2,hi2,h4⟩ | ⟨hj,h4⟩
  ·rfl
  ·exact absurd (hw.nd _ _ _ b h4 h3) hi2
  ·have:=hw.jk p j b (GS.tH h3) h4
   subst this
   exact absurd (by simp) hj
  ·exact absurd (hw.nd _ _ _ b h3 h4) hi
  ·rfl
  ·have:=hw.jk n j b (GS.tH h3) h4
   subst this
   exact absurd (by simp) hj
  ·have:=hw.jk p n b (GS.tH h4) h3
   subst this
   exact absurd (by simp) hn
  ·have:=hw.jk j n b (GS.tH h4) h3
   subst this
   exact absurd (by simp) hn
  ·exact hw.jk n j b h3 h4
 ·by_cases e1:n = m
  ·subst e1
   rw [EO] at h1
   exact (GS.at_at h1).elim
  ·by_cases e2:n = p
   ·subst e2
    rw [LQ hp] at h1 h2
    by_cases hi:i = k
    ·subst hi; exact (GS.Vj h1).elim
    ·by_cases hj:j = k
     ·subst hj; exact (GS.Vj h2).elim
     ·rw [GS.Lj hi] at h1
      rw [GS.Lj hj] at h2
      exact hw.nd _ _ _ b h1 h2
   ·have:n ∉ [m,p]:=by simp [e1,e2]
    rw [G6 this] at h1 h2
    exact hw.nd _ _ _ b h1 h2
def Dj (p m:Nat) (g g':Nat → GS):Nat → GS:=fun n => if n = m then .dead else if n = p then g p else g' n
theorem aCy:Dj p m g g' m = .dead:=if_pos rfl
theorem J6 (h:p ≠ m):Dj p m g g' p = g p:=by unfold Dj; rw [if_neg h,if_pos rfl]
theorem PK {n:Nat} (h:n ∉ [m,p]):Dj p m g g' n = g' n:=by
 unfold Dj
 rw [if_neg fun e => h (by simp [e]),if_neg fun e => h (by simp [e])]
def xR (m p n:Nat):Nat:=bif Nat.beq n m then p else n
theorem aKF (hw:WF R B g w) {bs:List (Option Nat)} (hs:g p = .pool bs) (hp:p ≠ m) {W X:List Nat} {R' B':Nat → Prop} {w':World} (had:iH R B (wz p k m g) w W X R' B' g' w') (Qu:p ∉ W) (Ll:p ∉ X) (Lh:m ∉ X) :
  iH R B g w (W.map (xR m p)) (m :: X) R' B' (Dj p m g g') w':=by
 have hgm:g' m = (g p).at k:=(had.names m Lh).trans EO
 have Ld:g' p = (g p).hole k:=(had.names p Ll).trans (LQ hp)
 have hcase:∀ n b,(Dj p m g g' n).has b → (n = p ∧ ((g' p).has b ∨ (g' m).has b)) ∨ (n ∉ [m,p] ∧ (g' n).has b):=fun n b h => by
  by_cases e1:n = m
  ·subst e1; rw [aCy] at h; exact h.elim
  ·by_cases e2:n = p
   ·subst e2
    rw [J6 hp] at h
    refine .inl ⟨rfl,?_⟩
    rcases GS.aAK (k:=k) hs h with h | h
    ·exact .inl (by rw [Ld]; exact h)
    ·exact .inr (by rw [hgm,h]; rfl)
   ·have:n ∉ [m,p]:=by simp [e1,e2]
    rw [PK this] at h
    exact .inr ⟨this,h⟩
 have hW:∀ n ∈ W,∀ b,(wz p k m g n).has b → (g (xR m p n)).has b:=fun n hn b h => by
  rcases Ql hw hs hp h with ⟨rfl,h'⟩ | ⟨rfl,_⟩ | ⟨hnn,h'⟩
  ·have:xR n p n = p:=by unfold xR; rw [Nat.beq_refl]; rfl
   rw [this]
   exact GS.tH h'
  ·exact absurd hn Qu
  ·have:xR m p n = n:=by
    unfold xR
    have:Nat.beq n m = false:=by
     cases hb:Nat.beq n m with
     | false => rfl
     | true => exact absurd (by simp [Nat.eq_of_beq_eq_true hb]) hnn
    rw [this]; rfl
   rw [this]
   exact h'
 have hWr:∀ n ∈ W.map (xR m p),n ∉ m :: X → ∀ b,(g n).has b → ∃ j,j ∉ X ∧ (wz p k m g j).has b:=fun n hn vK b hb => by
  obtain ⟨j,hj,rfl⟩:=List.mem_map.1 hn
  by_cases e:xR m p j = p
  ·rw [e] at hb
   rcases GS.aAK (k:=k) hs hb with h | h
   ·exact ⟨p,Ll,by rw [LQ hp]; exact h⟩
   ·exact ⟨m,Lh,by rw [EO,h]; rfl⟩
  ·have ej:xR m p j = j:=by
    unfold xR at e ⊢
    cases hb2:Nat.beq j m with
    | false => rfl
    | true => rw [hb2] at e; exact absurd rfl e
   rw [ej] at hb vK e
   have hnn:j ∉ [m,p]:=by
    simp only [List.mem_cons,List.not_mem_nil,or_false,not_or] at vK ⊢
    exact ⟨vK.1,e⟩
   exact ⟨j,fun h => vK (List.mem_cons_of_mem _ h),by rw [G6 hnn]; exact hb⟩
 have hfw:=Qm (k:=k) hw hs hp
 refine ⟨⟨had.wf.rb,had.wf.lt,fun n b h => ?_,fun n j b h1 h2 => ?_,fun n i j b h1 h2 => ?_⟩,had.r,had.b,had.os,had.tape,had.output,had.size,fun b hb mg => had.heap b hb fun n hn h => mg _ (List.mem_map.2 ⟨n,hn,rfl⟩) (hW n hn b h),fun n hn => ?_,fun n hn b hb => ?_,fun n mg vK b cur e hg hh => ?_⟩
 ·rcases hcase n b h with ⟨_,h | h⟩ | ⟨_,h⟩ <;> exact had.wf.jZ _ b h
 ·have key:∀ n j,n = p → j ∉ [m,p] → ((g' p).has b ∨ (g' m).has b) → (g' j).has b → False:=fun n j _ hj h1 h2 => by
   rcases h1 with h1 | h1
   ·have:=had.wf.jk _ _ b h1 h2; subst this; exact hj (by simp)
   ·have:=had.wf.jk _ _ b h1 h2; subst this; exact hj (by simp)
  rcases hcase n b h1 with ⟨e1,h3⟩ | ⟨hn,h3⟩ <;> rcases hcase j b h2 with ⟨e2,h4⟩ | ⟨hj,h4⟩
  ·rw [e1,e2]
  ·exact (key n j e1 hj h3 h4).elim
  ·exact (key j n e2 hn h4 h3).elim
  ·exact had.wf.jk n j b h3 h4
 ·by_cases e1:n = m
  ·subst e1; rw [aCy] at h1; cases h1
  ·by_cases e2:n = p
   ·subst e2
    rw [J6 hp] at h1 h2
    exact hw.nd _ _ _ b h1 h2
   ·have:n ∉ [m,p]:=by simp [e1,e2]
    rw [PK this] at h1 h2
    exact had.wf.nd _ _ _ b h1 h2
 ·simp only [List.mem_cons,not_or] at hn
  by_cases e2:n = p
  ·subst e2; exact J6 hp
  ·have:n ∉ [m,p]:=by simp [hn.1,e2]
   rw [PK this,had.names n hn.2,G6 this]
 ·rcases hcase n b hb with ⟨e,_⟩ | ⟨hnn,h⟩
  ·subst e
   rcases List.mem_cons.1 hn with h | h
   ·exact absurd h hp
   ·exact absurd h Ll
  ·have vK:n ∈ X:=by
    rcases List.mem_cons.1 hn with h | h
    ·subst h; exact absurd (by simp) hnn
    ·exact h
   rcases had.fresh n vK b h with h | ⟨j,hj,h⟩
   ·exact .inl h
   ·exact .inr ⟨_,List.mem_map.2 ⟨j,hj,rfl⟩,hW j hj b h⟩
 ·obtain ⟨j,hjX,hj⟩:=hWr n mg vK b hg
  exact had.SK hfw hjX hj hh
def VB (p m:Nat) (ins:List (Operand × AV)) (J7:Mem) (v:AV) (Gw:Mem) (W X:List Nat):Bool :=
 !Nat.beq p m && ins.all (fun q => LP p m q.2) && J7.all (fun q => ![m,p].elem q.1 && oN [m,p] q.2) && LP p m v && Gw.all (fun q => ![m,p].elem q.1 && oN [m,p] q.2) && !W.elem p && !X.elem p && !X.elem m
theorem LT.focus {o:Oper} {ins:List (Operand × AV)} {J7 Gw:Mem} {v:AV} {W X:List Nat} {e:TypeId} {els els':List (List PV)} {rows:List (List (List PV))}
  (h:LT P o ins ((m,.fA e els) :: J7) v ((m,.fA e els') :: Gw) W X) (hk:rows[k]? = some els) (hc:VB p m ins J7 v Gw W X = true) :
  LT P o (ins.map fun q => (q.1,Gn p k m q.2)) ((p,.pool e rows) :: J7) (Gn p k m v) ((p,.pool e (rows.set k els')) :: Gw) (W.map (xR m p)) (m :: X):=by
 simp only [VB,Bool.and_eq_true,Bool.not_eq_true'] at hc
 obtain ⟨⟨⟨⟨⟨⟨⟨hp,hins⟩,hus⟩,hv⟩,hdf⟩,hW⟩,hXp⟩,hXm⟩:=hc
 have hp:=Nat.ne_of_beq_eq_false hp
 have Qu:=l9 hW
 have Ll:=l9 hXp
 have Lh:=l9 hXm
 intro R B g w a hw hi hu K Q hK
 obtain ⟨⟨bs,hs,hbl⟩,hrows⟩:=hu (p,.pool e rows) List.mem_cons_self
 refine h R B (wz p k m g) w a (Qm hw hs hp) (fun q hq => ?_) (fun q hq => ?_) K Q fun u R' B' g' w' had hR hv' hob => ?_
 ·exact RA.fo (List.all_eq_true.1 hins q hq) EO (fun n hn => G6 hn) (hi (q.1,Gn p k m q.2) (List.mem_map.2 ⟨q,hq,rfl⟩))
 ·cases hq with
  | head => exact (hrows k els hk).row EO
  | tail _ hq =>
   have h1:=List.all_eq_true.1 hus q hq
   simp only [Bool.and_eq_true,Bool.not_eq_true'] at h1
   exact RO.av (l9 h1.1) h1.2 (fun n hn => G6 hn) (hu q (List.mem_cons_of_mem _ hq))
 ·have hgm:g' m = (g p).at k:=(had.names m Lh).trans EO
  have LX:=aKF hw hs hp had Qu Ll Lh
  refine hK u R' B' _ w' LX hR (fun hd => RA.bk hv (by rw [J6 hp]; exact hgm.symm) (fun n hn => PK hn) (hv' hd)) fun q hq => ?_
  cases hq with
  | head =>
   refine ⟨⟨bs,(J6 hp).trans hs,by simpa using hbl⟩,fun j jE hj => ?_⟩
   show tC P w' R' B' ((Dj p m g g' p).at j) e jE
   rw [J6 hp]
   rw [List.getElem?_set] at hj
   by_cases hjk:k = j
   ·subst hjk
    rw [if_pos rfl] at hj
    split at hj
    ·injection hj with hj
     subst hj
     have:=tC.of (hob (m,.fA e els') List.mem_cons_self)
     rw [← hgm]
     exact this
    ·cases hj
   ·rw [if_neg hjk] at hj
    rcases hrows j jE hj with h1 | ⟨b,cur,h1,h2,h3,h4,h5⟩
    ·exact .inl h1
    ·have hb:(wz p k m g p).has b:=by
      rw [LQ hp]
      exact GS.tH (k:=j) (by rw [GS.Lj (fun e => hjk e.symm)]; exact h1)
     refine .inr ⟨b,cur,h1,(had.jZ (Qm hw hs hp) Qu hb).trans h2,h3,h4,fun i k' cs x hi hk' => ?_⟩
     obtain ⟨u,hu1,hu2⟩:=h5 i k' cs x hi hk'
     exact ⟨u,hu1,had.pv (Qm hw hs hp) hu2⟩
  | tail _ hq =>
   have h1:=List.all_eq_true.1 hdf q hq
   simp only [Bool.and_eq_true,Bool.not_eq_true'] at h1
   exact RO.av (l9 h1.1) h1.2 (fun n hn => PK hn) (hob q (List.mem_cons_of_mem _ hq))
end
end
section
section
variable {P:Program} {o:Oper} {α:Type} {enc:α → List PV}
def dV {α:Type} (rows:List (List α)):List Nat:=rows.map List.length
def rowsOf {α:Type} (enc:α → List PV) (rows:List (List α)):List (List (List PV)):=rows.map fun r => r.map enc
theorem X4 {p:Nat} {lens:List Nat} {j l:Nat} (h:lens[j]? = some l):(iJ p lens)[j]? = some [.tl p j 0 l]:=by
 unfold iJ
 rw [List.getElem?_mapIdx,h]
 rfl
theorem aCj {p:Nat} {lens:List Nat} {j:Nat} {cs:List CV} (h:(iJ p lens)[j]? = some cs):∃ l,lens[j]? = some l ∧ cs = [.tl p j 0 l]:=by
 unfold iJ at h
 rw [List.getElem?_mapIdx] at h
 cases hl:lens[j]? with
 | none => rw [hl] at h; cases h
 | some l => rw [hl] at h; injection h with h; exact ⟨l,rfl,h.symm⟩
theorem PG (p:Nat) (lens:List Nat):(iJ p lens).length = lens.length:=by simp [iJ]
theorem aJu (p:Nat) (lens:List Nat) (l:Nat):iJ p lens ++ [[.tl p lens.length 0 l]] = iJ p (lens ++ [l]):=by
 unfold iJ
 rw [List.mapIdx_append]
 simp
theorem LT.X8 {ins:List (Operand × AV)} {v:AV} {df:Mem} {n p:Nat} {e:TypeId} {lens:List Nat} {W X:List Nat} (h:LT P o ins [(n,.row e (iJ p lens))] v df W X):LT P o ins [(n,.dh e p lens)] v df W X :=
 h.conv (fun _ _ _ _ h => Jl (ob:=.row e (iJ p lens)) (xW (ob:=.dh e p lens) h)) fun _ _ _ _ h => h
theorem LT.BV {x y:Operand} {t e:TypeId} {i:Int} {n p len:Nat} {rows:List (List α)} {r:List α} (hl:len = rows.length) (ho:o.op = .indexAddr t x y) (h:uP P t = some e) (hi:idx rows i = some r) :
  LT P o [(x,Cc (.loc n 0 len)),(y,Iv i)] [(n,.dh e p (dV rows))] (Cc (.pl n (i.toNat * bZ P e))) [] [] []:=by
 subst hl
 exact LT.X8 (LT.WV ho h (Hu hi) (RG hi))
theorem LT.Dv {x:Operand} {t e:TypeId} {n p off:Nat} {i:Int} {rows:List (List α)} {r:List α} (ho:o.op = .load t x) (h:kZ P t = some false) (hi:idx rows i = some r) (ha:off = i.toNat * bZ P e) :
  LT P o [(x,Cc (.pl n off))] [(n,.dh e p (dV rows))] (Cc (.tl p i.toNat 0 r.length)) [] [] [] :=
 LT.X8 (LT.Wq ho h (X4 (by rw [dV,List.getElem?_map,qC hi]; rfl)) rfl (by rw [ha,Nat.add_zero]))
end
end
section
section
variable {P:Program} {C:Ctx} {σ:Slots} {mm:Mem}
def adC (p k m:Nat) (x x2:CV):Prop:=(∃ o l,x = .loc m o l ∧ x2 = .tl p k o l) ∨ (x2 = x ∧ ((∃ q o l,q ≠ k ∧ x = .tl p q o l) ∨ jO [m,p] x = true))
def obS:Option Nat → GS
 | some b => .blk b
 | none => .nil
theorem aj.aDj {k n m p:Nat} {e e2:TypeId} {els:List (List PV)} {rows Ju:List (List (List PV))} {cells cells2:List (List CV)}
  (hm:lk mm m = some (.fA e2 els)) (hp:lk mm p = some (.pool e2 rows)) (hn:lk mm n = some (.row e cells))
  (hd:(!Nat.beq p m && !Nat.beq n p && !Nat.beq n m && !C.pn.elem m && !C.pn.elem p) = true)
  (hbs:∀ (bs:List (Option Nat)) ob,bs.length = rows.length → ∃ o8:List (Option Nat),o8.length = Ju.length ∧ ∀ j,(GS.pool o8).at j = if j = k then obS ob else (GS.pool bs).at j)
  (hr2:∀ (j:Nat) jE,Ju[j]? = some jE → (j = k ∧ jE = els) ∨ (j ≠ k ∧ rows[j]? = some jE))
  (hl:cells2.length = cells.length) (hc:∀ (j:Nat) cs2,cells2[j]? = some cs2 → ∃ cs,cells[j]? = some cs ∧ cs2.length = cs.length ∧ ∀ (i:Nat) x2,cs2[i]? = some x2 → ∃ x,cs[i]? = some x ∧ adC p k m x x2) :
  aj P C σ mm (lK [m,p] σ) ((p,.pool e2 Ju) :: (n,.row e cells2) :: jV [m,p] mm):=fun R B g a w hs => by
 simp only [Bool.and_eq_true,Bool.not_eq_true'] at hd
 obtain ⟨⟨⟨⟨hpm,hnp⟩,hnm⟩,hm1⟩,hp1⟩:=hd
 have hpm:=Nat.ne_of_beq_eq_false hpm
 have hnp:=Nat.ne_of_beq_eq_false hnp
 have hnm:=Nat.ne_of_beq_eq_false hnm
 have hm1:=l9 hm1
 have hp1:=l9 hp1
 have hw:=hs.wf
 have hrm:tC P w R B (g m) e2 els:=tC.of (hs.ob m _ hm)
 obtain ⟨⟨bs,Ld,hbl⟩,hrows⟩:=hs.ob p _ hp
 have hrn:eU P w R B g n e cells:=hs.ob n _ hn
 obtain ⟨ob,hob⟩:∃ ob,g m = obS ob:=by
  rcases hrm with ⟨h1,_⟩ | ⟨b,_,h1,_⟩
  ·exact ⟨none,h1⟩
  ·exact ⟨some b,h1⟩
 obtain ⟨o8,aFY,hat⟩:=hbs bs ob hbl
 have hat':∀ j,(GS.pool o8).at j = if j = k then g m else (g p).at j:=fun j => by rw [hat j,hob,Ld]
 have hhas:∀ b,(GS.pool o8).has b → (g p).has b ∨ (g m).has b:=fun b hb => by
  obtain ⟨j,hj⟩:=GS.Rw rfl hb
  rw [hat' j] at hj
  split at hj
  ·exact .inr (GS.uh hj)
  ·exact .inl (GS.tH hj)
 let g1:Nat → GS:=upd g m .dead
 have aHk:WF R B g1 w:=hw.upd m .dead (Nat.le_refl _) (fun b hb => hb.elim) (fun i j b hi => by cases hi)
 have hg1:∀ q,q ≠ m → g1 q = g q:=fun q hq => upd_ne g _ hq
 let g2:Nat → GS:=upd g1 p (.pool o8)
 have y9:g2 p = .pool o8:=upd_same ..
 have aGA:g2 m = .dead:=(upd_ne g1 _ (fun e => hpm e.symm)).trans (upd_same ..)
 have hg2:∀ q,q ≠ m → q ≠ p → g2 q = g q:=fun q h1 h2 => (upd_ne g1 _ h2).trans (hg1 q h1)
 have MI:WF R B g2 w:=aHk.upd p _ (Nat.le_refl _) (fun b hb => by
  rcases hhas b hb with h | h
  ·refine ⟨(hw.jZ p b h).1,(hw.jZ p b h).2,fun q hq hq2 => ?_⟩
   by_cases e:q = m
   ·subst e
    have:g1 q = .dead:=upd_same ..
    rw [this] at hq2; exact hq2
   ·rw [hg1 q e] at hq2
    exact hq (hw.jk q p b hq2 h)
  ·refine ⟨(hw.jZ m b h).1,(hw.jZ m b h).2,fun q hq hq2 => ?_⟩
   by_cases e:q = m
   ·subst e
    have:g1 q = .dead:=upd_same ..
    rw [this] at hq2; exact hq2
   ·rw [hg1 q e] at hq2
    exact e (hw.jk q m b hq2 h)) (fun i j b hi hj => by
  rw [hat' i] at hi
  rw [hat' j] at hj
  split at hi <;> split at hj
  ·omega
  ·exact absurd (hw.jk m p b (GS.uh hi) (GS.tH hj)).symm hpm
  ·exact absurd (hw.jk m p b (GS.uh hj) (GS.tH hi)).symm hpm
  ·exact hw.nd p i j b hi hj)
 have had:iH R B g w [m,p,n] [m,p] R B g2 w:=by
  refine ⟨MI,fun _ h => h,fun _ h => h,rfl,rfl,rfl,Nat.le_refl _,fun _ _ _ => rfl,fun q hq => ?_,fun q hq b hb => ?_,fun q hq hqX b cur e' hg hh => ⟨cur,hh,rfl⟩⟩
  ·simp at hq
   exact hg2 q hq.1 hq.2
  ·have:q = m ∨ q = p:=by simpa using hq
   rcases this with rfl | rfl
   ·rw [aGA] at hb; exact hb.elim
   ·rw [y9] at hb
    rcases hhas b hb with h | h
    ·exact .inr ⟨q,by simp,h⟩
    ·exact .inr ⟨m,by simp,h⟩
 have hst:=hs.step (us:=[(m,.fA e2 els),(p,.pool e2 rows),(n,.row e cells)]) (df:=[(p,.pool e2 Ju),(n,.row e cells2)]) (W:=[m,p,n]) (X:=[m,p]) (d:=none) (v:=.dW []) (u:=undef) ⟨hm,hp,hn,trivial⟩
  (fun q hq => by
   have:q = m ∨ q = p ∨ q = n:=by simpa using hq
   rcases this with rfl | rfl | rfl
   ·exact ⟨.inl (by simp),_,List.mem_cons_self⟩
   ·exact ⟨.inl (by simp),_,List.mem_cons_of_mem _ List.mem_cons_self⟩
   ·exact ⟨.inr (by simp),_,List.mem_cons_of_mem _ (List.mem_cons_of_mem _ List.mem_cons_self)⟩)
  (fun q hq => by
   have:q = (p,.pool e2 Ju) ∨ q = (n,.row e cells2):=by simpa using hq
   rcases this with rfl | rfl
   ·exact .inl (by simp)
   ·exact .inr (by simp)) rfl (fun q hq => by
   have:q = m ∨ q = p:=by simpa using hq
   rcases this with rfl | rfl
   ·exact hm1
   ·exact hp1) had (fun b hb => .inl hb) (fun h => by cases h) (fun q hq => by
   have:q = (p,.pool e2 Ju) ∨ q = (n,.row e cells2):=by simpa using hq
   rcases this with rfl | rfl
   ·refine ⟨⟨o8,y9,aFY⟩,fun j jE hj => ?_⟩
    show tC P w R B ((g2 p).at j) e2 jE
    rw [y9,hat' j]
    rcases hr2 j jE hj with ⟨h1,h2⟩ | ⟨h1,h2⟩
    ·rw [if_pos h1,h2]; exact hrm
    ·rw [if_neg h1]; exact hrows j jE h2
   ·show eU P w R B g2 n e cells2
    have hgn:g2 n = g n:=hg2 n hnm hnp
    rcases hrn with ⟨h1,h2⟩ | ⟨b,cur,h1,h2,h3,h4,h5⟩
    ·exact .inl ⟨hgn.trans h1,List.eq_nil_of_length_eq_zero (by rw [hl,h2]; rfl)⟩
    ·refine .inr ⟨b,cur,hgn.trans h1,h2,fun cs2 hcs2 => ?_,by rw [hl]; exact h4,fun j i cs2 x2 hj hi => ?_⟩
     ·obtain ⟨j,hj⟩:=List.mem_iff_getElem?.1 hcs2
      obtain ⟨cs,q1,q2,_⟩:=hc j cs2 hj
      rw [q2]
      exact h3 cs (List.mem_of_getElem? q1)
     ·obtain ⟨cs,q1,_,q3⟩:=hc j cs2 hj
      obtain ⟨x,q4,q5⟩:=q3 i x2 hi
      obtain ⟨u,hu,hr⟩:=h5 j i cs x q1 q4
      refine ⟨u,hu,?_⟩
      rcases q5 with ⟨o,l,rfl,rfl⟩ | ⟨rfl,⟨q,o,l,hq,rfl⟩ | hz⟩
      ·refine ⟨hr.1,?_⟩
       have hk:(g2 p).at k = g m:=by rw [y9,hat' k,if_pos rfl]
       rcases hr.2 with ⟨z1,z2⟩ | z1 | ⟨b2,cap,Kt,e3,z1,z2⟩
       ·exact .inl ⟨hk.trans z1,z2⟩
       ·exact .inr (.inl z1)
       ·exact .inr (.inr ⟨b2,cap,Kt,e3,hk.trans z1,z2⟩)
      ·refine ⟨hr.1,?_⟩
       have hk:(g2 p).at q = (g p).at q:=by rw [y9,hat' q,if_neg hq]
       rcases hr.2 with ⟨z1,z2⟩ | z1 | ⟨b2,cap,Kt,e3,z1,z2⟩
       ·exact .inl ⟨hk.trans z1,z2⟩
       ·exact .inr (.inl z1)
       ·exact .inr (.inr ⟨b2,cap,Kt,e3,hk.trans z1,z2⟩)
      ·exact RC.av hz (fun q hq => by
        simp at hq
        exact hg2 q hq.1 hq.2) hr)
 exact ⟨R,B,g2,hst⟩
end
end
end Go.Fw
end
