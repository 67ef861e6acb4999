/- Parts of a proof that a law of the program holds: what the program computes, and why that is right. -/
import Derived.KernelRfl
import Derived.MapKept
import Derived.Carry
import Derived.ChangeMaps5
import Derived.Test.YtdmlaldifbmkpaaGreatZFnSpecial0
set_option linter.unusedVariables false
set_option linter.unusedSimpArgs false
set_option linter.unnecessarySimpa false
set_option maxRecDepth 100000
set_option maxHeartbeats 8000000
section
namespace Go.Fw
section
inductive ah:PV → Prop
 | sc {v:Value}:ah (.sc v)
 | xs {els:List (List PV)} (h:∀ cs ∈ els,∀ p ∈ cs,ah p):ah (.xs true els)
def Aa:CV → Prop
 | .pv p => ah p
 | .px q cells => q = true ∧ ∀ p ∈ cells,ah p
 | _ => True
def Ld:SV → Prop
 | .c x => Aa x
 | .agg cs => ∀ x ∈ cs,Aa x
def QI:AV → Prop
 | .s x => Ld x
 | .dM xs => ∀ x ∈ xs,Ld x
def bD:Ob → Prop
 | .row _ els => ∀ cs ∈ els,∀ x ∈ cs,Aa x
 | .dF _ els => ∀ cs ∈ els,∀ p ∈ cs,ah p
 | .mp _ => True
 | .pool _ rows => ∀ els ∈ rows,∀ cs ∈ els,∀ p ∈ cs,ah p
 | .bZ _ _ _ => True
 | .unk => True
section
variable {P:Program} {w:World} {R B B':Nat → Prop} {g g':Nat → GS}
theorem jW.perm {p:PV} {v:Value} (hp:ah p) (h:jW w R B p v):jW w R B' p v:=by
 induction h with
 | sc h => exact .sc h
 | emp => exact .emp
 | @xs q els ad c s n val hn hq hc hs hv hr ih =>
  cases hp with
  | xs hp => exact .xs val hn hq hc hs hv fun j k cs p h1 h2 => ih j k cs p h1 h2 (hp cs (List.mem_of_getElem? h1) p (List.mem_of_getElem? h2))
theorem RC.perm {x:CV} {v:Value} (hp:Aa x) (h:RC P w R B g x v):RC P w R B' g x v:=by
 refine ⟨h.1,?_⟩
 have h2:=h.2
 cases x with
 | pv p => exact jW.perm hp h2
 | px q cells =>
  obtain ⟨rfl,hp⟩:=hp
  obtain ⟨a,h3,h4,h5⟩:=h2
  exact ⟨a,h3,h4,fun k p hk => by
   obtain ⟨u,h6,h7⟩:=h5 k p hk
   exact ⟨u,h6,h7.perm (hp p (List.mem_of_getElem? hk))⟩⟩
 | _ => exact h2
theorem RS.perm {x:SV} {v:Value} (hp:Ld x) (h:RS P w R B g x v):RS P w R B' g x v:=by
 cases x with
 | c x => exact RC.perm hp h
 | agg cs =>
  obtain ⟨vs,h1,h2,h3⟩:=h
  exact ⟨vs,h1,h2,fun k x hk => by
   obtain ⟨u,h4,h5⟩:=h3 k x hk
   exact ⟨u,h4,h5.perm (hp x (List.mem_of_getElem? hk))⟩⟩
theorem RA.perm {x:AV} {v:Value} (hp:QI x) (h:RA P w R B g x v):RA P w R B' g x v:=by
 cases x with
 | s x => exact RS.perm hp h
 | dM xs =>
  obtain ⟨vs,h1,h2,h3⟩:=h
  exact ⟨vs,h1,h2,fun k x hk => by
   obtain ⟨u,h4,h5⟩:=h3 k x hk
   exact ⟨u,h4,h5.perm (hp x (List.mem_of_getElem? hk))⟩⟩
theorem KA {p:Nat} {lens:List Nat} {cs:List CV} (h:cs ∈ fU p lens):∃ j l,cs = [.tl p j 0 l]:=by
 obtain ⟨i,hi⟩:=List.mem_iff_getElem?.1 h
 unfold fU at hi
 rw [List.getElem?_mapIdx] at hi
 cases hl:lens[i]? with
 | none => rw [hl] at hi; cases hi
 | some l => rw [hl] at hi; injection hi with hi; exact ⟨i,l,hi.symm⟩
theorem gX.perm {n:Nat} {e:TypeId} {els:List (List CV)} (hp:∀ cs ∈ els,∀ x ∈ cs,Aa x) (h:gX P w R B g n e els):gX P w R B' g n e els:=by
 rcases h with h | ⟨b,cur,h1,h2,h3,h4,h5⟩
 ·exact .inl h
 ·exact .inr ⟨b,cur,h1,h2,h3,h4,fun j k cs x hj hk => by
   obtain ⟨u,h6,h7⟩:=h5 j k cs x hj hk
   exact ⟨u,h6,h7.perm (hp cs (List.mem_of_getElem? hj) x (List.mem_of_getElem? hk))⟩⟩
theorem RO.perm {n:Nat} {o:Ob} (hp:bD o) (h:RO P w R B g n o):RO P w R B' g n o:=by
 cases o with
 | row e els => exact gX.perm hp h
 | dF e els => exact gX.perm (fun cs hcs x hx => by
   obtain ⟨c0,hc0,rfl⟩:=List.mem_map.1 hcs
   obtain ⟨p,hp0,rfl⟩:=List.mem_map.1 hx
   exact hp c0 hc0 p hp0) h
 | mp es => exact h
 | pool e rows => exact ⟨h.1,fun k els hk => by
   rcases h.2 k els hk with h1 | ⟨b,cur,h1,h2,h3,h4,h5⟩
   ·exact .inl h1
   ·exact .inr ⟨b,cur,h1,h2,h3,h4,fun j i cs x hj hi => by
     obtain ⟨u,h6,h7⟩:=h5 j i cs x hj hi
     exact ⟨u,h6,h7.perm (hp els (List.mem_of_getElem? hk) cs (List.mem_of_getElem? hj) x (List.mem_of_getElem? hi))⟩⟩⟩
 | bZ e p lens => exact gX.perm (fun cs hcs x hx => by
   obtain ⟨j,l,rfl⟩:=KA hcs
   have:x = .tl p j 0 l:=by simpa using hx
   subst this; trivial) h
 | unk => trivial
theorem RC.names {x:CV} {v:Value} (h:RC P w R B g x v) (hg:∀ n,g n ≠ .dead → g' n = g n):RC P w R B g' x v:=by
 have hgb:∀ n b,g n = .blk b → g' n = .blk b:=fun n b h => (hg n (by rw [h]; simp)).trans h
 have hgn:∀ n,g n = .nil → g' n = .nil:=fun n h => (hg n (by rw [h]; simp)).trans h
 have hga:∀ n k s,(g n).at k = s → s ≠ .dead → (g' n).at k = s:=fun n k s h hs => by
  rw [hg n fun hd => hs (by rw [← h,hd]; rfl)]
  exact h
 refine ⟨h.1,?_⟩
 have h2:=h.2
 cases x with
 | pv p => exact h2
 | px q cells => exact h2
 | loc n off len =>
  rcases h2 with ⟨h3,h4⟩ | h3 | ⟨b,cap,cur,e,h3,h4⟩
  ·exact .inl ⟨hgn n h3,h4⟩
  ·exact .inr (.inl h3)
  ·exact .inr (.inr ⟨b,cap,cur,e,hgb n b h3,h4⟩)
 | pl n off =>
  obtain ⟨b,h3,h4⟩:=h2
  exact ⟨b,hgb n b h3,h4⟩
 | fn f caps =>
  obtain ⟨vs,h3,h4,h5⟩:=h2
  exact ⟨vs,h3,h4,fun k n hk => by
   obtain ⟨b,h6,h7⟩:=h5 k n hk
   exact ⟨b,hgb n b h6,h7⟩⟩
 | mref n =>
  obtain ⟨b,h3,h4⟩:=h2
  exact ⟨b,hgb n b h3,h4⟩
 | tl p k off len =>
  rcases h2 with ⟨h3,h4⟩ | h3 | ⟨b,cap,cur,e,h3,h4⟩
  ·exact .inl ⟨hga p k _ h3 (by simp),h4⟩
  ·exact .inr (.inl h3)
  ·exact .inr (.inr ⟨b,cap,cur,e,hga p k _ h3 (by simp),h4⟩)
 | tpl p k off =>
  obtain ⟨b,h3,h4⟩:=h2
  exact ⟨b,hga p k _ h3 (by simp),h4⟩
 | junk => trivial
theorem RS.names {x:SV} {v:Value} (h:RS P w R B g x v) (hg:∀ n,g n ≠ .dead → g' n = g n):RS P w R B g' x v:=by
 cases x with
 | c x => exact RC.names h hg
 | agg cs =>
  obtain ⟨vs,h1,h2,h3⟩:=h
  exact ⟨vs,h1,h2,fun k x hk => by
   obtain ⟨u,h4,h5⟩:=h3 k x hk
   exact ⟨u,h4,h5.names hg⟩⟩
theorem RA.names {x:AV} {v:Value} (h:RA P w R B g x v) (hg:∀ n,g n ≠ .dead → g' n = g n):RA P w R B g' x v:=by
 cases x with
 | s x => exact RS.names h hg
 | dM xs =>
  obtain ⟨vs,h1,h2,h3⟩:=h
  exact ⟨vs,h1,h2,fun k x hk => by
   obtain ⟨u,h4,h5⟩:=h3 k x hk
   exact ⟨u,h4,h5.names hg⟩⟩
theorem gX.names {n:Nat} {e:TypeId} {els:List (List CV)} (h:gX P w R B g n e els) (hg:∀ n,g n ≠ .dead → g' n = g n):gX P w R B g' n e els:=by
 rcases h with ⟨h1,h2⟩ | ⟨b,cur,h1,h2,h3,h4,h5⟩
 ·exact .inl ⟨(hg n (by rw [h1]; simp)).trans h1,h2⟩
 ·exact .inr ⟨b,cur,(hg n (by rw [h1]; simp)).trans h1,h2,h3,h4,fun j k cs x hj hk => by
   obtain ⟨u,h6,h7⟩:=h5 j k cs x hj hk
   exact ⟨u,h6,h7.names hg⟩⟩
theorem RO.names {n:Nat} {o:Ob} (h:RO P w R B g n o) (hg:∀ n,g n ≠ .dead → g' n = g n):RO P w R B g' n o:=by
 cases o with
 | row e els => exact gX.names h hg
 | dF e els => exact gX.names h hg
 | mp es =>
  obtain ⟨b,qW,clock,h1,h2⟩:=h
  exact ⟨b,qW,clock,(hg n (by rw [h1]; simp)).trans h1,h2⟩
 | pool e rows =>
  obtain ⟨⟨bs,h1,h2⟩,h3⟩:=h
  have e1:=hg n (by rw [h1]; simp)
  exact ⟨⟨bs,e1.trans h1,h2⟩,by rw [e1]; exact h3⟩
 | bZ e p lens => exact gX.names h hg
 | unk => trivial
def tV (zs:List Nat):CV → Bool
 | .loc n _ _ => zs.elem n
 | .pl n _ => zs.elem n
 | .fn _ caps => caps.all zs.elem
 | .mref n => zs.elem n
 | .tl p _ _ _ => zs.elem p
 | .tpl p _ _ => zs.elem p
 | _ => true
def okS (zs:List Nat):SV → Bool
 | .c x => tV zs x
 | .agg cs => cs.all (tV zs)
def okA (zs:List Nat):AV → Bool
 | .s x => okS zs x
 | .dM xs => xs.all (okS zs)
def okO (zs:List Nat):Ob → Bool
 | .row _ els => els.all (·.all (tV zs))
 | .bZ _ p _ => zs.elem p
 | _ => true
theorem RC.ok {zs:List Nat} {x:CV} {v:Value} (hz:tV zs x = true) (hg:∀ n ∈ zs,g' n = g n) (h:RC P w R B g x v):RC P w R B g' x v:=by
 refine ⟨h.1,?_⟩
 have h2:=h.2
 cases x with
 | pv p => exact h2
 | px q cells => exact h2
 | loc n off len =>
  have hn:=hg n (List.mem_of_elem_eq_true hz)
  rcases h2 with ⟨h3,h4⟩ | h3 | ⟨b,cap,cur,e,h3,h4⟩
  ·exact .inl ⟨hn.trans h3,h4⟩
  ·exact .inr (.inl h3)
  ·exact .inr (.inr ⟨b,cap,cur,e,hn.trans h3,h4⟩)
 | pl n off =>
  obtain ⟨b,h3,h4⟩:=h2
  exact ⟨b,(hg n (List.mem_of_elem_eq_true hz)).trans h3,h4⟩
 | fn f caps =>
  obtain ⟨vs,h3,h4,h5⟩:=h2
  exact ⟨vs,h3,h4,fun k n hk => by
   obtain ⟨b,h6,h7⟩:=h5 k n hk
   exact ⟨b,(hg n (List.mem_of_elem_eq_true (List.all_eq_true.1 hz n (List.mem_of_getElem? hk)))).trans h6,h7⟩⟩
 | mref n =>
  obtain ⟨b,h3,h4⟩:=h2
  exact ⟨b,(hg n (List.mem_of_elem_eq_true hz)).trans h3,h4⟩
 | tl p k off len =>
  have hn:=hg p (List.mem_of_elem_eq_true hz)
  rcases h2 with ⟨h3,h4⟩ | h3 | ⟨b,cap,cur,e,h3,h4⟩
  ·exact .inl ⟨by rw [hn]; exact h3,h4⟩
  ·exact .inr (.inl h3)
  ·exact .inr (.inr ⟨b,cap,cur,e,by rw [hn]; exact h3,h4⟩)
 | tpl p k off =>
  obtain ⟨b,h3,h4⟩:=h2
  exact ⟨b,by rw [hg p (List.mem_of_elem_eq_true hz)]; exact h3,h4⟩
 | junk => trivial
theorem RS.ok {zs:List Nat} {x:SV} {v:Value} (hz:okS zs x = true) (hg:∀ n ∈ zs,g' n = g n) (h:RS P w R B g x v):RS P w R B g' x v:=by
 cases x with
 | c x => exact RC.ok hz hg h
 | agg cs =>
  obtain ⟨vs,h1,h2,h3⟩:=h
  exact ⟨vs,h1,h2,fun k x hk => by
   obtain ⟨u,h4,h5⟩:=h3 k x hk
   exact ⟨u,h4,h5.ok (List.all_eq_true.1 hz x (List.mem_of_getElem? hk)) hg⟩⟩
theorem RA.ok {zs:List Nat} {x:AV} {v:Value} (hz:okA zs x = true) (hg:∀ n ∈ zs,g' n = g n) (h:RA P w R B g x v):RA P w R B g' x v:=by
 cases x with
 | s x => exact RS.ok hz hg h
 | dM xs =>
  obtain ⟨vs,h1,h2,h3⟩:=h
  exact ⟨vs,h1,h2,fun k x hk => by
   obtain ⟨u,h4,h5⟩:=h3 k x hk
   exact ⟨u,h4,h5.ok (List.all_eq_true.1 hz x (List.mem_of_getElem? hk)) hg⟩⟩
theorem gX.ok {zs:List Nat} {n:Nat} {e:TypeId} {els:List (List CV)} (hn:n ∈ zs) (hz:els.all (·.all (tV zs)) = true) (hg:∀ n ∈ zs,g' n = g n) (h:gX P w R B g n e els):gX P w R B g' n e els:=by
 rcases h with ⟨h1,h2⟩ | ⟨b,cur,h1,h2,h3,h4,h5⟩
 ·exact .inl ⟨(hg n hn).trans h1,h2⟩
 ·exact .inr ⟨b,cur,(hg n hn).trans h1,h2,h3,h4,fun j k cs x hj hk => by
   obtain ⟨u,h6,h7⟩:=h5 j k cs x hj hk
   exact ⟨u,h6,h7.ok (List.all_eq_true.1 (List.all_eq_true.1 hz cs (List.mem_of_getElem? hj)) x (List.mem_of_getElem? hk)) hg⟩⟩
theorem RO.ok {zs:List Nat} {n:Nat} {o:Ob} (hn:n ∈ zs) (hz:okO zs o = true) (hg:∀ n ∈ zs,g' n = g n) (h:RO P w R B g n o):RO P w R B g' n o:=by
 cases o with
 | row e els => exact gX.ok hn hz hg h
 | dF e els => exact gX.ok hn (by simp [iT,List.all_eq_true,tV]) hg h
 | mp es =>
  obtain ⟨b,qW,clock,h1,h2⟩:=h
  exact ⟨b,qW,clock,(hg n hn).trans h1,h2⟩
 | pool e rows =>
  obtain ⟨⟨bs,h1,h2⟩,h3⟩:=h
  exact ⟨⟨bs,(hg n hn).trans h1,h2⟩,by rw [hg n hn]; exact h3⟩
 | bZ e p lens => exact gX.ok hn (List.all_eq_true.2 fun cs hcs => by
   obtain ⟨j,l,rfl⟩:=KA hcs
   simpa [tV,okO] using hz) hg h
 | unk => trivial
theorem jW.more (hb:∀ b,B b → B' b) {p:PV} {v:Value} (h:jW w R B p v):jW w R B' p v:=by
 induction h with
 | sc h => exact .sc h
 | emp => exact .emp
 | xs val hn hq hc hs hv _ ih => exact .xs val hn (TJ (fun _ h => h) hb hq) hc hs hv ih
theorem RC.more (hb:∀ b,B b → B' b) {x:CV} {v:Value} (h:RC P w R B g x v):RC P w R B' g x v:=by
 refine ⟨h.1,?_⟩
 have h2:=h.2
 cases x with
 | pv p => exact jW.more hb h2
 | px q cells =>
  obtain ⟨a,h3,h4,h5⟩:=h2
  exact ⟨a,h3,TJ (fun _ h => h) hb h4,fun k p hk => by
   obtain ⟨u,h6,h7⟩:=h5 k p hk
   exact ⟨u,h6,h7.more hb⟩⟩
 | _ => exact h2
theorem RS.more (hb:∀ b,B b → B' b) {x:SV} {v:Value} (h:RS P w R B g x v):RS P w R B' g x v:=by
 cases x with
 | c x => exact RC.more hb h
 | agg cs =>
  obtain ⟨vs,h1,h2,h3⟩:=h
  exact ⟨vs,h1,h2,fun k x hk => by
   obtain ⟨u,h4,h5⟩:=h3 k x hk
   exact ⟨u,h4,h5.more hb⟩⟩
theorem RA.more (hb:∀ b,B b → B' b) {x:AV} {v:Value} (h:RA P w R B g x v):RA P w R B' g x v:=by
 cases x with
 | s x => exact RS.more hb h
 | dM xs =>
  obtain ⟨vs,h1,h2,h3⟩:=h
  exact ⟨vs,h1,h2,fun k x hk => by
   obtain ⟨u,h4,h5⟩:=h3 k x hk
   exact ⟨u,h4,h5.more hb⟩⟩
theorem gX.more (hb:∀ b,B b → B' b) {n:Nat} {e:TypeId} {els:List (List CV)} (h:gX P w R B g n e els):gX P w R B' g n e els:=by
 rcases h with h | ⟨b,cur,h1,h2,h3,h4,h5⟩
 ·exact .inl h
 ·exact .inr ⟨b,cur,h1,h2,h3,h4,fun j k cs x hj hk => by
   obtain ⟨u,h6,h7⟩:=h5 j k cs x hj hk
   exact ⟨u,h6,h7.more hb⟩⟩
theorem RO.more (hb:∀ b,B b → B' b) {n:Nat} {o:Ob} (h:RO P w R B g n o):RO P w R B' g n o:=by
 cases o with
 | row e els => exact gX.more hb h
 | dF e els => exact gX.more hb h
 | mp es => exact h
 | pool e rows => exact ⟨h.1,fun k els hk => by
   rcases h.2 k els hk with h1 | ⟨b,cur,h1,h2,h3,h4,h5⟩
   ·exact .inl h1
   ·exact .inr ⟨b,cur,h1,h2,h3,h4,fun j i cs x hj hi => by
     obtain ⟨u,h6,h7⟩:=h5 j i cs x hj hi
     exact ⟨u,h6,h7.more hb⟩⟩⟩
 | bZ e p lens => exact gX.more hb h
 | unk => trivial
end
def Fn (P:Program) (f:FuncId) (args:List SV) (us:Mem) (v:AV) (df:Mem) (W X:List Nat):Prop :=
 ∀ (R B:Nat → Prop) (g:Nat → GS) (w:World) (vs:List Value),WF R B g w → vs.length = args.length → (∀ (k:Nat) x,args[k]? = some x → ∃ u,vs[k]? = some u ∧ RS P w R B g x u) → (∀ p ∈ us,RO P w R B g p.1 p.2) →
  Calls P f vs.toArray w fun e w' => ∃ u R' B' g',e = .returned u ∧ iR R B g w W X R' B' g' w' ∧ (∀ b,R' b → R b ∨ w.heap.size ≤ b) ∧ RA P w' R' R' g' v u ∧ ∀ p ∈ df,RO P w' R' R' g' p.1 p.2
def QJ (P:Program) (σ:Slots) (m:Mem):ResultVar → SV → Prop
 | .tmp t,x => lk σ t = some (.s x)
 | .cell t T,x => ∃ n e cells,lk σ t = some (Cc (.pl n 0)) ∧ lk m n = some (.row e [cells]) ∧ x = .agg cells ∧ lV P T = some true ∧ cO P T = cells.length ∧ ∃ i,P.info? T = some i
def wE (P:Program) (σ:Slots) (m:Mem):List ResultVar → List SV → Prop
 | [],[] => True
 | r :: rs,x :: xs => QJ P σ m r x ∧ wE P σ m rs xs
 | _,_ => False
def vT:List SV → AV
 | [x] => .s x
 | xs => .dM xs
section
variable {P:Program} {C:Ctx} {σ:Slots} {m:Mem} {R B:Nat → Prop} {g:Nat → GS} {a:Act} {w:World}
def KZ (tmps:Array Value):ResultVar → Sem Value
 | .tmp t => pure (tmps.getD t undef)
 | .cell c t => do loadVar t (← asAddr (tmps.getD c undef))
theorem aKj (fn:Func) (tmps:Array Value):results fn tmps = (do let vs ← fn.results.mapM (KZ tmps); pure (if h:vs.size = 1 then vs[0] else .tuple vs)):=by
 have:(fun | .tmp t => pure (tmps.getD t undef) | .cell c t => do loadVar t (← asAddr (tmps.getD c undef)):ResultVar → Sem Value) = KZ tmps:=by
  funext x
  cases x <;> rfl
 rw [← this]
 rfl
theorem QJ.run (hs:St P C σ m R B g a w) {r:ResultVar} {x:SV} (h:QJ P σ m r x) :
  ∃ u,(KZ a.tmps r).run P w = .ok u w ∧ RS P w R B g x u:=by
 cases r with
 | tmp t => exact ⟨a.tmps.getD t undef,rfl,hs.sl t _ h⟩
 | cell t T =>
  obtain ⟨n,e,cells,h1,h2,rfl,h3,h4,i,hi⟩:=h
  obtain ⟨_,b,k1,k2⟩:=hs.sl t _ h1
  have hro:=hs.ob n _ h2
  have hcell:=(Xv hro k1 (j:=0) rfl).2
  obtain ⟨us,k3,k4,k5⟩:=QZ (T:=fun u k => w.cell? ⟨b,k,none⟩ = some u) (Rl:=fun p u => RC P w R B g p u) cells 0 (fun k x hk => by
   obtain ⟨u,h5,h6⟩:=hcell k x hk
   rw [Nat.zero_mul] at h5
   exact ⟨u,h5,h6⟩)
  refine ⟨.agg us.toArray,?_,us,rfl,k3,k5⟩
  have hl:=run_loadCells_list (P:=P) w ⟨b,0,none⟩ us (fun j v hj => by rw [add_lit]; simpa using k4 j v hj)
  simp [KZ,k2,asAddr,loadVar,YI h3,run_sizeOf hi,h4,← k3,hl]
theorem wE.run (hs:St P C σ m R B g a w):∀ {rs:List ResultVar} {xs:List SV},wE P σ m rs xs →
  ∃ us:List Value,(rs.mapM (KZ a.tmps)).run P w = .ok us w ∧ us.length = xs.length ∧ ∀ (k:Nat) x,xs[k]? = some x → ∃ u,us[k]? = some u ∧ RS P w R B g x u
 | [],[],_ => ⟨[],rfl,rfl,fun k x hk => by simp at hk⟩
 | [],_ :: _,h => h.elim
 | _ :: _,[],h => h.elim
 | r :: rs,x :: xs,h => by
  obtain ⟨u,h1,h2⟩:=QJ.run hs h.1
  obtain ⟨us,h3,h4,h5⟩:=wE.run hs h.2
  refine ⟨u :: us,?_,by simp [h4],fun k y hk => ?_⟩
  ·simp only [List.mapM_cons,Sem.run_bind]
   rw [h1]
   simp only [Result.andThen_ok,h3,Sem.run_pure]
  ·cases k with
   | zero => simp at hk; subst hk; exact ⟨u,rfl,h2⟩
   | succ k => exact h5 k y (by simpa using hk)
theorem wE.results (hs:St P C σ m R B g a w) {fn:Func} {xs:List SV} (h:wE P σ m fn.results.toList xs):∃ u,(results fn a.tmps).run P w = .ok u w ∧ RA P w R B g (vT xs) u:=by
 obtain ⟨us,h1,h2,h3⟩:=wE.run hs h
 have hm:(fn.results.mapM (KZ a.tmps)).run P w = .ok us.toArray w:=by
  rw [Array.mapM_eq_mapM_toList]
  simp only [Sem.run_map,h1,Result.andThen_ok]
 rw [aKj]
 simp only [Sem.run_bind]
 rw [hm]
 simp only [Result.andThen_ok,Sem.run_pure]
 refine ⟨_,rfl,?_⟩
 cases xs with
 | nil =>
  have:us = []:=List.eq_nil_of_length_eq_zero (by simpa using h2)
  subst this
  exact ⟨[],by simp,rfl,fun k x hk => by simp at hk⟩
 | cons x xs =>
  cases xs with
  | nil =>
   obtain ⟨u,hu,hr⟩:=h3 0 x rfl
   match us,h2,hu with
   | [u'],_,hu =>
    simp at hu
    subst hu
    show RS P w R B g x _
    simpa using hr
  | cons y ys =>
   have hne:¬ us.toArray.size = 1:=by simp only [List.size_toArray,h2,List.length_cons]; omega
   rw [dif_neg hne]
   exact ⟨us,rfl,h2,h3⟩
end
def LkA (m:Mem) (df:Mem):Prop:=∀ p ∈ df,lk m p.1 = some p.2
theorem pF.all {m:Mem}:∀ {df:Mem},pF m df → LkA m df
 | [],_ => fun p hp => by cases hp
 | (n,o) :: r,h => fun p hp => by
  cases hp with
  | head => exact h.1
  | tail _ hp => exact pF.all h.2 p hp
def Ah:Nat → List SV → Slots
 | _,[] => []
 | k,x :: xs => (k,.s x) :: Ah (k + 1) xs
theorem aB0:∀ (xs:List SV) (k t:Nat) (v:AV),lk (Ah k xs) t = some v → ∃ x,v = .s x ∧ k ≤ t ∧ xs[t - k]? = some x
 | [],_,_,_,h => by cases h
 | x :: xs,k,t,v,h => by
  change (bif Nat.beq k t then some (AV.s x) else lk (Ah (k + 1) xs) t) = some v at h
  cases hb:Nat.beq k t with
  | true =>
   rw [hb,cond_true] at h
   injection h with h
   have:=Nat.eq_of_beq_eq_true hb
   subst this
   exact ⟨x,h.symm,Nat.le_refl _,by simp⟩
  | false =>
   rw [hb,cond_false] at h
   obtain ⟨y,h1,h2,h3⟩:=aB0 xs (k + 1) t v h
   refine ⟨y,h1,by omega,?_⟩
   rw [show t - k = (t - (k + 1)) + 1 by omega,List.getElem?_cons_succ]
   exact h3
theorem Fn.aCW {P:Program} {f:FuncId} {fn:Func} {c:Code} {args:List SV} {us df:Mem} {pn X:List Nat} {N:Nat} {τ:Type} {M:Option τ} {rs:τ → List SV} {jR:τ → Mem} (hf:P.funcs[f]? = some fn) (hb:fn.body = some c) (hN:fn.ntmps = N)
  (hargs:args.length ≤ N) (hside:(fG (keys us) (pn ++ X) && mP X pn && fG pn (keys us)) = true)
  (h:∀ w0 U0 R0 g0,(∀ b,U0 b → ∃ n ∈ keys us,(g0 n).has b) → aA P ⟨w0,U0,R0,g0,N,pn⟩ [.code c] (Ah 0 args) us M fun t e σ m => (e = .normal ∨ e = .ret) ∧ wE P σ m fn.results.toList (rs t) ∧ pF m (jR t) ∧ fG (keys us) (keys (jR t)) = true ∧ fG X (keys (jR t)) = true ∧ QI (vT (rs t)) ∧ (∀ p ∈ jR t,bD p.2) ∧ okA (keys us ++ X) (vT (rs t)) = true ∧ (jR t).all (fun p => (keys us ++ X).elem p.1 && okO (keys us ++ X) p.2) = true) :
  ∀ t,M = some t → Fn P f args us (vT (rs t)) (jR t) (keys us) X:=by
 intro t ht R B g w vs hw hlen hvs hus
 simp only [Bool.and_eq_true] at hside
 obtain ⟨⟨hs1,hs2⟩,hs3⟩:=hside
 let U0:Nat → Prop:=fun b => ∃ n ∈ keys us,(g n).has b
 let C:Ctx:=⟨w,U0,R,g,N,pn⟩
 have aNb:vs.length ≤ N:=by rw [hlen]; exact hargs
 refine calls_of_wp hf hb ?_
 have hSt:St P C (Ah 0 args) us R B g { tmps:=vs.toArray ++ Array.replicate (fn.ntmps - vs.toArray.size) undef,defers:=[] } w:=by
  refine ⟨hw,rfl,by simp [C,hN]; omega,fun t v hl => ?_,fun n o hl => ?_,fun n o b hl hg => ?_,fun b hb => .inl hb,fun _ h => h,rfl,rfl,rfl,Nat.le_refl _,fun _ _ _ => rfl,fun _ _ => rfl,fun _ _ _ cur e _ hh => ⟨cur,hh,rfl⟩⟩
  ·obtain ⟨x,rfl,_,h3⟩:=aB0 args 0 t v hl
   obtain ⟨u,hu,hr⟩:=hvs _ x h3
   have hlt:t < vs.length:=by rw [hlen]; exact (List.getElem?_eq_some_iff.1 h3).1
   have:(vs.toArray ++ Array.replicate (fn.ntmps - vs.toArray.size) undef).getD t undef = u:=by
    rw [Array.getD_eq_getD_getElem?,Array.getElem?_append_left (by simpa using hlt)]
    simp only [Nat.sub_zero] at hu
    simp [hu]
   rw [this]
   exact hr
  ·have hm:∀ (us:Mem),(∀ p ∈ us,RO P w R B g p.1 p.2) → lk us n = some o → RO P w R B g n o:=by
    intro us
    induction us with
    | nil => intro _ h; cases h
    | cons q r ih =>
     intro hq h
     obtain ⟨k,v⟩:=q
     change (bif Nat.beq k n then some v else lk r n) = some o at h
     cases hb:Nat.beq k n with
     | true =>
      rw [hb,cond_true] at h
      injection h with h
      have:=Nat.eq_of_beq_eq_true hb
      subst this
      subst h
      exact hq (k,v) List.mem_cons_self
     | false =>
      rw [hb,cond_false] at h
      exact ih (fun p hp => hq p (List.mem_cons_of_mem _ hp)) h
   exact hm us hus hl
  ·right
   have hm:∀ (us:Mem),lk us n = some o → n ∈ keys us:=by
    intro us
    induction us with
    | nil => intro h; cases h
    | cons q r ih =>
     intro h
     obtain ⟨k,v⟩:=q
     change (bif Nat.beq k n then some v else lk r n) = some o at h
     cases hb:Nat.beq k n with
     | true => have:=Nat.eq_of_beq_eq_true hb; subst this; exact List.mem_cons_self
     | false =>
      rw [hb,cond_false] at h
      exact List.mem_cons_of_mem _ (ih h)
   exact ⟨n,hm us hl,hg⟩
 refine wp_mono (h w U0 R g (fun b hb => hb) t ht R B g _ w hSt) fun e a' w' hp => ?_
 obtain ⟨σ',m',R',B',g',hs',he,hrv,hdf,hk1,hk2,hpa,hpo,hoa,hoo⟩:=hp
 obtain ⟨u,hu1,hu2⟩:=wE.results hs' hrv
 have aAz:=hdf.all
 -- the names that come out
 let Z:Nat → Prop:=fun n => n ∈ keys us ∨ n ∈ X
 have aGw:∀ n,Z n → n ∈ keys (jR t):=fun n hn => hn.elim (xG hk1 n) (xG hk2 n)
 classical
 let g2:Nat → GS:=fun n => if Z n then g' n else g n
 have A8:∀ n,Z n → g2 n = g' n:=fun n hn => if_pos hn
 have Eo:∀ n,¬ Z n → g2 n = g n:=fun n hn => if_neg hn
 have Vq:∀ n,Z n → ∀ b,(g' n).has b → w.heap.size ≤ b ∨ ∃ k ∈ keys us,(g k).has b:=fun n hn b hb => by
  obtain ⟨o,ho⟩:=mem_keys (aGw n hn)
  exact hs'.ow n o b (aAz (n,o) ho) hb
 have Hq:∀ b,R' b → R b ∨ w.heap.size ≤ b:=hs'.perm
 have hRR:∀ b,R b → R' b:=hs'.r0
 have aGu:∀ b,R' b → b < w'.heap.size:=fun b hb => hs'.wf.lt b (hs'.wf.rb b hb)
 have hwf:WF R' (fun b => B b ∨ R' b) g2 w':=by
  refine ⟨fun b hb => .inr hb,fun b hb => hb.elim (fun hb => Nat.lt_of_lt_of_le (hw.lt b hb) hs'.size) (aGu b),fun n b hg => ?_,fun n k b hn hk => ?_,fun n j k b hj hk => ?_⟩
  ·by_cases hn:Z n
   ·rw [A8 n hn] at hg
    have h1:=hs'.wf.ja n b hg
    refine ⟨fun hB => ?_,h1.2⟩
    rcases hB with hB | hB
    ·rcases Vq n hn b hg with h2 | ⟨k,_,h2⟩
     ·exact absurd (hw.lt b hB) (by omega)
     ·exact (hw.ja k b h2).1 hB
    ·exact h1.1 (hs'.wf.rb b hB)
   ·rw [Eo n hn] at hg
    have h1:=hw.ja n b hg
    refine ⟨fun hB => ?_,Nat.lt_of_lt_of_le h1.2 hs'.size⟩
    rcases hB with hB | hB
    ·exact h1.1 hB
    ·rcases Hq b hB with h2 | h2
     ·exact h1.1 (hw.rb b h2)
     ·exact absurd h1.2 (by omega)
  ·have cross:∀ n k b,Z n → ¬ Z k → (g' n).has b → (g k).has b → False:=fun n k b hn hk h1 h2 => by
    rcases Vq n hn b h1 with h3 | ⟨j,hj,h3⟩
    ·exact absurd (hw.ja k b h2).2 (by omega)
    ·exact hk (.inl (hw.kW j k b h3 h2 ▸ hj))
   by_cases zV:Z n <;> by_cases Hr:Z k
   ·rw [A8 n zV] at hn
    rw [A8 k Hr] at hk
    exact hs'.wf.kW n k b hn hk
   ·rw [A8 n zV] at hn
    rw [Eo k Hr] at hk
    exact (cross n k b zV Hr hn hk).elim
   ·rw [Eo n zV] at hn
    rw [A8 k Hr] at hk
    exact (cross k n b Hr zV hk hn).elim
   ·rw [Eo n zV] at hn
    rw [Eo k Hr] at hk
    exact hw.kW n k b hn hk
  ·by_cases hn:Z n
   ·rw [A8 n hn] at hj hk
    exact hs'.wf.nd n j k b hj hk
   ·rw [Eo n hn] at hj hk
    exact hw.nd n j k b hj hk
 have hpn:∀ n ∈ pn,n ∈ keys us:=xG hs3
 have Eg:iR R B g w (keys us) X R' (fun b => B b ∨ R' b) g2 w':=by
  refine ⟨hwf,hRR,fun b hb => .inl hb,hs'.os,hs'.tape,hs'.output,hs'.size,fun b hb nI => hs'.heap b hb fun hU => ?_,fun n hn => ?_,fun n hn b hb => ?_,fun n nI vM b cur e' hg hh => ?_⟩
  ·obtain ⟨n,hn,hg⟩:=hU
   exact nI n hn hg
  ·by_cases zV:Z n
   ·rw [A8 n zV]
    have hnu:n ∈ keys us:=zV.resolve_right hn
    exact hs'.pin n ((List.mem_append.1 (xG hs1 n hnu)).resolve_right hn)
   ·exact Eo n zV
  ·rw [A8 n (.inr hn)] at hb
   exact Vq n (.inr hn) b hb
  ·have hnp:n ∈ pn:=(List.mem_append.1 (xG hs1 n nI)).resolve_right vM
   exact hs'.shp n hnp b cur e' hg hh
 have hgz:∀ n ∈ keys us ++ X,g2 n = g' n:=fun n hn => A8 n (List.mem_append.1 hn)
 have hres:bodyPost P fn (fun e w' => ∃ u R' B' g',e = .returned u ∧ iR R B g w (keys us) X R' B' g' w' ∧ (∀ b,R' b → R b ∨ w.heap.size ≤ b) ∧ RA P w' R' R' g' (vT (rs t)) u ∧ ∀ p ∈ jR t,RO P w' R' R' g' p.1 p.2) .ret a' w':=by
  refine ⟨hs'.nd,u,hu1,u,R',_,g2,rfl,Eg,Hq,?_,?_⟩
  ·exact (hu2.perm hpa).ok hoa hgz
  ·intro p hp
   have hz:=List.all_eq_true.1 hoo p hp
   simp only [Bool.and_eq_true] at hz
   exact ((hs'.ob p.1 p.2 (aAz p hp)).perm (hpo p hp)).ok (List.mem_of_elem_eq_true hz.1) hz.2 hgz
 rcases he with rfl | rfl
 ·exact hres
 ·exact hres
inductive QW:PV → PV → Prop
 | sc {v:Value}:QW (.sc v) (.sc v)
 | xs {q q':Bool} {els els':List (List PV)} (hq:q' = true → q = true) (hl:els'.length = els.length) (hc:∀ (j:Nat) cs cs',els[j]? = some cs → els'[j]? = some cs' → cs'.length = cs.length) (h:∀ (j k:Nat) cs cs' p p',els[j]? = some cs → els'[j]? = some cs' → cs[k]? = some p → cs'[k]? = some p' → QW p p'):QW (.xs q els) (.xs q' els')
theorem aKM {R B:Nat → Prop} {q q':Bool} {b:Nat} (Hq:∀ b,R b → B b) (hq:q' = true → q = true) (h:Dx R B q b):Dx R B q' b:=by
 cases q' with
 | true => rw [hq rfl] at h; exact h
 | false =>
  cases q with
  | true => exact Hq b h
  | false => exact h
theorem jW.aM5 {w:World} {R B:Nat → Prop} (Hq:∀ b,R b → B b) {p:PV} {v:Value} (h:jW w R B p v):∀ {p':PV},QW p p' → jW w R B p' v:=by
 induction h with
 | sc h => intro p' hq; cases hq; exact .sc h
 | emp =>
  intro p' hq
  cases hq with
  | xs hq hl hc h =>
   have:=List.eq_nil_of_length_eq_zero hl
   subst this
   exact .emp
 | @xs q els a c s n val hn hb hc hs hv hr ih =>
  intro p' hq
  cases hq with
  | @xs _ q' _ els' hqq hl hcc hh =>
   refine .xs (s:=s) val (hn.trans hl.symm) (aKM Hq hqq hb) (by omega) (fun cs' hcs' => ?_) (fun j k cs' p' hj hk => ?_) (fun j k cs' p' hj hk => ?_)
   ·obtain ⟨j,hj,rfl⟩:=List.mem_iff_getElem.1 hcs'
    have h1:els[j]? = some (els[j]'(by omega)):=List.getElem?_eq_getElem (by omega)
    rw [hcc j _ _ h1 (List.getElem?_eq_getElem hj)]
    exact hs _ (List.mem_of_getElem? h1)
   ·have hjl:=(List.getElem?_eq_some_iff.1 hj).1
    have h1:els[j]? = some (els[j]'(by omega)):=List.getElem?_eq_getElem (by omega)
    have hkl:=(List.getElem?_eq_some_iff.1 hk).1
    have h2:=hcc j _ _ h1 hj
    have h3:(els[j]'(by omega))[k]? = some ((els[j]'(by omega))[k]'(by omega)):=List.getElem?_eq_getElem (by omega)
    exact hv _ _ _ _ h1 h3
   ·have hjl:=(List.getElem?_eq_some_iff.1 hj).1
    have h1:els[j]? = some (els[j]'(by omega)):=List.getElem?_eq_getElem (by omega)
    have hkl:=(List.getElem?_eq_some_iff.1 hk).1
    have h2:=hcc j _ _ h1 hj
    have h3:(els[j]'(by omega))[k]? = some ((els[j]'(by omega))[k]'(by omega)):=List.getElem?_eq_getElem (by omega)
    exact ih _ _ _ _ h1 h3 (hh _ _ _ _ _ _ h1 hj h3 hk)
inductive rM (sh:Mem):CV → CV → Prop
 | same {x:CV} (h:bY (keys sh) x = x):rM sh x x
 | weak {x:CV} {p p':PV} (h:rM sh x (.pv p)) (hq:QW p p'):rM sh x (.pv p')
 | loc {n:Nat} {e:TypeId} {els:List (List PV)} (h:lk sh n = some (.dF e els)):rM sh (.loc n 0 els.length) (.pv (.xs false els))
 | nil {q:Bool}:rM sh (.pv (.sc (.slice none 0 0))) (.pv (.xs q []))
 | bZ {n p:Nat} {e e2:TypeId} {rows:List (List (List PV))} {lens:List Nat} (h1:lk sh n = some (.bZ e p lens)) (h2:lk sh p = some (.pool e2 rows)) (hl:lens = rows.map List.length):rM sh (.loc n 0 lens.length) (.pv (.xs false (rows.map fun r => [.xs false r])))
 | tl {p k:Nat} {e2:TypeId} {rows:List (List (List PV))} {r:List (List PV)} (h2:lk sh p = some (.pool e2 rows)) (hk:rows[k]? = some r):rM sh (.tl p k 0 r.length) (.pv (.xs false r))
inductive Gx (sh:Mem):List CV → List CV → Prop
 | nil:Gx sh [] []
 | cons {x y:CV} {xs ys:List CV} (h:rM sh x y) (t:Gx sh xs ys):Gx sh (x :: xs) (y :: ys)
inductive Gy (sh:Mem):SV → SV → Prop
 | c {x y:CV} (h:rM sh x y):Gy sh (.c x) (.c y)
 | agg {xs ys:List CV} (h:Gx sh xs ys):Gy sh (.agg xs) (.agg ys)
inductive og (sh:Mem):List SV → List SV → Prop
 | nil:og sh [] []
 | cons {x y:SV} {xs ys:List SV} (h:Gy sh x y) (t:og sh xs ys):og sh (x :: xs) (y :: ys)
section
variable {P:Program} {w:World} {R B:Nat → Prop} {g:Nat → GS}
def Nw (sh:Mem) (B:Nat → Prop) (g:Nat → GS):Nat → Prop:=fun b => B b ∨ ∃ n ∈ keys sh,(g n).has b
def zZ (sh:Mem) (g:Nat → GS):Nat → GS:=fun n => if n ∈ keys sh then .dead else g n
theorem IK {sh:Mem} {n:Nat} (h:n ∈ keys sh):zZ sh g n = .dead:=by unfold zZ; exact if_pos h
theorem zf {sh:Mem} {n:Nat} (h:n ∉ keys sh):zZ sh g n = g n:=by unfold zZ; exact if_neg h
theorem Xa (hw:WF R B g w) (sh:Mem):WF R (Nw sh B g) (zZ sh g) w:=by
 refine ⟨fun b hb => .inl (hw.rb b hb),fun b hb => hb.elim (hw.lt b) fun ⟨n,_,hg⟩ => (hw.ja n b hg).2,fun n b hg => ?_,fun n k b hn hk => ?_,fun n j k b hj hk => ?_⟩
 ·by_cases hn:n ∈ keys sh
  ·rw [IK hn] at hg; exact hg.elim
  ·rw [zf hn] at hg
   refine ⟨fun hB => ?_,(hw.ja n b hg).2⟩
   rcases hB with hB | ⟨k,hk,hg'⟩
   ·exact (hw.ja n b hg).1 hB
   ·exact hn (hw.kW k n b hg' hg ▸ hk)
 ·by_cases hn1:n ∈ keys sh
  ·rw [IK hn1] at hn; exact hn.elim
  ·by_cases hk1:k ∈ keys sh
   ·rw [IK hk1] at hk; exact hk.elim
   ·rw [zf hn1] at hn
    rw [zf hk1] at hk
    exact hw.kW n k b hn hk
 ·by_cases hn:n ∈ keys sh
  ·rw [IK hn] at hj; cases hj
  ·rw [zf hn] at hj hk
   exact hw.nd n j k b hj hk
theorem aBx (hw:WF R B g w) (sh:Mem):iR R B g w [] (keys sh) R (Nw sh B g) (zZ sh g) w :=
 ⟨Xa hw sh,fun _ h => h,fun _ h => .inl h,rfl,rfl,rfl,Nat.le_refl _,fun _ _ _ => rfl,fun n hn => zf hn,fun n hn b hb => (by rw [IK hn] at hb; exact hb.elim),fun n hn => (by cases hn)⟩
theorem DX {α:Type}:∀ {l:List (Nat × α)} {n:Nat} {o:α},lk l n = some o → (n,o) ∈ l
 | [],_,_,h => by cases h
 | (k,v) :: r,n,o,h => by
  change (bif Nat.beq k n then some v else lk r n) = some o at h
  cases hb:Nat.beq k n with
  | true =>
   rw [hb,cond_true] at h
   injection h with h
   have:=Nat.eq_of_beq_eq_true hb
   subst this
   subst h
   exact List.mem_cons_self
  | false =>
   rw [hb,cond_false] at h
   exact List.mem_cons_of_mem _ (DX h)
theorem rH.rpv {B2:Nat → Prop} (hb:∀ b,B b → B2 b) {p k:Nat} {e:TypeId} {els:List (List PV)} {v:Value} (hx:RC P w R B g (.tl p k 0 els.length) v) (hr:rH P w R B ((g p).at k) e els) (hB:∀ b,(g p).has b → B2 b):jW w R B2 (.xs false els) v:=by
 rcases hx.2 with ⟨h1,_,h3,h4⟩ | ⟨_,h2,_⟩ | ⟨b,cap,cur,e',k1,k2,k3,k4,k5,k6⟩
 ·have:els = []:=List.eq_nil_of_length_eq_zero h3
  subst this
  subst h4
  exact .emp
 ·exact absurd rfl h2
 ·rcases hr with ⟨h1,_⟩ | ⟨b',cur',h1,h2,h3,h4,h5⟩
  ·rw [k1] at h1; cases h1
  ·rw [k1] at h1
   injection h1 with h1
   subst h1
   rw [k2] at h2
   injection h2 with h2
   injection h2 with h2 h6 h7
   subst h2
   subst h6
   subst k6
   refine .xs (s:=cO P e') (fun j i => cur.getD (j * cO P e' + i) undef) rfl (hB b (GS.qY k1)) k3 h3 (fun j i cs q hj hi => ?_) (fun j i cs q hj hi => ?_)
   ·obtain ⟨u,hu,_⟩:=h5 j i cs q hj hi
    rw [Nat.zero_mul,add_lit,Nat.zero_add,GU k2,hu]
    simp [Array.getD_eq_getD_getElem?,hu]
   ·obtain ⟨u,hu,hr⟩:=h5 j i cs q hj hi
    have:cur.getD (j * cO P e' + i) undef = u:=by simp [Array.getD_eq_getD_getElem?,hu]
    rw [this]
    exact jW.more hb hr
theorem rM.rc {sh:Mem} (hw:WF R B g w) (hsh:∀ p ∈ sh,RO P w R B g p.1 p.2) {x y:CV} {v:Value} (h:rM sh x y) (hx:RC P w R B g x v):RC P w R (Nw sh B g) (zZ sh g) y v:=by
 induction h with
 | weak h hq ih => exact ⟨(ih hx).1,jW.aM5 (Xa hw sh).rb (ih hx).2 hq⟩
 | same h =>
  have:=(aBx hw sh).rc hw hx
  rwa [h] at this
 | nil =>
  obtain ⟨_,h2⟩:=hx
  cases h2
  exact ⟨rfl,.emp⟩
 | @loc n e els h =>
  have hm:=DX h
  have hro:gX P w R B g n e (iT els):=hsh (n,.dF e els) hm
  have hnk:n ∈ keys sh:=List.mem_map.2 ⟨_,hm,rfl⟩
  refine ⟨hx.1,?_⟩
  rcases hx.2 with ⟨h1,_,h3,h4⟩ | ⟨_,h2,_⟩ | ⟨b,cap,cur,e',k1,k2,k3,k4,k5,k6⟩
  ·have:els = []:=List.eq_nil_of_length_eq_zero h3
   subst this
   subst h4
   exact .emp
  ·exact absurd rfl h2
  ·rcases hro with ⟨h1,_⟩ | ⟨b',cur',h1,h2,h3,h4,h5⟩
   ·rw [k1] at h1; cases h1
   ·rw [k1] at h1
    injection h1 with h1
    subst h1
    rw [k2] at h2
    injection h2 with h2
    injection h2 with h2 h6 h7
    subst h2
    subst h6
    subst k6
    have hval:∀ j k cs p,els[j]? = some cs → cs[k]? = some p → ∃ u,cur[j * cO P e' + k]? = some u ∧ RC P w R B g (.pv p) u:=fun j k cs p hj hk => by
     have:=h5 j k (cs.map .pv) (.pv p) (by simp [iT,hj]) (by simp [hk])
     exact this
    refine .xs (s:=cO P e') (fun j k => cur.getD (j * cO P e' + k) undef) rfl (.inr ⟨n,hnk,GS.wL k1⟩) k3 (fun cs hcs => ?_) (fun j k cs p hj hk => ?_) (fun j k cs p hj hk => ?_)
    ·have:=h3 (cs.map .pv) (List.mem_map.2 ⟨cs,hcs,rfl⟩)
     simpa using this
    ·obtain ⟨u,hu,_⟩:=hval j k cs p hj hk
     rw [Nat.zero_mul,add_lit,Nat.zero_add,GU k2,hu]
     simp [Array.getD_eq_getD_getElem?,hu]
    ·obtain ⟨u,hu,hr⟩:=hval j k cs p hj hk
     have:cur.getD (j * cO P e' + k) undef = u:=by simp [Array.getD_eq_getD_getElem?,hu]
     rw [this]
     exact jW.more (fun _ h => .inl h) hr.2
 | @tl p k e2 rows r h2 hk =>
  have hm:=DX h2
  obtain ⟨_,hrows⟩:=hsh (p,.pool e2 rows) hm
  exact ⟨hx.1,rH.rpv (fun _ h => .inl h) hx (hrows k r hk) fun b hb => .inr ⟨p,List.mem_map.2 ⟨_,hm,rfl⟩,hb⟩⟩
 | @bZ n p e e2 rows lens h1 h2 hl =>
  have hm1:=DX h1
  have hm2:=DX h2
  have hro:gX P w R B g n e (fU p lens):=hsh (n,.bZ e p lens) hm1
  obtain ⟨_,hrows⟩:=hsh (p,.pool e2 rows) hm2
  have hnk:n ∈ keys sh:=List.mem_map.2 ⟨_,hm1,rfl⟩
  have hpk:p ∈ keys sh:=List.mem_map.2 ⟨_,hm2,rfl⟩
  refine ⟨hx.1,?_⟩
  rcases hx.2 with ⟨h1,_,h3,h4⟩ | ⟨_,h2,_⟩ | ⟨b,cap,cur,e',k1,k2,k3,k4,k5,k6⟩
  ·have:rows = []:=List.eq_nil_of_length_eq_zero (by rw [hl] at h3; simpa using h3)
   subst this
   subst h4
   exact .emp
  ·exact absurd rfl h2
  ·rcases hro with ⟨h1,_⟩ | ⟨b',cur',h1,h2,h3,h4,h5⟩
   ·rw [k1] at h1; cases h1
   ·rw [k1] at h1
    injection h1 with h1
    subst h1
    rw [k2] at h2
    injection h2 with h2
    injection h2 with h2 h6 h7
    subst h2
    subst h6
    subst k6
    have hcell:∀ j r,rows[j]? = some r → (fU p lens)[j]? = some [CV.tl p j 0 r.length]:=fun j r hj => by
     unfold fU
     rw [List.getElem?_mapIdx,hl,List.getElem?_map,hj]
     rfl
    have hval:∀ j r,rows[j]? = some r → ∃ u,cur[j * cO P e' + 0]? = some u ∧ RC P w R B g (.tl p j 0 r.length) u:=fun j r hj => h5 j 0 _ _ (hcell j r hj) rfl
    have hone:∀ (j i:Nat) cs q,(rows.map fun r => [PV.xs false r])[j]? = some cs → cs[i]? = some q → ∃ r,rows[j]? = some r ∧ i = 0 ∧ q = .xs false r:=fun j i cs q hj hi => by
     rw [List.getElem?_map] at hj
     cases hr:rows[j]? with
     | none => rw [hr] at hj; cases hj
     | some r =>
      rw [hr] at hj
      injection hj with hj
      subst hj
      cases i with
      | zero => simp at hi; exact ⟨r,rfl,rfl,hi.symm⟩
      | succ i => simp at hi
    refine .xs (s:=cO P e') (fun j i => cur.getD (j * cO P e' + i) undef) (by rw [hl]; simp) (.inr ⟨n,hnk,GS.wL k1⟩) (by rw [hl] at k3; simpa using k3) (fun cs hcs => ?_) (fun j i cs q hj hi => ?_) (fun j i cs q hj hi => ?_)
    ·obtain ⟨j,hj⟩:=List.mem_iff_getElem?.1 hcs
     rw [List.getElem?_map] at hj
     cases hr:rows[j]? with
     | none => rw [hr] at hj; cases hj
     | some r =>
      rw [hr] at hj
      injection hj with hj
      subst hj
      exact h3 _ (List.mem_of_getElem? (hcell j r hr))
    ·obtain ⟨r,hr,rfl,rfl⟩:=hone j i cs q hj hi
     obtain ⟨u,hu,_⟩:=hval j r hr
     have hu':cur[j * cO P e']? = some u:=hu
     rw [Nat.zero_mul,add_lit,Nat.zero_add,GU k2,hu]
     simp [Array.getD_eq_getD_getElem?,hu']
    ·obtain ⟨r,hr,rfl,rfl⟩:=hone j i cs q hj hi
     obtain ⟨u,hu,Ez⟩:=hval j r hr
     have hu':cur[j * cO P e']? = some u:=hu
     have:cur.getD (j * cO P e' + 0) undef = u:=by simp [Array.getD_eq_getD_getElem?,hu']
     rw [this]
     exact rH.rpv (fun _ h => .inl h) Ez (hrows j r hr) fun b hb => .inr ⟨p,hpk,hb⟩
theorem Gx.get {sh:Mem} {xs ys:List CV} (h:Gx sh xs ys):xs.length = ys.length ∧ ∀ (k:Nat) y,ys[k]? = some y → ∃ x,xs[k]? = some x ∧ rM sh x y:=by
 induction h with
 | nil => exact ⟨rfl,fun k y h => by simp at h⟩
 | cons h _ ih =>
  refine ⟨by simp [ih.1],fun k y hk => ?_⟩
  cases k with
  | zero => simp at hk; subst hk; exact ⟨_,rfl,h⟩
  | succ k => exact ih.2 k y (by simpa using hk)
theorem Gy.rs {sh:Mem} (hw:WF R B g w) (hsh:∀ p ∈ sh,RO P w R B g p.1 p.2) {x y:SV} {v:Value} (h:Gy sh x y) (hx:RS P w R B g x v):RS P w R (Nw sh B g) (zZ sh g) y v:=by
 cases h with
 | c h => exact rM.rc hw hsh h hx
 | agg h =>
  obtain ⟨h1,h2⟩:=h.get
  obtain ⟨vs,h3,h4,h5⟩:=hx
  refine ⟨vs,h3,h4.trans h1,fun k y hk => ?_⟩
  obtain ⟨x,h6,h7⟩:=h2 k y hk
  obtain ⟨u,h8,h9⟩:=h5 k x h6
  exact ⟨u,h8,h7.rc hw hsh h9⟩
theorem og.get {sh:Mem} {xs ys:List SV} (h:og sh xs ys):xs.length = ys.length ∧ ∀ (k:Nat) y,ys[k]? = some y → ∃ x,xs[k]? = some x ∧ Gy sh x y:=by
 induction h with
 | nil => exact ⟨rfl,fun k y h => by simp at h⟩
 | cons h _ ih =>
  refine ⟨by simp [ih.1],fun k y hk => ?_⟩
  cases k with
  | zero => simp at hk; subst hk; exact ⟨_,rfl,h⟩
  | succ k => exact ih.2 k y (by simpa using hk)
end
def dL (P:Program) (f:FuncId):Bool:=match P.funcs[f]? with
 | some fn => !(fn.name == "runtime.NumGoroutine") && fn.body.isSome
 | none => false
theorem aDK {P:Program} {f:FuncId} (h:dL P f = true) (args:Array Value) (w:World):(callFunc f args).run P w = .ok (.enter f args) w:=by
 unfold dL at h
 split at h
 ·rename_i fn hf
  simp only [Bool.and_eq_true,Bool.not_eq_true'] at h
  have hn:fn.name ≠ "runtime.NumGoroutine" := by simpa using h.1
  have hb:fn.body ≠ none:=by cases hbody:fn.body <;> simp_all
  simp [callFunc,hf,hn,hb]
 ·cases h
def LV (ops:List Operand) (xs:List SV):List (Operand × AV):=(ops.zip xs).map fun q => (q.1,.s q.2)
def plS (n:Nat):SV:=.c (.pl n 0)
theorem LT.call {P:Program} {o:Oper} {cf:Operand} {f:FuncId} {ops:Array Operand} {ts:Array TypeId} {caps:List Nat} {xs ys:List SV} {us sh df:Mem} {v:AV} {W X:List Nat} (hf:Fn P f (ys ++ caps.map plS) us v df W X)
  (ho:o.op = .call { callee:=.value cf,args:=ops,argTypes:=ts }) (hb:dL P f = true) (hlen:ops.size = xs.length) (hsh:og sh xs ys)
  (hside:(mP (keys sh) (W ++ X ++ keys us ++ keys df ++ caps) && fG W (keys us)) = true) (hus:∀ p ∈ us,nK (keys sh) p.2 = p.2):LT P o ((cf,Cc (.fn f caps)) :: LV ops.toList xs) (us ++ sh) v df W X:=by
 intro R B g w a hw hin hu K Q hK
 simp only [Bool.and_eq_true] at hside
 obtain ⟨hdis,aNT⟩:=hside
 have hd:=Qg hdis
 have aIS:∀ p ∈ sh,RO P w R B g p.1 p.2:=fun p hp => hu p (List.mem_append_right _ hp)
 have aGx:=aBx hw sh
 obtain ⟨_,cv,hcf,hcl,aHY⟩:=in1 hin
 obtain ⟨hl1,hget⟩:=hsh.get
 have hvl:(ops.toList.map a.eval).length = ys.length:=by rw [List.length_map,Array.length_toList,hlen,hl1]
 have hcall:=hf R (Nw sh B g) (zZ sh g) w (ops.toList.map a.eval ++ cv) (Xa hw sh) (by rw [List.length_append,List.length_append,hvl,hcl,List.length_map]) (fun k y hk => by
  rw [List.getElem?_append] at hk ⊢
  rw [hvl]
  split at hk
  ·rename_i hlt
   rw [if_pos hlt]
   obtain ⟨x,hx,hs⟩:=hget k y hk
   have hkl:k < ops.toList.length:=by rw [Array.length_toList,hlen,hl1]; exact hlt
   refine ⟨a.eval ops.toList[k],by rw [List.getElem?_map,List.getElem?_eq_getElem hkl]; rfl,?_⟩
   refine hs.rs hw aIS ?_
   have hm:(ops.toList[k],AV.s x) ∈ LV ops.toList xs:=by
    refine List.mem_map.2 ⟨(ops.toList[k],x),?_,rfl⟩
    refine List.mem_of_getElem? (i:=k) ?_
    rw [List.getElem?_zip_eq_some]
    exact ⟨List.getElem?_eq_getElem hkl,hx⟩
   exact hin _ (List.mem_cons_of_mem _ hm)
  ·rename_i hlt
   rw [if_neg hlt]
   rw [List.getElem?_map] at hk
   cases hc:caps[k - ys.length]? with
   | none => rw [hc] at hk; cases hk
   | some n =>
    rw [hc] at hk
    injection hk with hk
    subst hk
    obtain ⟨b,h1,h2⟩:=aHY _ n hc
    have hn:n ∉ keys sh:=fun hm => hd n hm (List.mem_append_right _ (List.mem_of_getElem? hc))
    exact ⟨_,h2,rfl,b,(zf hn).trans h1,rfl⟩)
  (fun p hp => by
   have hn:p.1 ∉ keys sh:=fun hm => hd p.1 hm (List.mem_append_left _ (List.mem_append_left _ (List.mem_append_right _ (List.mem_map.2 ⟨p,hp,rfl⟩))))
   have:=aGx.ro hw hn (by simp) (hu p (List.mem_append_left _ hp))
   rwa [hus p hp] at this)
 have hrun:(execOp a.eval o).run P w = .ok (.enter f (ops.toList.map a.eval ++ cv).toArray) w:=by
  have e1:(ops.map a.eval ++ cv.toArray) = (ops.toList.map a.eval ++ cv).toArray:=by
   apply Array.ext'
   simp
  simp only [execOp,ho,resolve,hcf,Deferred.ofValue,Sem.run_bind,Sem.run_pure,Result.andThen_ok,invoke]
  first
   | (simp only [Array.empty_append,aDK hb,e1]; done)
   | (simp only [Array.empty_append]; rw [← e1]; exact aDK hb _ w)
 unfold Oper.wp
 rw [hrun]
 rw [Oper.upon_enter]
 refine hcall.mono fun e w' hp => ?_
 obtain ⟨u,R',B',g',rfl,had,hR,hv,hdf⟩:=hp
 -- back in the caller: what was lent is its own again
 have aBC:∀ n ∈ keys sh,n ∉ X:=fun n hn hx => hd n hn (List.mem_append_left _ (List.mem_append_left _ (List.mem_append_left _ (List.mem_append_right _ hx))))
 have aBB:∀ n ∈ keys sh,n ∉ W:=fun n hn hx => hd n hn (List.mem_append_left _ (List.mem_append_left _ (List.mem_append_left _ (List.mem_append_left _ hx))))
 have aHe:∀ n ∈ keys sh,g' n = .dead:=fun n hn => (had.names n (aBC n hn)).trans (IK hn)
 classical
 let g2:Nat → GS:=fun n => if n ∈ keys sh then g n else g' n
 have hin2:∀ n,n ∈ keys sh → g2 n = g n:=fun n hn => if_pos hn
 have hout2:∀ n,n ∉ keys sh → g2 n = g' n:=fun n hn => if_neg hn
 let B2:Nat → Prop:=fun b => B b ∨ R' b
 have hold:∀ n b,n ∈ keys sh → (g n).has b → ¬ B2 b ∧ b < w'.heap.size:=fun n b hn hg => by
  have h1:=hw.ja n b hg
  refine ⟨fun hB => ?_,Nat.lt_of_lt_of_le h1.2 had.size⟩
  rcases hB with hB | hB
  ·exact h1.1 hB
  ·rcases hR b hB with h2 | h2
   ·exact h1.1 (hw.rb b h2)
   ·exact absurd h1.2 (by omega)
 have Md:∀ n k b,n ∈ keys sh → k ∉ keys sh → (g n).has b → (g' k).has b → False:=fun n k b hn hk h1 h2 => by
  by_cases hkX:k ∈ X
  ·rcases had.fresh k hkX b h2 with h3 | ⟨j,hj,h3⟩
   ·exact absurd (hw.ja n b h1).2 (by omega)
   ·have hjs:j ∉ keys sh:=fun hm => aBB j hm hj
    rw [zf hjs] at h3
    exact hjs (hw.kW n j b h1 h3 ▸ hn)
  ·rw [had.names k hkX,zf hk] at h2
   exact hk (hw.kW n k b h1 h2 ▸ hn)
 have NW:WF R' B2 g2 w':=by
  refine ⟨fun b hb => .inr hb,fun b hb => hb.elim (fun hb => Nat.lt_of_lt_of_le (hw.lt b hb) had.size) fun hb => had.wf.lt b (had.wf.rb b hb),fun n b hg => ?_,fun n k b hn hk => ?_,fun n j k b hj hk => ?_⟩
  ·by_cases hn:n ∈ keys sh
   ·rw [hin2 n hn] at hg
    exact hold n b hn hg
   ·rw [hout2 n hn] at hg
    have h1:=had.wf.ja n b hg
    exact ⟨fun hB => h1.1 (hB.elim (fun h => had.b b (.inl h)) (had.wf.rb b)),h1.2⟩
  ·by_cases h1:n ∈ keys sh <;> by_cases h2:k ∈ keys sh
   ·rw [hin2 n h1] at hn
    rw [hin2 k h2] at hk
    exact hw.kW n k b hn hk
   ·rw [hin2 n h1] at hn
    rw [hout2 k h2] at hk
    exact (Md n k b h1 h2 hn hk).elim
   ·rw [hout2 n h1] at hn
    rw [hin2 k h2] at hk
    exact (Md k n b h2 h1 hk hn).elim
   ·rw [hout2 n h1] at hn
    rw [hout2 k h2] at hk
    exact had.wf.kW n k b hn hk
  ·by_cases hn:n ∈ keys sh
   ·rw [hin2 n hn] at hj hk
    exact hw.nd n j k b hj hk
   ·rw [hout2 n hn] at hj hk
    exact had.wf.nd n j k b hj hk
 have Vo:∀ n ∈ W,zZ sh g n = g n:=fun n hn => zf fun hm => aBB n hm hn
 have aGy:iR R B g w W X R' B2 g2 w':=by
  refine ⟨NW,had.r,fun b hb => .inl hb,had.os,had.tape,had.output,had.size,fun b hb hW => had.heap b hb fun n hn => by rw [Vo n hn]; exact hW n hn,fun n hn => ?_,fun n hn b hb => ?_,fun n nI vM b cur e hg hh => ?_⟩
  ·by_cases h1:n ∈ keys sh
   ·exact hin2 n h1
   ·rw [hout2 n h1,had.names n hn,zf h1]
  ·have h1:n ∉ keys sh:=fun hm => aBC n hm hn
   rw [hout2 n h1] at hb
   rcases had.fresh n hn b hb with h2 | ⟨k,hk,h2⟩
   ·exact .inl h2
   ·rw [Vo k hk] at h2
    exact .inr ⟨k,hk,h2⟩
  ·exact had.shape n nI vM b cur e (by rw [Vo n nI]; exact hg) hh
 have hgd:∀ n,g' n ≠ .dead → g2 n = g' n:=fun n hg => by
  by_cases h1:n ∈ keys sh
  ·exact absurd (aHe n h1) hg
  ·exact hout2 n h1
 exact hK u R' B2 g2 w' aGy hR (fun _ => (hv.more fun b hb => .inr hb).names hgd) fun p hp => ((hdf p hp).more fun b hb => .inr hb).names hgd
end
section
structure Ct where
 ins:List (Operand × AV)
 us:Mem
 v:AV
 df:Mem
 W:List Nat
 X:List Nat
 want:Bool
abbrev OC:=Oper × Ct
def mX (p:OC) (st:Slots × Mem):Slots × Mem:=(fO (kM p.2.X st.1) p.1.dst p.2.v,p.2.df ++ jK p.2.X st.2)
def lQ:List OC → Slots × Mem → Slots × Mem
 | [],st => st
 | p :: r,st => lQ r (mX p st)
def jX (X:List Nat):CV → Bool
 | .loc n _ _ => !X.elem n
 | .pl n _ => !X.elem n
 | .fn _ caps => !caps.any X.elem
 | .mref n => !X.elem n
 | .tl p _ _ _ => !X.elem p
 | .tpl p _ _ => !X.elem p
 | _ => true
def PS (X:List Nat):SV → Bool
 | .c x => jX X x
 | .agg cs => cs.all (jX X)
def um (X:List Nat):AV → Bool
 | .s x => PS X x
 | .dM xs => xs.all (PS X)
def pJ (X:List Nat):Ob → Bool
 | .row _ els => els.all (·.all (jX X))
 | .bZ _ p _ => !X.elem p
 | _ => true
def F5:CV → Bool
 | .junk => false
 | _ => true
def Xn:SV → Bool
 | .c x => F5 x
 | .agg cs => cs.all F5
def PL:AV → Bool
 | .s x => Xn x
 | .dM xs => xs.all Xn
def Xm:Ob → Bool
 | .row _ els => els.all (·.all F5)
 | .unk => false
 | _ => true
theorem SH {X:List Nat} {x:CV} (h:jX X x = true):bY X x = x:=by
 cases x with
 | fn f caps => cases hx:caps.any X.elem <;> simp only [jX,bY,hx,cond_true,cond_false] at h ⊢ <;> first | rfl | cases h
 | tl p k o l => cases hx:X.elem p <;> simp only [jX,bY,hx,cond_true,cond_false] at h ⊢ <;> first | rfl | cases h
 | tpl p k o => cases hx:X.elem p <;> simp only [jX,bY,hx,cond_true,cond_false] at h ⊢ <;> first | rfl | cases h
 | _ => simp_all [jX,bY]
theorem J8 {α:Type} {f:α → α} {l:List α} (h:∀ x ∈ l,f x = x):l.map f = l:=by
 rw [List.map_congr_left h,List.map_id']
theorem aBq {X:List Nat} {x:SV} (h:PS X x = true):rY X x = x:=by
 cases x with
 | c x => simp only [rY,SH h]
 | agg cs => simp only [rY,J8 fun x hx => SH (List.all_eq_true.1 h x hx)]
theorem XR {X:List Nat} {x:AV} (h:um X x = true):qB X x = x:=by
 cases x with
 | s x => simp only [qB,aBq h]
 | dM xs => simp only [qB,J8 fun x hx => aBq (List.all_eq_true.1 h x hx)]
theorem XW {X:List Nat} {x:Ob} (h:pJ X x = true):nK X x = x:=by
 cases x with
 | row e els => simp only [nK,J8 fun cs hcs => J8 fun x hx => SH (List.all_eq_true.1 (List.all_eq_true.1 h cs hcs) x hx)]
 | dF e els => rfl
 | mp es => rfl
 | pool e rows => rfl
 | bZ e p lens =>
  have hx:X.elem p = false:=by simpa [pJ] using h
  simp only [nK,hx,cond_false]
 | unk => rfl
theorem XV {X:List Nat} {x:CV} (h:F5 (bY X x) = true):jX X x = true:=by
 cases x with
 | loc n o l => cases hx:X.elem n <;> simp_all [jX,bY,F5]
 | pl n o => cases hx:X.elem n <;> simp_all [jX,bY,F5]
 | fn f caps => cases hx:caps.any X.elem <;> simp only [jX,bY,hx,cond_true,cond_false] at h ⊢ <;> first | rfl | cases h
 | mref n => cases hx:X.elem n <;> simp_all [jX,bY,F5]
 | tl p k o l => cases hx:X.elem p <;> simp only [jX,bY,hx,cond_true,cond_false] at h ⊢ <;> first | rfl | cases h
 | tpl p k o => cases hx:X.elem p <;> simp only [jX,bY,hx,cond_true,cond_false] at h ⊢ <;> first | rfl | cases h
 | _ => rfl
theorem aBp {X:List Nat} {x:SV} (h:Xn (rY X x) = true):PS X x = true:=by
 cases x with
 | c x => exact XV h
 | agg cs => exact List.all_eq_true.2 fun x hx => XV (List.all_eq_true.1 h _ (List.mem_map.2 ⟨x,hx,rfl⟩))
theorem aJd {X:List Nat} {x:AV} (h:PL (qB X x) = true):um X x = true:=by
 cases x with
 | s x => exact aBp h
 | dM xs => exact List.all_eq_true.2 fun x hx => aBp (List.all_eq_true.1 h _ (List.mem_map.2 ⟨x,hx,rfl⟩))
theorem aJg {X:List Nat} {x:Ob} (h:Xm (nK X x) = true):pJ X x = true:=by
 cases x with
 | row e els => exact List.all_eq_true.2 fun cs hcs => List.all_eq_true.2 fun x hx => XV (List.all_eq_true.1 (List.all_eq_true.1 h _ (List.mem_map.2 ⟨cs,hcs,rfl⟩)) _ (List.mem_map.2 ⟨x,hx,rfl⟩))
 | dF e els => rfl
 | mp es => rfl
 | pool e rows => rfl
 | bZ e p lens =>
  cases hx:X.elem p with
  | false => simp only [pJ,hx,Bool.not_false]
  | true => simp only [nK,hx,cond_true] at h; cases h
 | unk => cases h
theorem XU (X Y:List Nat) (x:CV):bY X (bY Y x) = bY Y (bY X x):=by
 cases x with
 | loc n o l => cases hx:X.elem n <;> cases hy:Y.elem n <;> simp only [bY,hx,hy,cond_true,cond_false]
 | pl n o => cases hx:X.elem n <;> cases hy:Y.elem n <;> simp only [bY,hx,hy,cond_true,cond_false]
 | fn f caps => cases hx:caps.any X.elem <;> cases hy:caps.any Y.elem <;> simp only [bY,hx,hy,cond_true,cond_false]
 | mref n => cases hx:X.elem n <;> cases hy:Y.elem n <;> simp only [bY,hx,hy,cond_true,cond_false]
 | tl n k o l => cases hx:X.elem n <;> cases hy:Y.elem n <;> simp only [bY,hx,hy,cond_true,cond_false]
 | tpl n k o => cases hx:X.elem n <;> cases hy:Y.elem n <;> simp only [bY,hx,hy,cond_true,cond_false]
 | _ => rfl
theorem aBn (X Y:List Nat) (x:SV):rY X (rY Y x) = rY Y (rY X x):=by
 cases x with
 | c x => simp only [rY,XU X Y]
 | agg cs => simp only [rY,List.map_map,Function.comp_def,XU X Y]
theorem aJb (X Y:List Nat) (x:AV):qB X (qB Y x) = qB Y (qB X x):=by
 cases x with
 | s x => simp only [qB,aBn X Y]
 | dM xs => simp only [qB,List.map_map,Function.comp_def,aBn X Y]
theorem aJe (X Y:List Nat) (x:Ob):nK X (nK Y x) = nK Y (nK X x):=by
 cases x with
 | row e els => simp only [nK,List.map_map,Function.comp_def,XU X Y]
 | dF e els => rfl
 | mp es => rfl
 | pool e rows => rfl
 | bZ e p lens => cases hx:X.elem p <;> cases hy:Y.elem p <;> simp only [nK,hx,hy,cond_true,cond_false]
 | unk => rfl
theorem aB4 (σ:Slots) (d:Option Tmp) (v:AV) (t:Nat):lk (fO σ d v) t = if d = some t then some v else lk σ t:=by
 cases d with
 | none => simp [fO]
 | some d =>
  show (bif Nat.beq d t then some v else lk σ t) = _
  cases hb:Nat.beq d t with
  | true => have:=Nat.eq_of_beq_eq_true hb; subst this; simp
  | false => have:=Nat.ne_of_beq_eq_false hb; simp [this]
theorem BQ (p:OC) (st:Slots × Mem) (t:Nat):lk (mX p st).1 t = if p.1.dst = some t then some p.2.v else (lk st.1 t).map (qB p.2.X):=by
 unfold mX
 rw [aB4,IQ]
theorem SK (X:List Nat):∀ (m:Mem) (n:Nat),lk (jK X m) n = if n ∈ X then none else (lk m n).map (nK X)
 | [],n => by simp [jK,lk]
 | (k,v) :: r,n => by
  unfold jK
  have ih:=SK X r n
  cases hk:X.elem k with
  | true =>
   rw [cond_true,ih]
   have hkX:=List.mem_of_elem_eq_true hk
   by_cases hn:n ∈ X
   ·rw [if_pos hn,if_pos hn]
   ·rw [if_neg hn,if_neg hn]
    congr 1
    show lk r n = (bif Nat.beq k n then some v else lk r n)
    cases hb:Nat.beq k n with
    | true => have:=Nat.eq_of_beq_eq_true hb; subst this; exact absurd hkX hn
    | false => rfl
  | false =>
   rw [cond_false]
   show (bif Nat.beq k n then some (nK X v) else lk (jK X r) n) = if n ∈ X then none else ((bif Nat.beq k n then some v else lk r n)).map (nK X)
   cases hb:Nat.beq k n with
   | true => have:=Nat.eq_of_beq_eq_true hb; subst this; rw [if_neg (mM hk)]; rfl
   | false => rw [cond_false,cond_false,ih]
theorem aBz {α:Type}:∀ (x y:List (Nat × α)) (n:Nat),lk (x ++ y) n = if n ∈ keys x then lk x n else lk y n
 | [],y,n => by simp [keys]
 | (k,v) :: r,y,n => by
  show (bif Nat.beq k n then some v else lk (r ++ y) n) = if n ∈ keys ((k,v) :: r) then (bif Nat.beq k n then some v else lk r n) else lk y n
  cases hb:Nat.beq k n with
  | true => have:=Nat.eq_of_beq_eq_true hb; subst this; simp [keys]
  | false =>
   have hne:=Nat.ne_of_beq_eq_false hb
   rw [cond_false,cond_false,aBz r y n]
   have:n ∈ keys ((k,v) :: r) ↔ n ∈ keys r:=by simp [keys,Ne.symm hne]
   by_cases h:n ∈ keys r
   ·rw [if_pos h,if_pos (this.2 h)]
   ·rw [if_neg h,if_neg fun h' => h (this.1 h')]
theorem BP (p:OC) (st:Slots × Mem) (n:Nat):lk (mX p st).2 n = if n ∈ keys p.2.df then lk p.2.df n else if n ∈ p.2.X then none else (lk st.2 n).map (nK p.2.X):=by
 unfold mX
 rw [aBz,SK]
def uH (a b:Slots × Mem):Prop:=(∀ t,lk a.1 t = lk b.1 t) ∧ ∀ n,lk a.2 n = lk b.2 n
theorem uH.refl (a:Slots × Mem):uH a a:=⟨fun _ => rfl,fun _ => rfl⟩
theorem uH.trans {a b c:Slots × Mem} (h:uH a b) (k:uH b c):uH a c:=⟨fun t => (h.1 t).trans (k.1 t),fun n => (h.2 n).trans (k.2 n)⟩
theorem uH.step {a b:Slots × Mem} (h:uH a b) (p:OC):uH (mX p a) (mX p b):=⟨fun t => by rw [BQ,BQ,h.1],fun n => by rw [BP,BP,h.2]⟩
theorem uH.run {a b:Slots × Mem} (h:uH a b):∀ L:List OC,uH (lQ L a) (lQ L b)
 | [] => h
 | p :: r => uH.run (h.step p) r
def D7 (ops:Array Oper) (p:OC):List Nat :=
 (p.2.ins.filterMap fun q => match q.1 with | .tmp t => some t | _ => none) ++ (match p.1.guard with | some (j,_) => ((ops[j]?).bind (·.dst)).toList | none => [])
def CW (p:OC):List Nat:=p.2.W ++ p.2.X ++ keys p.2.df
def PO (p:OC):List Nat:=keys p.2.us ++ CW p
def half (ops:Array Oper) (a b:OC):Bool :=
 (match a.1.dst with | some d => !(D7 ops b).elem d && b.1.dst != some d | none => true) && mP (CW a) (PO b) && um a.2.X b.2.v && b.2.ins.all (fun q => um a.2.X q.2) && b.2.us.all (fun q => pJ a.2.X q.2) && b.2.df.all (fun q => pJ a.2.X q.2)
def indep (ops:Array Oper) (a b:OC):Bool:=half ops a b && half ops b a
structure Half (ops:Array Oper) (a b:OC):Prop where
 rd:∀ d,a.1.dst = some d → d ∉ D7 ops b
 ds:∀ d,a.1.dst = some d → b.1.dst ≠ some d
 nm:∀ n ∈ CW a,n ∉ PO b
 v:qB a.2.X b.2.v = b.2.v
 ins:∀ q ∈ b.2.ins,um a.2.X q.2 = true
 us:∀ q ∈ b.2.us,pJ a.2.X q.2 = true
 df:∀ q ∈ b.2.df,pJ a.2.X q.2 = true
theorem Qz {ops:Array Oper} {a b:OC} (h:half ops a b = true):Half ops a b:=by
 unfold half at h
 simp only [Bool.and_eq_true] at h
 obtain ⟨⟨⟨⟨⟨h1,h2⟩,h3⟩,h4⟩,h5⟩,h6⟩:=h
 refine ⟨fun d hd => ?_,fun d hd => ?_,Qg h2,XR h3,List.all_eq_true.1 h4,List.all_eq_true.1 h5,List.all_eq_true.1 h6⟩
 ·rw [hd] at h1
  simp only [Bool.and_eq_true,Bool.not_eq_true'] at h1
  exact mM h1.1
 ·rw [hd] at h1
  simp only [Bool.and_eq_true] at h1
  simpa using h1.2
theorem Nu {p:OC} {n:Nat} (h:n ∈ keys p.2.df):n ∈ CW p:=List.mem_append_right _ h
theorem Ui {p:OC} {n:Nat} (h:n ∈ p.2.X):n ∈ CW p:=List.mem_append_left _ (List.mem_append_right _ h)
theorem Yr {p:OC} {n:Nat} (h:n ∈ CW p):n ∈ PO p:=List.mem_append_right _ h
theorem aB2 {α:Type} {l:List (Nat × α)} {n:Nat} {o:α} (h:lk l n = some o):n ∈ keys l:=List.mem_map.2 ⟨_,DX h,rfl⟩
theorem aB1 {X:List Nat} {df:Mem} (h:∀ q ∈ df,pJ X q.2 = true) (n:Nat):(lk df n).map (nK X) = lk df n:=by
 cases hl:lk df n with
 | none => rfl
 | some o => exact congrArg some (XW (h _ (DX hl)))
theorem swap {ops:Array Oper} {a b:OC} (h:indep ops a b = true) (st:Slots × Mem):uH (mX a (mX b st)) (mX b (mX a st)):=by
 unfold indep at h
 simp only [Bool.and_eq_true] at h
 have hab:=Qz h.1
 have hba:=Qz h.2
 refine ⟨fun t => ?_,fun n => ?_⟩
 ·rw [BQ,BQ,BQ,BQ]
  by_cases h1:a.1.dst = some t
  ·have h2:=hab.ds t h1
   rw [if_pos h1,if_neg h2,if_pos h1]
   simp [hba.v]
  ·by_cases h2:b.1.dst = some t
   ·rw [if_neg h1,if_pos h2,if_pos h2]
    simp [hab.v]
   ·rw [if_neg h1,if_neg h2,if_neg h2,if_neg h1]
    cases lk st.1 t with
    | none => rfl
    | some x => simp [aJb a.2.X b.2.X]
 ·rw [BP,BP,BP,BP]
  have e1:n ∈ CW a → n ∉ keys b.2.df ∧ n ∉ b.2.X:=fun hn => ⟨fun h => hab.nm n hn (Yr (Nu h)),fun h => hab.nm n hn (Yr (Ui h))⟩
  by_cases ha1:n ∈ keys a.2.df
  ·obtain ⟨hb1,hb2⟩:=e1 (Nu ha1)
   rw [if_pos ha1,if_neg hb1,if_neg hb2,if_pos ha1,aB1 hba.df]
  ·by_cases hb1:n ∈ keys b.2.df
   ·have hb:n ∈ CW b:=Nu hb1
    have ha2:n ∉ a.2.X:=fun h => hba.nm n hb (Yr (Ui h))
    rw [if_neg ha1,if_neg ha2,if_pos hb1,if_pos hb1,aB1 hab.df]
   ·by_cases ha2:n ∈ a.2.X
    ·obtain ⟨_,hb2⟩:=e1 (Ui ha2)
     rw [if_neg ha1,if_pos ha2,if_neg hb1,if_neg hb2,if_neg ha1,if_pos ha2]
     rfl
    ·by_cases hb2:n ∈ b.2.X
     ·rw [if_neg ha1,if_neg ha2,if_neg hb1,if_pos hb2,if_neg hb1,if_pos hb2]
      rfl
     ·rw [if_neg ha1,if_neg ha2,if_neg hb1,if_neg hb2,if_neg hb1,if_neg hb2,if_neg ha1,if_neg ha2]
      cases lk st.2 n with
      | none => rfl
      | some x => simp [aJe a.2.X b.2.X]
theorem push {ops:Array Oper} {a:OC}:∀ (L:List OC) (st:Slots × Mem),(∀ b ∈ L,indep ops a b = true) → uH (mX a (lQ L st)) (lQ L (mX a st))
 | [],_,_ => .refl _
 | b :: r,st,h => (push r (mX b st) fun c hc => h c (List.mem_cons_of_mem _ hc)).trans ((swap (h b List.mem_cons_self) st).run r)
theorem aDQ:∀ (L:List OC) (p:OC) (st:Slots × Mem),lQ (L ++ [p]) st = mX p (lQ L st)
 | [],_,_ => rfl
 | q :: r,p,st => aDQ r p (mX q st)
theorem GX:∀ (L K:List OC) (st:Slots × Mem),lQ (L ++ K) st = lQ K (lQ L st)
 | [],_,_ => rfl
 | q :: r,K,st => GX r K (mX q st)
theorem aDV {t:Nat} {av:AV} (hj:PL av = true):∀ (L:List OC) (st:Slots × Mem),lk (lQ L st).1 t = some av →
  (∃ A p B,L = A ++ p :: B ∧ p.1.dst = some t ∧ p.2.v = av ∧ ∀ q ∈ B,q.1.dst ≠ some t ∧ um q.2.X av = true) ∨ (lk st.1 t = some av ∧ ∀ q ∈ L,q.1.dst ≠ some t ∧ um q.2.X av = true)
 | [],st,h => .inr ⟨h,fun q hq => by cases hq⟩
 | p :: r,st,h => by
  rcases aDV hj r (mX p st) h with ⟨A,q,B,rfl,h1,h2,h3⟩ | ⟨h1,h2⟩
  ·exact .inl ⟨p :: A,q,B,rfl,h1,h2,h3⟩
  ·rw [BQ] at h1
   by_cases hd:p.1.dst = some t
   ·rw [if_pos hd] at h1
    injection h1 with h1
    exact .inl ⟨[],p,r,rfl,hd,h1,h2⟩
   ·rw [if_neg hd] at h1
    cases hl:lk st.1 t with
    | none => rw [hl] at h1; cases h1
    | some x =>
     rw [hl] at h1
     injection h1 with h1
     have hnr:um p.2.X x = true:=aJd (by rw [h1]; exact hj)
     have hx:x = av:=by rw [← h1,XR hnr]
     subst hx
     refine .inr ⟨rfl,fun q hq => ?_⟩
     cases hq with
     | head => exact ⟨hd,hnr⟩
     | tail _ hq => exact h2 q hq
theorem YR {t:Nat} {av:AV}:∀ (L:List OC) (st:Slots × Mem),lk st.1 t = some av → (∀ q ∈ L,q.1.dst ≠ some t ∧ um q.2.X av = true) → lk (lQ L st).1 t = some av
 | [],_,h,_ => h
 | p :: r,st,h,k => by
  refine YR r (mX p st) ?_ fun q hq => k q (List.mem_cons_of_mem _ hq)
  obtain ⟨h1,h2⟩:=k p List.mem_cons_self
  rw [BQ,if_neg h1,h]
  exact congrArg some (XR h2)
theorem aCV {n:Nat} {ob:Ob} (hj:Xm ob = true):∀ (L:List OC) (st:Slots × Mem),lk (lQ L st).2 n = some ob →
  (∃ A p B,L = A ++ p :: B ∧ lk p.2.df n = some ob ∧ ∀ q ∈ B,n ∉ keys q.2.df ∧ n ∉ q.2.X ∧ pJ q.2.X ob = true) ∨ (lk st.2 n = some ob ∧ ∀ q ∈ L,n ∉ keys q.2.df ∧ n ∉ q.2.X ∧ pJ q.2.X ob = true)
 | [],st,h => .inr ⟨h,fun q hq => by cases hq⟩
 | p :: r,st,h => by
  rcases aCV hj r (mX p st) h with ⟨A,q,B,rfl,h1,h2⟩ | ⟨h1,h2⟩
  ·exact .inl ⟨p :: A,q,B,rfl,h1,h2⟩
  ·rw [BP] at h1
   by_cases hd:n ∈ keys p.2.df
   ·rw [if_pos hd] at h1
    exact .inl ⟨[],p,r,rfl,h1,h2⟩
   ·rw [if_neg hd] at h1
    by_cases hX:n ∈ p.2.X
    ·rw [if_pos hX] at h1; cases h1
    ·rw [if_neg hX] at h1
     cases hl:lk st.2 n with
     | none => rw [hl] at h1; cases h1
     | some x =>
      rw [hl] at h1
      injection h1 with h1
      have hnr:pJ p.2.X x = true:=aJg (by rw [h1]; exact hj)
      have hx:x = ob:=by rw [← h1,XW hnr]
      subst hx
      refine .inr ⟨rfl,fun q hq => ?_⟩
      cases hq with
      | head => exact ⟨hd,hX,hnr⟩
      | tail _ hq => exact h2 q hq
theorem Xq {n:Nat} {ob:Ob}:∀ (L:List OC) (st:Slots × Mem),lk st.2 n = some ob → (∀ q ∈ L,n ∉ keys q.2.df ∧ n ∉ q.2.X ∧ pJ q.2.X ob = true) → lk (lQ L st).2 n = some ob
 | [],_,h,_ => h
 | p :: r,st,h,k => by
  refine Xq r (mX p st) ?_ fun q hq => k q (List.mem_cons_of_mem _ hq)
  obtain ⟨h1,h2,h3⟩:=k p List.mem_cons_self
  rw [BP,if_neg h1,if_neg h2,h]
  exact congrArg some (XW h3)
def One (P:Program) (C:Ctx) (ops:Array Oper) (p:OC) (st:Slots × Mem):Prop :=
 match p.2.want with
 | true => LT P p.1 p.2.ins p.2.us p.2.v p.2.df p.2.W p.2.X ∧ EvL st.1 p.2.ins ∧ pF st.2 p.2.us ∧ iJ ops st.1 p.1 true ∧ (iF C.N p.1.dst && fG p.2.W (p.2.X ++ keys p.2.df) && fG p.2.W (keys p.2.us) && fG (keys p.2.df) (p.2.X ++ p.2.W) && mP p.2.X C.pn) = true
 | false => iJ ops st.1 p.1 false ∧ iF C.N p.1.dst = true ∧ p.2.v = .dM [] ∧ p.2.df = [] ∧ p.2.X = [] ∧ p.2.ins = [] ∧ p.2.us = []
section
variable {P:Program} {C:Ctx} {ops:Array Oper}
theorem St.eqs {st st':Slots × Mem} {R B:Nat → Prop} {g:Nat → GS} {a:Act} {w:World} (h:uH st st') (hs:St P C st.1 st.2 R B g a w):St P C st'.1 st'.2 R B g a w :=
 hs.weak (fun t v hv => (h.1 t).trans hv) fun n o ho => (h.2 n).trans ho
theorem One.wp {p:OC} {st:Slots × Mem} (h:One P C ops p st) {R B:Nat → Prop} {g:Nat → GS} {a:Act} {w:World} (hs:St P C st.1 st.2 R B g a w) {i:Nat} (hi:ops[i]? = some p.1) {K:Act → World → Prop} {Q:Exit → Act → World → Prop}
  (hK:∀ R' B' g' a' w',St P C (mX p st).1 (mX p st).2 R' B' g' a' w' → K a' w'):wpOp P ops Q i K a w:=by
 unfold wpOp
 rw [hi]
 simp only
 unfold One at h
 split at h
 ·obtain ⟨hlt,hin,hus,hg,hside⟩:=h
  simp only [Bool.and_eq_true] at hside
  obtain ⟨⟨⟨⟨h1,h2⟩,h3⟩,h4⟩,h5⟩:=hside
  rw [if_pos (hg.wanted hs)]
  refine .inl (hlt R B g w a hs.wf (EvL.ra hs hin) (fun p hp => (pF.ro hs hus p hp).1) K _ fun u R' B' g' w' had hR hv hob => ?_)
  exact hK _ _ _ _ _ (hs.step hus (fun n hn => ⟨List.mem_append.1 (xG h2 n hn),mem_keys (xG h3 n hn)⟩) (fun p hp => List.mem_append.1 (xG h4 p.1 (List.mem_map.2 ⟨p,hp,rfl⟩))) h1 (Qg h5) had hR hv hob)
 ·obtain ⟨hg,hd,h1,h2,h3,_,_⟩:=h
  rw [if_neg (by rw [hg.wanted hs]; exact Bool.false_ne_true)]
  refine hK R B g _ w ?_
  have e:mX p st = (fO st.1 p.1.dst (.dM []),st.2):=by
   unfold mX
   rw [h1,h2,h3,Ns,II]
   rfl
  rw [e]
  refine { hs with nd:=(X6 a _ _).trans hs.nd,sz:=(X7 a _ _).trans hs.sz,sl:=fun t v ht => ?_ }
  change lk (fO st.1 p.1.dst (.dM [])) t = some v at ht
  rw [aB4] at ht
  cases hdst:p.1.dst with
  | none => rw [hdst] at ht; exact hs.sl t v (by simpa using ht)
  | some d =>
   rw [hdst] at ht hd
   have hlt:d < a.tmps.size:=by rw [hs.sz]; exact Nat.le_of_ble_eq_true hd
   rw [VZ a d t undef hlt]
   by_cases hdt:d = t
   ·subst hdt
    rw [if_pos rfl] at ht ⊢
    injection ht with ht
    subst ht
    exact ⟨[],rfl,rfl,fun k x hk => by simp at hk⟩
   ·rw [if_neg hdt]
    rw [if_neg (by simpa using hdt)] at ht
    exact hs.sl t v ht
theorem One.of {p:OC} {st st':Slots × Mem} (h:One P C ops p st) (h1:∀ t ∈ D7 ops p,∀ v,lk st.1 t = some v → lk st'.1 t = some v) (h2:∀ q ∈ p.2.us,lk st.2 q.1 = some q.2 → lk st'.2 q.1 = some q.2):One P C ops p st':=by
 have hg:∀ b,iJ ops st.1 p.1 b → iJ ops st'.1 p.1 b:=fun b hb => by
  unfold iJ at hb ⊢
  split at hb
  ·exact hb
  ·rename_i j want hgd
   obtain ⟨d,k1,⟨c,k2,k3⟩ | ⟨k2,k3⟩⟩:=hb
   ·exact ⟨d,k1,.inl ⟨c,h1 d (by simp [D7,hgd,k1]) _ k2,k3⟩⟩
   ·exact ⟨d,k1,.inr ⟨h1 d (by simp [D7,hgd,k1]) _ k2,k3⟩⟩
 unfold One at h ⊢
 split at h
 ·rename_i hw
  obtain ⟨k1,k2,k3,k4,k5⟩:=h
  refine ⟨k1,?_,?_,hg _ k4,k5⟩
  ·have:∀ ins:List (Operand × AV),(∀ q ∈ ins,q ∈ p.2.ins) → EvL st.1 ins → EvL st'.1 ins:=by
    intro ins
    induction ins with
    | nil => intro _ _; trivial
    | cons q r ih =>
     intro hm he
     obtain ⟨x,v⟩:=q
     refine ⟨?_,ih (fun q hq => hm q (List.mem_cons_of_mem _ hq)) he.2⟩
     have hx:=he.1
     cases x with
     | tmp t => exact h1 t (List.mem_append_left _ (List.mem_filterMap.2 ⟨_,hm _ List.mem_cons_self,rfl⟩)) v hx
     | _ => exact hx
   exact this _ (fun _ h => h) k2
  ·have:∀ us:Mem,(∀ q ∈ us,q ∈ p.2.us) → pF st.2 us → pF st'.2 us:=by
    intro us
    induction us with
    | nil => intro _ _; trivial
    | cons q r ih =>
     intro hm he
     obtain ⟨n,o⟩:=q
     exact ⟨h2 _ (hm _ List.mem_cons_self) he.1,ih (fun q hq => hm q (List.mem_cons_of_mem _ hq)) he.2⟩
   exact this _ (fun _ h => h) k3
 ·exact ⟨hg _ h.1,h.2⟩
def KQ (l:List Oper) (pr:List Nat):Nat → List Oper → Bool
 | _,[] => true
 | k,o :: r => (o.after.toList.all fun e => !Region.binds .any e || Nat.blt e.on k) && Nat.beq (Nat.lor (pr.getD k 0) (o.after.toList.foldl (fun s e => bif Region.binds .any e then Nat.lor (Nat.lor s (2 ^ e.on)) (pr.getD e.on 0) else s) 0)) (o.after.toList.foldl (fun s e => bif Region.binds .any e then Nat.lor (Nat.lor s (2 ^ e.on)) (pr.getD e.on 0) else s) 0) && KQ l pr (k + 1) r
def KO (ops:Array Oper) (tZ:Nat) (b:OC):Nat → List OC → Bool
 | _,[] => true
 | j,a :: r => (tZ.testBit j || indep ops a b) && KO ops tZ b (j + 1) r
def Lj (tZ:Nat):Nat → Bool
 | 0 => true
 | n + 1 => tZ.testBit n && Lj tZ n
def PN (p:OC):Bool:=p.2.ins.all (fun q => PL q.2) && p.2.us.all fun q => Xm q.2
def EY (ops:Array Oper) (L:List OC) (pr:List Nat):Nat → List OC → Bool
 | _,[] => true
 | k,b :: r => KO ops (pr.getD k 0) b 0 (L.take k) && (PN b || (Lj (pr.getD k 0) k && (r.zipIdx (k + 1)).all fun q => (pr.getD q.2 0).testBit k)) && EY ops L pr (k + 1) r
def MF (l:List Oper) (cs:List Ct):Bool :=
 let pr:=(Region.before l.toArray).toList
 Nat.beq cs.length l.length && KQ l pr 0 l && EY l.toArray (l.zip cs) pr 0 (l.zip cs)
theorem aAi {pr:List Nat} {j:Nat}:∀ (es:List Edge) (s:Nat),(es.foldl (fun s e => bif Region.binds .any e then Nat.lor (Nat.lor s (2 ^ e.on)) (pr.getD e.on 0) else s) s).testBit j = true →
  s.testBit j = true ∨ ∃ e ∈ es,Region.binds .any e = true ∧ (e.on = j ∨ (pr.getD e.on 0).testBit j = true)
 | [],s,h => .inl h
 | e :: r,s,h => by
  rw [List.foldl_cons] at h
  rcases aAi r _ h with h | ⟨e',h1,h2⟩
  ·cases hb:Region.binds .any e with
   | false => rw [hb] at h; exact .inl h
   | true =>
    rw [hb,cond_true] at h
    change ((s ||| 2 ^ e.on) ||| pr.getD e.on 0).testBit j = true at h
    rw [Nat.testBit_or,Nat.testBit_or,Nat.testBit_two_pow] at h
    simp only [Bool.or_eq_true,decide_eq_true_eq] at h
    rcases h with (h | h) | h
    ·exact .inl h
    ·exact .inr ⟨e,List.mem_cons_self,hb,.inl h⟩
    ·exact .inr ⟨e,List.mem_cons_self,hb,.inr h⟩
  ·exact .inr ⟨e',List.mem_cons_of_mem _ h1,h2⟩
theorem TP {l:List Oper} {pr:List Nat}:∀ (r:List Oper) (k:Nat),KQ l pr k r = true → ∀ (i:Nat) o,r[i]? = some o → (∀ e ∈ o.after,Region.binds .any e = true → e.on < k + i) ∧
  ∀ j,(pr.getD (k + i) 0).testBit j = true → ∃ e ∈ o.after,Region.binds .any e = true ∧ (e.on = j ∨ (pr.getD e.on 0).testBit j = true)
 | [],_,_,i,_,h => by simp at h
 | q :: r,k,h,i,o,hi => by
  unfold KQ at h
  simp only [Bool.and_eq_true] at h
  obtain ⟨⟨h1,h2⟩,h3⟩:=h
  cases i with
  | zero =>
   simp at hi
   subst hi
   refine ⟨fun e he hb => (by have:=List.all_eq_true.1 h1 e (by simpa using he); rw [hb] at this; exact Nat.le_of_ble_eq_true this),fun j hj => ?_⟩
   have e2:=Nat.eq_of_beq_eq_true h2
   have hb:(Nat.lor (pr.getD k 0) (q.after.toList.foldl (fun s e => bif Region.binds .any e then Nat.lor (Nat.lor s (2 ^ e.on)) (pr.getD e.on 0) else s) 0)).testBit j = true:=by
    show ((pr.getD k 0) ||| _).testBit j = true
    rw [Nat.testBit_or]
    rw [Nat.add_zero] at hj
    rw [hj,Bool.true_or]
   rw [e2] at hb
   rcases aAi _ _ hb with h | ⟨e,he,h⟩
   ·simp at h
   ·exact ⟨e,by simpa using he,h⟩
  | succ i =>
   have:=TP r (k + 1) h3 i o (by simpa using hi)
   rwa [show k + 1 + i = k + (i + 1) by omega] at this
theorem aCe {ops:Array Oper} {tZ:Nat} {b:OC}:∀ (r:List OC) (j:Nat),KO ops tZ b j r = true → ∀ (i:Nat) a,r[i]? = some a → tZ.testBit (j + i) = true ∨ indep ops a b = true
 | [],_,_,i,_,h => by simp at h
 | q :: r,j,h,i,a,hi => by
  unfold KO at h
  simp only [Bool.and_eq_true,Bool.or_eq_true] at h
  cases i with
  | zero => simp at hi; subst hi; exact h.1
  | succ i =>
   have:=aCe r (j + 1) h.2 i a (by simpa using hi)
   rwa [show j + 1 + i = j + (i + 1) by omega] at this
theorem ZB {tZ:Nat}:∀ n,Lj tZ n = true → ∀ i < n,tZ.testBit i = true
 | 0,_,i,h => by omega
 | n + 1,h,i,hi => by
  unfold Lj at h
  simp only [Bool.and_eq_true] at h
  by_cases hin:i = n
  ·subst hin; exact h.1
  ·exact ZB n h.2 i (by omega)
theorem VJ {ops:Array Oper} {L:List OC} {pr:List Nat}:∀ (r:List OC) (k:Nat),EY ops L pr k r = true → ∀ (i:Nat) b,r[i]? = some b →
  (∀ (j:Nat) a,j < k + i → L[j]? = some a → (pr.getD (k + i) 0).testBit j = true ∨ indep ops a b = true) ∧
  (PN b = true ∨ ((∀ j < k + i,(pr.getD (k + i) 0).testBit j = true) ∧ ∀ q,i < q → q < r.length → (pr.getD (k + q) 0).testBit (k + i) = true))
 | [],_,_,i,_,h => by simp at h
 | c :: r,k,h,i,b,hi => by
  unfold EY at h
  simp only [Bool.and_eq_true,Bool.or_eq_true] at h
  obtain ⟨⟨h1,h2⟩,h3⟩:=h
  cases i with
  | zero =>
   simp at hi
   subst hi
   refine ⟨fun j a hj ha => ?_,h2.imp id fun h2 => ⟨fun j hj => ZB k h2.1 j hj,fun q hq xQ => ?_⟩⟩
   ·have:=aCe (L.take k) 0 h1 j a (by rw [List.getElem?_take,if_pos (by omega)]; exact ha)
    rwa [Nat.zero_add] at this
   ·have hlt:q - 1 < r.length:=by simp at xQ; omega
    have hm:(r[q - 1],k + q) ∈ r.zipIdx (k + 1):=by
     refine List.mem_of_getElem? (i:=q - 1) ?_
     rw [List.getElem?_zipIdx,List.getElem?_eq_getElem hlt]
     simp
     omega
    have:=List.all_eq_true.1 h2.2 _ hm
    simpa using this
  | succ i =>
   have:=VJ r (k + 1) h3 i b (by simpa using hi)
   rw [show k + 1 + i = k + (i + 1) by omega] at this
   refine ⟨this.1,this.2.imp id fun h => ⟨h.1,fun q hq xQ => ?_⟩⟩
   have:=h.2 (q - 1) (by omega) (by simp at xQ; omega)
   rwa [show k + 1 + (q - 1) = k + q by omega] at this
def sel (f:Nat → Bool):Nat → List OC → List OC
 | _,[] => []
 | k,p :: r => bif f k then p :: sel f (k + 1) r else sel f (k + 1) r
theorem Tz (f:Nat → Bool):∀ (A B:List OC) (k:Nat),sel f k (A ++ B) = sel f k A ++ sel f (k + A.length) B
 | [],B,k => by simp [sel]
 | p :: A,B,k => by
  have ih:=Tz f A B (k + 1)
  rw [show k + 1 + A.length = k + (A.length + 1) by omega] at ih
  simp only [List.cons_append,sel,List.length_cons]
  cases f k
  ·rw [cond_false,cond_false,ih]
  ·rw [cond_true,cond_true,ih]; rfl
theorem UA {f:Nat → Bool}:∀ {A:List OC} {k:Nat} {p:OC},p ∈ sel f k A → ∃ i,A[i]? = some p ∧ f (k + i) = true
 | [],_,_,h => by cases h
 | q :: A,k,p,h => by
  unfold sel at h
  cases hf:f k with
  | false =>
   rw [hf,cond_false] at h
   obtain ⟨i,h1,h2⟩:=UA h
   exact ⟨i + 1,by simpa using h1,by rwa [show k + (i + 1) = k + 1 + i by omega]⟩
  | true =>
   rw [hf,cond_true] at h
   cases h with
   | head => exact ⟨0,rfl,hf⟩
   | tail _ h =>
    obtain ⟨i,h1,h2⟩:=UA h
    exact ⟨i + 1,by simpa using h1,by rwa [show k + (i + 1) = k + 1 + i by omega]⟩
theorem UB {f:Nat → Bool} {A:List OC} {k:Nat}:∀ p ∈ sel f k A,p ∈ A:=fun p h => by
 obtain ⟨i,h1,_⟩:=UA h
 exact List.mem_of_getElem? h1
theorem YM {f f':Nat → Bool}:∀ {A:List OC} {k:Nat},(∀ i < A.length,f (k + i) = f' (k + i)) → sel f k A = sel f' k A
 | [],_,_ => rfl
 | p :: A,k,h => by
  have h0:=h 0 (by simp)
  have ih:=YM (f:=f) (f':=f') (A:=A) (k:=k + 1) fun i hi => by
   have:=h (i + 1) (by simpa using hi)
   rwa [show k + (i + 1) = k + 1 + i by omega] at this
  unfold sel
  rw [Nat.add_zero] at h0
  rw [h0,ih]
theorem YL {f:Nat → Bool}:∀ {A:List OC} {k:Nat},(∀ i < A.length,f (k + i) = true) → sel f k A = A
 | [],_,_ => rfl
 | p :: A,k,h => by
  have h0:=h 0 (by simp)
  rw [Nat.add_zero] at h0
  unfold sel
  rw [h0,cond_true,YL fun i hi => by
   have:=h (i + 1) (by simpa using hi)
   rwa [show k + (i + 1) = k + 1 + i by omega] at this]
theorem YN {f:Nat → Bool}:∀ {A:List OC} {k:Nat},(∀ i < A.length,f (k + i) = false) → sel f k A = []
 | [],_,_ => rfl
 | p :: A,k,h => by
  have h0:=h 0 (by simp)
  rw [Nat.add_zero] at h0
  unfold sel
  rw [h0,cond_false,YN fun i hi => by
   have:=h (i + 1) (by simpa using hi)
   rwa [show k + (i + 1) = k + 1 + i by omega] at this]
theorem One.found {P:Program} {C:Ctx} {ops:Array Oper} {p:OC} {A A' B:List OC} {st:Slots × Mem} (h:One P C ops p (lQ A st)) (Ht:PN p = true) (f:Nat → Bool) (hA:A' = sel f 0 A)
  (hsk:∀ (i:Nat) a,A[i]? = some a → f i = false → indep ops a p = true) (hB:∀ b ∈ B,indep ops p b = true):One P C ops p (lQ B (lQ A' st)):=by
 subst hA
 rw [← GX]
 unfold PN at Ht
 simp only [Bool.and_eq_true] at Ht
 have MP:∀ b ∈ B,Half ops b p:=fun b hb => by
  have:=hB b hb
  unfold indep at this
  simp only [Bool.and_eq_true] at this
  exact Qz this.2
 have aBD:∀ (i:Nat) a,A[i]? = some a → f i = false → Half ops a p:=fun i a hi hf => by
  have:=hsk i a hi hf
  unfold indep at this
  simp only [Bool.and_eq_true] at this
  exact Qz this.1
 -- reading a slot
 have slot:∀ t ∈ D7 ops p,∀ v,PL v = true → (∀ b ∈ B,um b.2.X v = true) → lk (lQ A st).1 t = some v → lk (lQ (sel f 0 A ++ B) st).1 t = some v:=fun t ht v hv hvB hl => by
  have hBt:∀ b ∈ B,b.1.dst ≠ some t ∧ um b.2.X v = true:=fun b hb => ⟨fun hd => (MP b hb).rd t hd ht,hvB b hb⟩
  rcases aDV hv A st hl with ⟨A1,q,B1,rfl,h1,h2,h3⟩ | ⟨h1,h2⟩
  ·have hf:f A1.length = true:=by
    cases hf:f A1.length with
    | true => rfl
    | false => exact absurd ht ((aBD A1.length q (by simp) hf).rd t h1)
   rw [Tz]
   simp only [sel,Nat.zero_add,hf,cond_true]
   rw [List.append_assoc,GX,List.cons_append]
   refine YR _ (mX q _) (by rw [BQ,if_pos h1,h2]) fun b hb => ?_
   rcases List.mem_append.1 hb with hb | hb
   ·exact h3 b (UB b hb)
   ·exact hBt b hb
  ·refine YR _ st h1 fun b hb => ?_
   rcases List.mem_append.1 hb with hb | hb
   ·exact h2 b (UB b hb)
   ·exact hBt b hb
 refine h.of (fun t ht v hl => ?_) fun q hq hl => ?_
 ·-- v is an input,or a guard's bool
  unfold One at h
  unfold D7 at ht
  have hgd:∀ b,iJ ops (lQ A st).1 p.1 b → t ∈ (match p.1.guard with | some (j,_) => ((ops[j]?).bind (·.dst)).toList | none => []) → PL v = true ∧ ∀ X,um X v = true:=fun b hb ht => by
   unfold iJ at hb
   split at hb
   ·rename_i hg; rw [hg] at ht; cases ht
   ·rename_i j want hg
    rw [hg] at ht
    obtain ⟨d,k1,⟨c,k2,_⟩ | ⟨k2,_⟩⟩:=hb
    ·simp only [k1,Option.toList_some,List.mem_singleton] at ht
     subst ht
     rw [k2] at hl
     injection hl with hl
     subst hl
     exact ⟨rfl,fun _ => rfl⟩
    ·simp only [k1,Option.toList_some,List.mem_singleton] at ht
     subst ht
     rw [k2] at hl
     injection hl with hl
     subst hl
     exact ⟨rfl,fun _ => rfl⟩
  rcases List.mem_append.1 ht with hti | htg
  ·split at h
   ·obtain ⟨x,hx,hxt⟩:=List.mem_filterMap.1 hti
    obtain ⟨xo,xv⟩:=x
    cases xo with
    | tmp t' =>
     injection hxt with hxt
     subst hxt
     have hev:∀ ins:List (Operand × AV),EvL (lQ A st).1 ins → (Operand.tmp t',xv) ∈ ins → lk (lQ A st).1 t' = some xv:=by
      intro ins
      induction ins with
      | nil => intro _ hm; cases hm
      | cons y r ih =>
       intro he hm
       obtain ⟨yo,yv⟩:=y
       cases hm with
       | head => exact he.1
       | tail _ hm => exact ih he.2 hm
     have:=hev _ h.2.1 hx
     rw [this] at hl
     injection hl with hl
     subst hl
     exact slot t' (List.mem_append_left _ hti) xv (List.all_eq_true.1 Ht.1 _ hx) (fun b hb => (MP b hb).ins _ hx) this
    | _ => cases hxt
   ·obtain ⟨_,_,_,_,_,h6,_⟩:=h
    rw [h6] at hti
    cases hti
  ·have hg:∃ b,iJ ops (lQ A st).1 p.1 b:=by
    split at h
    ·exact ⟨true,h.2.2.2.1⟩
    ·exact ⟨false,h.1⟩
   obtain ⟨b,hb⟩:=hg
   obtain ⟨h1,h2⟩:=hgd b hb htg
   exact slot t (List.mem_append_right _ htg) v h1 (fun b _ => h2 _) hl
 ·have hqj:=List.all_eq_true.1 Ht.2 q hq
  have NH:q.1 ∈ PO p:=List.mem_append_left _ (List.mem_map.2 ⟨q,hq,rfl⟩)
  have hBq:∀ b ∈ B,q.1 ∉ keys b.2.df ∧ q.1 ∉ b.2.X ∧ pJ b.2.X q.2 = true:=fun b hb =>
   ⟨fun hd => (MP b hb).nm _ (Nu hd) NH,fun hx => (MP b hb).nm _ (Ui hx) NH,(MP b hb).us _ hq⟩
  rcases aCV hqj A st hl with ⟨A1,r,B1,rfl,h1,h2⟩ | ⟨h1,h2⟩
  ·have hf:f A1.length = true:=by
    cases hf:f A1.length with
    | true => rfl
    | false => exact absurd NH ((aBD A1.length r (by simp) hf).nm _ (Nu (aB2 h1)))
   rw [Tz]
   simp only [sel,Nat.zero_add,hf,cond_true]
   rw [List.append_assoc,GX,List.cons_append]
   refine Xq _ (mX r _) (by rw [BP,if_pos (aB2 h1),h1]) fun b hb => ?_
   rcases List.mem_append.1 hb with hb | hb
   ·exact h2 b (UB b hb)
   ·exact hBq b hb
  ·refine Xq _ st h1 fun b hb => ?_
   rcases List.mem_append.1 hb with hb | hb
   ·exact h2 b (UB b hb)
   ·exact hBq b hb
end
end
section
def Chain (P:Program) (C:Ctx) (ops:Array Oper):List OC → Slots × Mem → Prop
 | [],_ => True
 | p :: r,st => One P C ops p st ∧ Chain P C ops r (mX p st)
section
variable {P:Program} {C:Ctx} {ops:Array Oper}
theorem Chain.at:∀ {L:List OC} {st:Slots × Mem},Chain P C ops L st → ∀ (i:Nat) p,L[i]? = some p → One P C ops p (lQ (L.take i) st)
 | [],_,_,i,_,h => by simp at h
 | q :: r,st,hc,0,p,h => by
  simp at h
  subst h
  exact hc.1
 | q :: r,st,hc,i + 1,p,h => by
  have:=Chain.at hc.2 i p (by simpa using h)
  simpa [lQ] using this
theorem mem_ready {listed:Array Bool} {i:Nat} (h:i ∈ Region.ready .any ops listed):i < ops.size ∧ listed.getD i true = false ∧ ∃ o,ops[i]? = some o ∧ ∀ e ∈ o.after,Region.binds .any e = true → listed.getD e.on false = true:=by
 unfold Region.ready at h
 obtain ⟨h1,h2⟩:=List.mem_filter.1 h
 simp only [Bool.and_eq_true,Bool.not_eq_true'] at h2
 obtain ⟨h2,h3⟩:=h2
 refine ⟨List.mem_range.1 h1,h2,?_⟩
 cases ho:ops[i]? with
 | none => rw [ho] at h3; simp at h3
 | some o =>
  rw [ho] at h3
  refine ⟨o,rfl,fun e he hb => ?_⟩
  have h4:o.after.all (fun e => !Region.binds .any e || listed.getD e.on false) = true:=by simpa using h3
  have h5:=(Array.all_eq_true_iff_forall_mem.1 h4) e he
  rw [hb] at h5
  simpa using h5
theorem aKf {listed:Array Bool} {i:Nat} {o:Oper} (hi:ops[i]? = some o) (hl:listed.getD i true = false) (h:∀ e ∈ o.after,Region.binds .any e = true → listed.getD e.on false = true):i ∈ Region.ready .any ops listed:=by
 unfold Region.ready
 refine List.mem_filter.2 ⟨List.mem_range.2 (Array.getElem?_eq_some_iff.1 hi).1,?_⟩
 rw [hl,hi]
 simp only [Bool.not_false,Option.map_some,Option.getD_some,Bool.true_and]
 refine Array.all_eq_true_iff_forall_mem.2 fun e he => ?_
 cases hb:Region.binds .any e with
 | true => rw [h e he hb]; simp
 | false => simp
theorem St.drew {σ:Slots} {m:Mem} {R B:Nat → Prop} {g:Nat → GS} {a:Act} {w:World} (h:St P C σ m R B g a w):St P C σ m R B g a w.drew:=by
 have had:iR R B g w [] [] R B g w.drew:=⟨⟨h.wf.rb,h.wf.lt,h.wf.ja,h.wf.kW,h.wf.nd⟩,fun _ h => h,fun _ h => h,rfl,rfl,rfl,Nat.le_refl _,fun _ _ _ => rfl,fun _ _ => rfl,fun n hn => (by cases hn),fun n hn => (by cases hn)⟩
 have:=h.step (us:=[]) (df:=[]) (d:=none) (v:=.dM []) (u:=undef) trivial (fun n hn => by cases hn) (fun p hp => by cases hp) rfl (fun n hn => by cases hn) had (fun b hb => .inl hb) (fun h => by cases h) (fun p hp => by cases hp)
 rw [Ns,II] at this
 exact this
variable {l:List Oper} {L:List OC} {pr:List Nat} {st0:Slots × Mem}
theorem aDR {f:Nat → Bool} {i:Nat} {p:OC} (hi:L[i]? = some p):sel f 0 L = sel f 0 (L.take i) ++ (bif f i then [p] else []) ++ sel f (i + 1) (L.drop (i + 1)):=by
 have hlt:i < L.length:=(List.getElem?_eq_some_iff.1 hi).1
 have e:L = L.take i ++ (p :: L.drop (i + 1)):=by
  have h1:L.drop i = p :: L.drop (i + 1):=by
   rw [List.drop_eq_getElem_cons hlt]
   congr 1
   rw [List.getElem?_eq_getElem hlt] at hi
   injection hi
  rw [← h1,List.take_append_drop]
 have hl:(L.take i).length = i:=by simp; omega
 conv => lhs; rw [e]
 rw [Tz,hl,Nat.zero_add]
 have e2:sel f i (p :: L.drop (i + 1)) = bif f i then p :: sel f (i + 1) (L.drop (i + 1)) else sel f (i + 1) (L.drop (i + 1)):=rfl
 rw [e2]
 cases f i
 ·simp only [cond_false,List.append_nil]
 ·simp only [cond_true,List.append_assoc,List.singleton_append]
theorem aGR {Q:Exit → Act → World → Prop} (hL:L.map (·.1) = l) (hpr:KQ l pr 0 l = true) (hdr:EY l.toArray L pr 0 L = true) (WB:Chain P C l.toArray L st0)
  (hfin:∀ R B g a w,St P C (lQ L st0).1 (lQ L st0).2 R B g a w → Q .normal a w):∀ (fuel:Nat) (listed:Array Bool) (R B:Nat → Prop) (g:Nat → GS) (a:Act) (w:World),listed.size = l.length → listed.toList.count false ≤ fuel →
  (∀ i j,i < l.length → listed.getD i true = true → (pr.getD i 0).testBit j = true → listed.getD j false = true) →
  St P C (lQ (sel (fun k => listed.getD k true) 0 L) st0).1 (lQ (sel (fun k => listed.getD k true) 0 L) st0).2 R B g a w → wpAny P .any l.toArray Q fuel listed a w:=by
 have hLl:L.length = l.length:=by rw [← hL,List.length_map]
 have hget:∀ (i:Nat) p,L[i]? = some p → l[i]? = some p.1:=fun i p h => by rw [← hL,List.getElem?_map,h]; rfl
 have BA:∀ (A:Array Bool) (i:Nat) (d:Bool),i < A.size → A.getD i d = A.getD i true:=fun A i d hi => by
  simp only [Array.getD_eq_getD_getElem?,Array.getElem?_eq_getElem hi,Option.getD_some]
 -- nothing is ready: all are listed
 have hdone:∀ (listed:Array Bool),listed.size = l.length → Region.ready .any l.toArray listed = [] → ∀ i,i < l.length → listed.getD i true = true:=fun listed hsz hr i => by
  induction i using Nat.strongRecOn with
  | ind i ih =>
   intro hi
   cases hx:listed.getD i true with
   | true => rfl
   | false =>
    have ho:l[i]? = some l[i]:=List.getElem?_eq_getElem hi
    have hm:=aKf (ops:=l.toArray) (i:=i) (o:=l[i]) (by simp) hx fun e he hb => by
     have hlt:=((TP l 0 hpr i l[i] ho).1 e he hb)
     rw [Nat.zero_add] at hlt
     rw [BA _ _ _ (by omega)]
     exact ih e.on hlt (by omega)
    rw [hr] at hm
    cases hm
 have hend:∀ (listed:Array Bool),listed.size = l.length → Region.ready .any l.toArray listed = [] → sel (fun k => listed.getD k true) 0 L = L:=fun listed hsz hr => YL fun i hi => by
  rw [Nat.zero_add]
  exact hdone listed hsz hr i (by omega)
 intro fuel
 induction fuel with
 | zero =>
  intro listed R B g a w hsz hcnt hcl hs
  have hr:Region.ready .any l.toArray listed = []:=by
   cases hr:Region.ready .any l.toArray listed with
   | nil => rfl
   | cons i r =>
    have:=mem_ready (ops:=l.toArray) (listed:=listed) (i:=i) (by rw [hr]; exact List.mem_cons_self)
    obtain ⟨h1,h2,_⟩:=this
    have hi:i < listed.size:=by rw [hsz]; simpa using h1
    have:false ∈ listed.toList:=by
     refine List.mem_of_getElem? (i:=i) ?_
     rw [Array.getD_eq_getD_getElem?,Array.getElem?_eq_getElem hi] at h2
     simpa [Array.getElem?_eq_getElem hi] using h2
    have:=List.count_pos_iff.2 this
    omega
  rw [hend listed hsz hr] at hs
  exact ⟨hr,hfin _ _ _ _ _ hs⟩
 | succ fuel ih =>
  intro listed R B g a w hsz hcnt hcl hs
  refine ⟨fun hr => ?_,fun i hi => ?_⟩
  ·rw [hend listed hsz hr] at hs
   exact hfin _ _ _ _ _ hs
  obtain ⟨h1,h2,o,ho,h3⟩:=mem_ready hi
  have h1':i < l.length:=by simpa using h1
  have hiL:i < L.length:=by omega
  have hp:L[i]? = some L[i]:=List.getElem?_eq_getElem hiL
  generalize hpe:L[i] = p at hp
  have hop:l[i]? = some p.1:=hget i p hp
  have aHl:o = p.1:=by
   have:l.toArray[i]? = some p.1:=by simpa using hop
   rw [ho] at this
   injection this
  subst aHl
  obtain ⟨hp1,hp2⟩:=TP l 0 hpr i p.1 hop
  rw [Nat.zero_add] at hp1 hp2
  -- its predecessors are listed
  have hpred:∀ j,(pr.getD i 0).testBit j = true → listed.getD j false = true:=fun j hj => by
   obtain ⟨e,he,hb,Q7⟩:=hp2 j hj
   have hel:=h3 e he hb
   have hlt:=hp1 e he hb
   rcases Q7 with h | h
   ·rw [← h]; exact hel
   ·exact hcl e.on j (by omega) (by rw [BA _ _ false (by omega)] at hel; exact hel) h
  have aHo:∀ (k:Nat),k < l.length → ∀ j,(pr.getD k 0).testBit j = true → j < k:=by
   intro k
   induction k using Nat.strongRecOn with
   | ind k ihk =>
    intro hk j hj
    obtain ⟨q1,q2⟩:=TP l 0 hpr k l[k] (List.getElem?_eq_getElem hk)
    rw [Nat.zero_add] at q1 q2
    obtain ⟨e,he,hb',Q7⟩:=q2 j hj
    have hlt:=q1 e he hb'
    rcases Q7 with h | h
    ·omega
    ·have:=ihk e.on hlt (by omega) j h
     omega
  obtain ⟨hd1,hd2⟩:=VJ L 0 hdr i p hp
  simp only [Nat.zero_add] at hd1 hd2
  -- those behind it that are listed do not stand in its way
  have aAs:∀ b ∈ sel (fun k => listed.getD k true) (i + 1) (L.drop (i + 1)),indep l.toArray p b = true:=fun b hb => by
   obtain ⟨j,hj1,hj2⟩:=UA hb
   rw [List.getElem?_drop] at hj1
   have hjl:i + 1 + j < l.length:=by rw [← hLl]; exact (List.getElem?_eq_some_iff.1 hj1).1
   obtain ⟨q1,_⟩:=VJ L 0 hdr (i + 1 + j) b hj1
   simp only [Nat.zero_add] at q1
   rcases q1 i p (by omega) hp with h | h
   ·have:=hcl (i + 1 + j) i hjl hj2 h
    rw [BA _ _ false (by omega),h2] at this
    cases this
   ·exact h
  have aGs:∀ (j:Nat) q,(L.take i)[j]? = some q → listed.getD j true = false → indep l.toArray q p = true:=fun j q hj hf => by
   rw [List.getElem?_take] at hj
   split at hj
   ·rename_i hji
    rcases hd1 j q hji hj with h | h
    ·have:=hpred j h
     rw [BA _ _ false (by omega),hf] at this
     cases this
    ·exact h
   ·cases hj
  have hcut:=aDR (f:=fun k => listed.getD k true) hp
  rw [h2,cond_false,List.append_nil] at hcut
  have aA5:=WB.at i p hp
  have hone:One P C l.toArray p (lQ (sel (fun k => listed.getD k true) 0 L) st0):=by
   rcases hd2 with Ht | ⟨hall,hnone⟩
   ·rw [hcut,GX]
    exact One.found aA5 Ht (fun k => listed.getD k true) rfl aGs aAs
   ·have e1:sel (fun k => listed.getD k true) 0 (L.take i) = L.take i:=YL fun j hj => by
     rw [Nat.zero_add]
     have hji:j < i:=by simp at hj; omega
     have:=hpred j (hall j hji)
     rwa [BA _ _ false (by omega)] at this
    have e2:sel (fun k => listed.getD k true) (i + 1) (L.drop (i + 1)) = []:=YN fun j hj => by
     have hjl:i + 1 + j < L.length:=by simp at hj; omega
     cases hx:listed.getD (i + 1 + j) true with
     | false => rfl
     | true =>
      have:=hcl (i + 1 + j) i (by omega) hx (hnone (i + 1 + j) (by omega) hjl)
      rw [BA _ _ false (by omega),h2] at this
      cases this
    rw [hcut,e1,e2,List.append_nil]
    exact aA5
  refine hone.wp hs ho fun R' B' g' a' w' hs' => ?_
  have hnew:∀ k,k < l.length → (listed.setIfInBounds i true).getD k true = if k = i then true else listed.getD k true:=fun k hk => by
   simp only [Array.getD_eq_getD_getElem?,Array.getElem?_setIfInBounds]
   by_cases hki:i = k
   ·rw [if_pos hki,if_pos hki.symm,if_pos (by omega)]; rfl
   ·rw [if_neg hki,if_neg (Ne.symm hki)]
  refine ih (listed.setIfInBounds i true) R' B' g' a' w' (by simpa using hsz) ?_ ?_ ?_
  ·have hi':i < listed.toList.length:=by simpa [hsz] using h1'
   have hcs:=List.count_set (b:=false) (a:=true) (l:=listed.toList) hi'
   have hv:listed.toList[i] = false:=by
    rw [Array.getD_eq_getD_getElem?,Array.getElem?_eq_getElem (by omega)] at h2
    simpa using h2
   rw [Array.toList_setIfInBounds,hcs,hv]
   have e1:(if (true == false) = true then 1 else 0) = 0:=rfl
   have e2:(if (false == false) = true then 1 else 0) = 1:=rfl
   rw [e1,e2]
   omega
  ·intro k j hk hx hb
   have hjk:=aHo k hk j hb
   rw [BA _ _ false (by simp; omega),hnew j (by omega)]
   rw [hnew k hk] at hx
   by_cases hki:k = i
   ·subst hki
    have:=hpred j hb
    rw [BA _ _ false (by omega)] at this
    rw [this]; simp
   ·rw [if_neg hki] at hx
    have:=hcl k j hk hx hb
    rw [BA _ _ false (by omega)] at this
    rw [this]; simp
  ·have hcut':=aDR (f:=fun k => (listed.setIfInBounds i true).getD k true) hp
   have hfi:(listed.setIfInBounds i true).getD i true = true:=by rw [hnew i h1',if_pos rfl]
   rw [hfi,cond_true] at hcut'
   have e1:sel (fun k => (listed.setIfInBounds i true).getD k true) 0 (L.take i) = sel (fun k => listed.getD k true) 0 (L.take i):=YM fun j hj => by
    have:j < i:=by simp at hj; omega
    rw [Nat.zero_add,hnew j (by omega),if_neg (by omega)]
   have e2:sel (fun k => (listed.setIfInBounds i true).getD k true) (i + 1) (L.drop (i + 1)) = sel (fun k => listed.getD k true) (i + 1) (L.drop (i + 1)):=YM fun j hj => by
    have:i + 1 + j < L.length:=by simp at hj; omega
    rw [hnew _ (by omega),if_neg (by omega)]
   rw [hcut',e1,e2,GX,aDQ]
   rw [hcut,GX] at hs'
   exact hs'.eqs (push _ _ aAs)
end
theorem aGQ (l:List Oper) (cs:List Ct) (h:cs.length = l.length):(l.zip cs).map (·.1) = l:=by
 induction l generalizing cs with
 | nil => rfl
 | cons x r ih =>
  cases cs with
  | nil => cases h
  | cons c cs => simp only [List.zip_cons_cons,List.map_cons,ih cs (by simpa using h)]
theorem aGS {P:Program} {C:Ctx} {l:List Oper} {cs:List Ct} {st0:Slots × Mem} {id:Nat} {is:List It} {Q:Post} (hm:P.follows .mixedOrders = true) (hd:MF l cs = true) (WB:Chain P C l.toArray (l.zip cs) st0)
  (h:jd P C is (lQ (l.zip cs) st0).1 (lQ (l.zip cs) st0).2 Q):jd P C (.code (.region id l.toArray true) :: is) st0.1 st0.2 Q:=fun R B g a w hs => by
 unfold MF at hd
 simp only [Bool.and_eq_true] at hd
 obtain ⟨⟨h1,h2⟩,h3⟩:=hd
 have hz:=aGQ l cs (Nat.eq_of_beq_eq_true h1)
 refine wp_region_any hm ?_
 refine aGR (L:=l.zip cs) hz h2 h3 WB (fun R B g a w hs => h R B g a w hs) _ _ R B g a w.drew (by simp) ?_ (fun i j hi hx _ => ?_) ?_
 ·simp
 ·rw [Array.getD_eq_getD_getElem?,Array.getElem?_replicate,if_pos (by simpa using hi)] at hx
  cases hx
 ·have e:sel (fun k => (Array.replicate l.toArray.size false).getD k true) 0 (l.zip cs) = []:=YN fun i hi => by
   have:i < l.length:=by simp at hi; omega
   rw [Nat.zero_add,Array.getD_eq_getD_getElem?,Array.getElem?_replicate,if_pos (by simpa using this)]
   rfl
  rw [e]
  exact hs.drew
def aU {τ:Type} (P:Program) (C:Ctx) (l:List Oper) (done:List Ct) (rest:List Oper) (is:List It) (σ:Slots) (m:Mem) (M:Option τ) (K:τ → Post):Prop :=
 ∀ t,M = some t → ∃ cs:List Ct,cs.length = rest.length ∧ Chain P C l.toArray (rest.zip cs) (σ,m) ∧ MF l (done.reverse ++ cs) = true ∧ jd P C is (lQ (rest.zip cs) (σ,m)).1 (lQ (rest.zip cs) (σ,m)).2 (K t)
section
variable {P:Program} {C:Ctx} {σ:Slots} {m:Mem} {is:List It} {l rest:List Oper} {done:List Ct} {τ υ:Type} {M:Option τ} {K:τ → Post}
theorem aA.draw {id:Nat} (hm:P.follows .mixedOrders = true) (h:aU P C l [] l is σ m M K):aA P C (.code (.region id l.toArray true) :: is) σ m M K:=fun t ht => by
 obtain ⟨cs,_,h2,h3,h4⟩:=h t ht
 exact aGS (st0:=(σ,m)) hm (by simpa using h3) h2 h4
theorem Xp (x:CV):jX [] x = true:=by
 cases x <;> simp [jX]
theorem aCM (x:SV):PS [] x = true:=by
 cases x with
 | c x => exact Xp x
 | agg cs => exact List.all_eq_true.2 fun x _ => Xp x
theorem aCK (x:AV):um [] x = true:=by
 cases x with
 | s x => exact aCM x
 | dM cs => exact List.all_eq_true.2 fun x _ => aCM x
theorem aCL (o:Ob):pJ [] o = true:=by
 cases o with
 | row e els => exact List.all_eq_true.2 fun cs _ => List.all_eq_true.2 fun x _ => Xp x
 | _ => first | rfl | simp [pJ]
def Qy (ops:Array Oper) (a b:OC):Bool :=
 (match a.1.dst with | some d => !(D7 ops b).elem d && b.1.dst != some d | none => true) && mP (CW a) (PO b) && (a.2.X.isEmpty || (um a.2.X b.2.v && b.2.ins.all (fun q => um a.2.X q.2) && b.2.us.all (fun q => pJ a.2.X q.2) && b.2.df.all (fun q => pJ a.2.X q.2)))
theorem aAu {ops:Array Oper} {a b:OC} (h:Qy ops a b = true):half ops a b = true:=by
 unfold Qy at h
 unfold half
 rw [Bool.and_eq_true,Bool.or_eq_true] at h
 obtain ⟨h1,h2⟩:=h
 simp only [Bool.and_assoc] at h1 ⊢
 rw [Bool.and_eq_true] at h1
 rw [Bool.and_eq_true,Bool.and_eq_true]
 refine ⟨h1.1,h1.2,?_⟩
 rcases h2 with h2 | h2
 ·have:a.2.X = []:=by simpa using h2
  rw [this,aCK,List.all_eq_true.2 fun q _ => aCK q.2,List.all_eq_true.2 fun q _ => aCL q.2,List.all_eq_true.2 fun q _ => aCL q.2]
  rfl
 ·simpa only [Bool.and_assoc] using h2
def TG (ops:Array Oper) (tZ:Nat) (b:OC):Nat → List OC → Bool
 | _,[] => true
 | j,a :: r => (tZ.testBit j || (Qy ops a b && Qy ops b a)) && TG ops tZ b (j + 1) r
theorem aCd {ops:Array Oper} {tZ:Nat} {b:OC}:∀ (L:List OC) (j:Nat),TG ops tZ b j L = true → KO ops tZ b j L = true
 | [],_,_ => rfl
 | a :: r,j,h => by
  unfold TG at h
  unfold KO
  simp only [Bool.and_eq_true,Bool.or_eq_true] at h ⊢
  refine ⟨h.1.imp id fun h => ?_,aCd r (j + 1) h.2⟩
  unfold indep
  rw [aAu h.1,aAu h.2]; rfl
def Qj (ops:Array Oper) (L:List OC) (pr:List Nat):Nat → List OC → Bool
 | _,[] => true
 | k,b :: r => TG ops (pr.getD k 0) b 0 (L.take k) && ((Lj (pr.getD k 0) k && (r.zipIdx (k + 1)).all fun q => (pr.getD q.2 0).testBit k) || PN b) && Qj ops L pr (k + 1) r
theorem aAP {ops:Array Oper} {L:List OC} {pr:List Nat}:∀ (r:List OC) (k:Nat),Qj ops L pr k r = true → EY ops L pr k r = true
 | [],_,_ => rfl
 | b :: r,k,h => by
  unfold Qj at h
  unfold EY
  rw [Bool.and_eq_true,Bool.and_eq_true] at h ⊢
  refine ⟨⟨aCd _ _ h.1.1,?_⟩,aAP r (k + 1) h.2⟩
  rw [Bool.or_comm]
  exact h.1.2
def Qi (l:List Oper) (cs:List Ct):Bool :=
 let pr:=(Region.before l.toArray).toList
 Nat.beq cs.length l.length && KQ l pr 0 l && Qj l.toArray (l.zip cs) pr 0 (l.zip cs)
theorem aGP {l:List Oper} {cs:List Ct} (h:Qi l cs = true):MF l cs = true:=by
 unfold Qi at h
 unfold MF
 simp only [Bool.and_eq_true] at h ⊢
 exact ⟨h.1,aAP _ _ h.2⟩
theorem aU.nil (hd:Qi l done.reverse = true) (h:aA P C is σ m M K):aU P C l done [] is σ m M K:=fun t ht => ⟨[],rfl,trivial,by simpa using aGP hd,h t ht⟩
theorem aU.bind {x:Option υ} {f:υ → Option τ} (h:∀ u,x = some u → aU P C l done rest is σ m (f u) K):aU P C l done rest is σ m (x.bind f) K:=fun t ht => by
 obtain ⟨u,hu,hf⟩:=Option.bind_eq_some_iff.1 ht
 exact h u hu t hf
theorem aU.split {b:Bool} {M1 M2:Option τ} (ht:b = true → aU P C l done rest is σ m M1 K) (hf:b = false → aU P C l done rest is σ m M2 K):aU P C l done rest is σ m (bif b then M1 else M2) K:=fun t h => by
 cases hb:b with
 | true => rw [hb] at h; exact ht hb t h
 | false => rw [hb] at h; exact hf hb t h
theorem aU.step {o:Oper} {ins:List (Operand × AV)} {us df:Mem} {v:AV} {W X:List Nat} (hlt:LT P o ins us v df W X) (hi:EvL σ ins) (hu:pF m us) (hg:iJ l.toArray σ o true)
  (hside:(iF C.N o.dst && fG W (X ++ keys df) && fG W (keys us) && fG (keys df) (X ++ W) && mP X C.pn) = true) (h:aU P C l (⟨ins,us,v,df,W,X,true⟩ :: done) rest is (fO (kM X σ) o.dst v) (df ++ jK X m) M K) :
  aU P C l done (o :: rest) is σ m M K:=fun t ht => by
 obtain ⟨cs,h1,h2,h3,h4⟩:=h t ht
 exact ⟨⟨ins,us,v,df,W,X,true⟩ :: cs,by simp [h1],⟨⟨hlt,hi,hu,hg,hside⟩,h2⟩,by simpa using h3,h4⟩
theorem aU.pure {o:Oper} {ins:List (Operand × AV)} {us:Mem} {v:AV} (hlt:LT P o ins us v [] [] []) (hi:EvL σ ins) (hu:pF m us) (hg:iJ l.toArray σ o true)
  (hd:iF C.N o.dst = true) (h:aU P C l (⟨ins,us,v,[],[],[],true⟩ :: done) rest is (fO σ o.dst v) m M K):aU P C l done (o :: rest) is σ m M K :=
 aU.step hlt hi hu hg (by rw [hd]; rfl) (by rw [Ns,II]; exact h)
theorem aU.skip {o:Oper} (hg:iJ l.toArray σ o false) (hd:iF C.N o.dst = true) (h:aU P C l (⟨[],[],.dM [],[],[],[],false⟩ :: done) rest is (fO σ o.dst (.dM [])) m M K):aU P C l done (o :: rest) is σ m M K:=fun t ht => by
 obtain ⟨cs,h1,h2,h3,h4⟩:=h t ht
 have e:mX (o,(⟨[],[],.dM [],[],[],[],false⟩:Ct)) (σ,m) = (fO σ o.dst (.dM []),m):=by
  unfold mX
  rw [Ns,II]
  rfl
 refine ⟨⟨[],[],.dM [],[],[],[],false⟩ :: cs,by simp [h1],⟨⟨hg,hd,rfl,rfl,rfl,rfl,rfl⟩,?_⟩,by simpa using h3,?_⟩
 ·rw [e]; exact h2
 ·rw [List.zip_cons_cons]
  show jd P C is (lQ (rest.zip cs) (mX _ _)).1 (lQ (rest.zip cs) (mX _ _)).2 (K t)
  rw [e]
  exact h4
end
end
section
def idx {α:Type} (l:List α) (i:Int):Option α:=if 0 ≤ i then l[i.toNat]? else none
def lim (n:Nat):Option Unit:=if n ≤ uy then some () else none
def vN (n:Int):Option Unit:=if 0 ≤ n ∧ n ≤ 2147483648 then some () else none
def nz (n:Int):Option Unit:=if n ≠ 0 then some () else none
def same (a b:Nat):Option Unit:=if a = b then some () else none
def BIG:Nat:=18446744073709551616
theorem IB {α:Type} {l:List α} {i:Int} {x:α} (h:idx l i = some x):0 ≤ i:=by
 unfold idx at h; split at h
 ·assumption
 ·cases h
theorem nJ {α:Type} {l:List α} {i:Int} {x:α} (h:idx l i = some x):l[i.toNat]? = some x:=by
 unfold idx at h; split at h
 ·assumption
 ·cases h
theorem Rk {α:Type} {l:List α} {i:Int} {x:α} (h:idx l i = some x):i < l.length:=by
 have h0:=IB h
 have h1:=(List.getElem?_eq_some_iff.1 (nJ h)).1
 omega
theorem jo {n:Nat} {u:Unit} (h:lim n = some u):n ≤ uy:=by
 unfold lim at h; split at h
 ·assumption
 ·cases h
theorem zY {n:Int} {u:Unit} (h:vN n = some u):0 ≤ n ∧ n ≤ uy:=by
 unfold vN at h; split at h
 ·assumption
 ·cases h
theorem wo {n:Int} {u:Unit} (h:nz n = some u):n ≠ 0:=by
 unfold nz at h; split at h
 ·assumption
 ·cases h
section
variable {P:Program} {C:Ctx} {σ σ':Slots} {m m':Mem} {is:List It} {τ υ:Type} {M:Option τ} {K:τ → Post}
def Ae (σ' σ:Slots):Prop:=match σ' with
 | [] => True
 | (t,v) :: r => lk σ t = some v ∧ Ae r σ
def Ad (m' m:Mem):Prop:=match m' with
 | [] => True
 | (n,o) :: r => lk m n = some o ∧ Ad r m
theorem Ae.spec:∀ {σ':Slots},Ae σ' σ → ∀ t v,lk σ' t = some v → lk σ t = some v
 | [],_,_,_,h => by cases h
 | (k,x) :: r,hs,t,v,h => by
  change (bif Nat.beq k t then some x else lk r t) = some v at h
  cases hb:Nat.beq k t with
  | true =>
   rw [hb,cond_true] at h
   injection h with h
   have:=Nat.eq_of_beq_eq_true hb
   subst this
   subst h
   exact hs.1
  | false =>
   rw [hb,cond_false] at h
   exact Ae.spec hs.2 t v h
theorem Ad.spec:∀ {m':Mem},Ad m' m → ∀ t v,lk m' t = some v → lk m t = some v
 | [],_,_,_,h => by cases h
 | (k,x) :: r,hs,t,v,h => by
  change (bif Nat.beq k t then some x else lk r t) = some v at h
  cases hb:Nat.beq k t with
  | true =>
   rw [hb,cond_true] at h
   injection h with h
   have:=Nat.eq_of_beq_eq_true hb
   subst this
   subst h
   exact hs.1
  | false =>
   rw [hb,cond_false] at h
   exact Ad.spec hs.2 t v h
theorem aQ.of (h1:Ae σ' σ) (h2:Ad m' m):aQ P C σ m σ' m':=fun R B g _ _ hs => ⟨R,B,g,hs.weak (Ae.spec h1) (Ad.spec h2)⟩
theorem aO.ent {ops:Array Oper} {rest:List Oper} (h:aQ P C σ m σ' m') (k:aO P C ops rest is σ' m' M K):aO P C ops rest is σ m M K:=fun t ht R B g a w hs => by
 obtain ⟨R',B',g',hs'⟩:=h R B g a w hs
 exact k t ht R' B' g' a w hs'
def KL {σs β ρ:Type} (P:Program) (C:Ctx) (id:Nat) (S:σs → Slots × Mem) (Sb:β → Slots × Mem) (Kr:ρ → Post):σs ⊕ (β ⊕ ρ) → Post:=fun o e σ m => match o with
 | .inl s => e = .normal ∧ aQ P C σ m (S s).1 (S s).2
 | .inr (.inl b) => e = .exit id ∧ aQ P C σ m (Sb b).1 (Sb b).2
 | .inr (.inr r) => e = .ret ∧ Kr r .ret σ m
theorem aA.oz {σs β ρ:Type} {body:Code} {id:Nat} (bm:σs → Option (σs ⊕ (β ⊕ ρ))) (S:σs → Slots × Mem) (Sb:β → Slots × Mem) (Kr:ρ → Post) {f:β → Option τ} {gr:ρ → Option τ} {n:Nat} {s:σs}
  (hb:∀ s,aA P C [.code body] (S s).1 (S s).2 (bm s) (KL P C id S Sb Kr)) (h0:aQ P C σ m (S s).1 (S s).2) (hid:yQ id is = true)
  (hl:∀ b,bG bm n s = some (.inl b) → aA P C (EZ id is) (Sb b).1 (Sb b).2 (f b) K) (hr:∀ r t σ m,gr r = some t → Kr r .ret σ m → K t .ret σ m) :
  aA P C (.code (.loop body) :: is) σ m ((bG bm n s).bind (Sum.elim f gr)) K :=
 aA.loop (Lv:=fun o e σ m => match o with | .inl b => e = .exit id ∧ aQ P C σ m (Sb b).1 (Sb b).2 | .inr r => e = .ret ∧ Kr r .ret σ m) bm S
  (fun s t ht R B g a w hs => wp_mono (hb s t ht R B g a w hs) fun e a w he => by
   obtain ⟨σ',m',R',B',g',hs',hp⟩:=he
   refine ⟨σ',m',R',B',g',hs',?_⟩
   rcases t with s' | b | r
   ·exact hp
   ·obtain ⟨rfl,hp⟩:=hp
    exact ⟨by simp,rfl,hp⟩
   ·obtain ⟨rfl,hp⟩:=hp
    exact ⟨by simp,rfl,hp⟩) h0 (fun u e σ' m' hu hlv t ht => by
   rcases u with b | r
   ·obtain ⟨rfl,hp⟩:=hlv
    exact jB.MJ hid (jB.ent hp (hl b hu t ht))
   ·obtain ⟨rfl,hp⟩:=hlv
    exact jB.Td (hr r t σ' m' ht hp))
def KL1 {σs β:Type} (P:Program) (C:Ctx) (id:Nat) (S:σs → Slots × Mem) (Sb:β → Slots × Mem):σs ⊕ β → Post:=fun o e σ m => match o with
 | .inl s => e = .normal ∧ aQ P C σ m (S s).1 (S s).2
 | .inr b => e = .exit id ∧ aQ P C σ m (Sb b).1 (Sb b).2
theorem aA.jI {σs β:Type} {body:Code} {id:Nat} (bm:σs → Option (σs ⊕ β)) (S:σs → Slots × Mem) (Sb:β → Slots × Mem) {f:β → Option τ} {n:Nat} {s:σs}
  (hb:∀ s,aA P C [.code body] (S s).1 (S s).2 (bm s) (KL1 P C id S Sb)) (h0:aQ P C σ m (S s).1 (S s).2) (hid:yQ id is = true)
  (hl:∀ b,bG bm n s = some b → aA P C (EZ id is) (Sb b).1 (Sb b).2 (f b) K):aA P C (.code (.loop body) :: is) σ m ((bG bm n s).bind f) K :=
 aA.loop (Lv:=fun b e σ m => e = .exit id ∧ aQ P C σ m (Sb b).1 (Sb b).2) bm S
  (fun s t ht R B g a w hs => wp_mono (hb s t ht R B g a w hs) fun e a w he => by
   obtain ⟨σ',m',R',B',g',hs',hp⟩:=he
   refine ⟨σ',m',R',B',g',hs',?_⟩
   rcases t with s' | b
   ·exact hp
   ·obtain ⟨rfl,hp⟩:=hp
    exact ⟨by simp,rfl,hp⟩) h0 (fun u e σ' m' hu hlv t ht => by
   obtain ⟨rfl,hp⟩:=hlv
   exact jB.MJ hid (jB.ent hp (hl u hu t ht)))
def KJ (P:Program) (C:Ctx) (S:υ → Slots × Mem):υ → Post:=fun u e σ m => e = .normal ∧ aQ P C σ m (S u).1 (S u).2
theorem aA.eP {c:Code} {M1:Option υ} {f:υ → Option τ} (S:υ → Slots × Mem) (h1:aA P C [.code c] σ m M1 (KJ P C S)) (h2:∀ t,M1 = some t → aA P C is (S t).1 (S t).2 (f t) K):aA P C (.code c :: is) σ m (M1.bind f) K :=
 aA.join S h1 h2
theorem jB.MI {id:Nat} {Q:Post}:∀ {is:List It},yQ id is = false → Q (.exit id) σ m → jB P C is (.exit id) σ m Q
 | [],_,h => jB.nil h
 | .code c :: is,hb,h => jB.aAd (jB.MI (is:=is) hb h)
 | .blk i :: is,hb,h => by
  unfold yQ at hb
  rw [Bool.or_eq_false_iff] at hb
  exact jB.aAe (Ne.symm (Nat.ne_of_beq_eq_false hb.1)) (jB.MI (is:=is) hb.2 h)
theorem aA.MI {id:Nat} {t:τ} (hb:yQ id is = false) (h:K t (.exit id) σ m):aA P C (.code (.exit id) :: is) σ m (some t) K:=aA.aGb (jB.MI hb h)
def lU {ρ:Type} (P:Program) (res:List ResultVar) (us:Mem) (X:List Nat) (rs:ρ → List SV) (jR:ρ → Mem):ρ → Post:=fun t e σ m =>
 (e = .normal ∨ e = .ret) ∧ wE P σ m res (rs t) ∧ pF m (jR t) ∧ fG (keys us) (keys (jR t)) = true ∧ fG X (keys (jR t)) = true ∧ QI (vT (rs t)) ∧ (∀ p ∈ jR t,bD p.2) ∧ okA (keys us ++ X) (vT (rs t)) = true ∧
  (jR t).all (fun p => (keys us ++ X).elem p.1 && okO (keys us ++ X) p.2) = true
def wC:List PV → Prop
 | [] => True
 | p :: r => ah p ∧ wC r
theorem wC.spec:∀ {l:List PV},wC l → ∀ p ∈ l,ah p
 | [],_,p,hp => by cases hp
 | q :: r,h,p,hp => by
  cases hp with
  | head => exact h.1
  | tail _ hp => exact wC.spec h.2 p hp
def EQ:List CV → Prop
 | [] => True
 | p :: r => Aa p ∧ EQ r
theorem EQ.spec:∀ {l:List CV},EQ l → ∀ p ∈ l,Aa p
 | [],_,p,hp => by cases hp
 | q :: r,h,p,hp => by
  cases hp with
  | head => exact h.1
  | tail _ hp => exact EQ.spec h.2 p hp
def Ul:SV → Prop
 | .c x => Aa x
 | .agg cs => EQ cs
theorem Ul.spec {x:SV} (h:Ul x):Ld x:=by
 cases x with
 | c x => exact h
 | agg cs => exact EQ.spec h
def zF:List SV → Prop
 | [] => True
 | x :: r => Ul x ∧ zF r
theorem zF.spec:∀ {l:List SV},zF l → ∀ p ∈ l,Ld p
 | [],_,p,hp => by cases hp
 | q :: r,h,p,hp => by
  cases hp with
  | head => exact h.1.spec
  | tail _ hp => exact zF.spec h.2 p hp
theorem zF.res {l:List SV} (h:zF l):QI (vT l):=by
 match l,h with
 | [],_ => intro x hx; cases hx
 | [x],h => exact h.1.spec
 | x :: y :: r,h => exact zF.spec h
def ER:Mem → Prop
 | [] => True
 | (_,o) :: r => bD o ∧ ER r
theorem ER.spec:∀ {df:Mem},ER df → ∀ p ∈ df,bD p.2
 | [],_,p,hp => by cases hp
 | (n,o) :: r,h,p,hp => by
  cases hp with
  | head => exact h.1
  | tail _ hp => exact ER.spec h.2 p hp
theorem bD.bf {α:Type} {enc:α → List PV} {e:TypeId} {xs:List α} (h:∀ a,wC (enc a)):bD (.dF e (xs.map enc)):=fun cs hcs p hp => by
 obtain ⟨a,_,rfl⟩:=List.mem_map.1 hcs
 exact (h a).spec p hp
theorem nN {α:Type} {enc:α → List PV} {xs:List α} (h:∀ a,wC (enc a)):Aa (.pv (.xs true (xs.map enc))):=ah.xs fun cs hcs p hp => by
 obtain ⟨a,_,rfl⟩:=List.mem_map.1 hcs
 exact (h a).spec p hp
theorem gm {t:TypeId} (h:(P.info? t).isSome = true):P.info? t = some ((P.info? t).get h):=(Option.some_get h).symm
theorem lU.mk {ρ:Type} {res:List ResultVar} {us:Mem} {X:List Nat} {rs:ρ → List SV} {jR:ρ → Mem} {t:ρ} {e:Exit} (he:e = .normal ∨ e = .ret) (h1:wE P σ m res (rs t)) (h2:pF m (jR t))
  (hside:(fG (keys us) (keys (jR t)) && fG X (keys (jR t)) && okA (keys us ++ X) (vT (rs t)) && (jR t).all (fun p => (keys us ++ X).elem p.1 && okO (keys us ++ X) p.2)) = true) (h3:zF (rs t)) (h4:ER (jR t)) :
  lU P res us X rs jR t e σ m:=by
 simp only [Bool.and_eq_true] at hside
 obtain ⟨⟨⟨a1,a2⟩,a3⟩,a4⟩:=hside
 exact ⟨he,h1,h2,a1,a2,h3.res,h4.spec,a3,a4⟩
theorem Fn.of {f:FuncId} {fn:Func} {c:Code} {args:List SV} {us:Mem} {pn X:List Nat} {N:Nat} {ρ:Type} {M:Option ρ} {rs:ρ → List SV} {jR:ρ → Mem} (hf:P.funcs[f]? = some fn) (hb:fn.body = some c) (hN:fn.ntmps = N)
  (hargs:args.length ≤ N) (hside:(fG (keys us) (pn ++ X) && mP X pn && fG pn (keys us)) = true)
  (h:∀ w0 U0 R0 g0,aA P ⟨w0,U0,R0,g0,N,pn⟩ [.code c] (Ah 0 args) us M (lU P fn.results.toList us X rs jR)):∀ t,M = some t → Fn P f args us (vT (rs t)) (jR t) (keys us) X :=
 Fn.aCW (df:=[]) hf hb hN hargs hside fun w0 U0 R0 g0 _ => h w0 U0 R0 g0
theorem Fn.F7 {f:FuncId} {fn:Func} {c:Code} {args:List SV} {us:Mem} {pn X:List Nat} {N:Nat} {ρ:Type} {M:Option ρ} {rs:ρ → List SV} {jR:ρ → Mem} (hf:P.funcs[f]? = some fn) (hb:fn.body = some c) (hN:fn.ntmps = N)
  (hargs:args.length ≤ N) (hside:(fG (keys us) (pn ++ X) && mP X pn && fG pn (keys us)) = true)
  (h:∀ w0 U0 R0 g0,(∀ b,U0 b → ∃ n ∈ keys us,(g0 n).has b) → aA P ⟨w0,U0,R0,g0,N,pn⟩ [.code c] (Ah 0 args) us M (lU P fn.results.toList us X rs jR)):∀ t,M = some t → Fn P f args us (vT (rs t)) (jR t) (keys us) X :=
 Fn.aCW (df:=[]) hf hb hN hargs hside h
end
def rn (ρ:List (Nat × Nat)) (n:Nat):Nat:=(lk ρ n).getD 0
def tu (ρ:List (Nat × Nat)):CV → CV
 | .loc n o l => .loc (rn ρ n) o l
 | .pl n o => .pl (rn ρ n) o
 | .fn f caps => .fn f (caps.map (rn ρ))
 | .mref n => .mref (rn ρ n)
 | .tl p k o l => .tl (rn ρ p) k o l
 | .tpl p k o => .tpl (rn ρ p) k o
 | x => x
def Ko (ρ:List (Nat × Nat)):SV → SV
 | .c x => .c (tu ρ x)
 | .agg cs => .agg (cs.map (tu ρ))
def rnA (ρ:List (Nat × Nat)):AV → AV
 | .s x => .s (Ko ρ x)
 | .dM xs => .dM (xs.map (Ko ρ))
def Tf (ρ:List (Nat × Nat)):Ob → Ob
 | .row e els => .row e (els.map (·.map (tu ρ)))
 | .dF e els => .dF e els
 | .mp es => .mp es
 | .pool e rows => .pool e rows
 | .bZ e p lens => .bZ e (rn ρ p) lens
 | .unk => .unk
def rnM (ρ:List (Nat × Nat)) (m:Mem):Mem:=m.map fun p => (rn ρ p.1,Tf ρ p.2)
section
variable {P:Program} {w:World} {R B:Nat → Prop} {g g':Nat → GS} {ρ:List (Nat × Nat)}
theorem RC.rn {x:CV} {v:Value} (hz:tV (keys ρ) x = true) (hg:∀ n ∈ keys ρ,g' (rn ρ n) = g n) (h:RC P w R B g x v):RC P w R B g' (tu ρ x) v:=by
 refine ⟨h.1,?_⟩
 have h2:=h.2
 cases x with
 | pv p => exact h2
 | px q cells => exact h2
 | loc n off len =>
  have hn:=hg n (List.mem_of_elem_eq_true hz)
  rcases h2 with ⟨h3,h4⟩ | h3 | ⟨b,cap,cur,e,h3,h4⟩
  ·exact .inl ⟨hn.trans h3,h4⟩
  ·exact .inr (.inl h3)
  ·exact .inr (.inr ⟨b,cap,cur,e,hn.trans h3,h4⟩)
 | pl n off =>
  obtain ⟨b,h3,h4⟩:=h2
  exact ⟨b,(hg n (List.mem_of_elem_eq_true hz)).trans h3,h4⟩
 | fn f caps =>
  obtain ⟨vs,h3,h4,h5⟩:=h2
  refine ⟨vs,h3,by simpa using h4,fun k n hk => ?_⟩
  rw [List.getElem?_map] at hk
  cases hc:caps[k]? with
  | none => rw [hc] at hk; cases hk
  | some n0 =>
   rw [hc] at hk
   injection hk with hk
   subst hk
   obtain ⟨b,h6,h7⟩:=h5 k n0 hc
   exact ⟨b,(hg n0 (List.mem_of_elem_eq_true (List.all_eq_true.1 hz n0 (List.mem_of_getElem? hc)))).trans h6,h7⟩
 | mref n =>
  obtain ⟨b,h3,h4⟩:=h2
  exact ⟨b,(hg n (List.mem_of_elem_eq_true hz)).trans h3,h4⟩
 | tl p k off len =>
  have hn:=hg p (List.mem_of_elem_eq_true hz)
  rcases h2 with ⟨h3,h4⟩ | h3 | ⟨b,cap,cur,e,h3,h4⟩
  ·exact .inl ⟨by rw [hn]; exact h3,h4⟩
  ·exact .inr (.inl h3)
  ·exact .inr (.inr ⟨b,cap,cur,e,by rw [hn]; exact h3,h4⟩)
 | tpl p k off =>
  obtain ⟨b,h3,h4⟩:=h2
  exact ⟨b,by rw [hg p (List.mem_of_elem_eq_true hz)]; exact h3,h4⟩
 | junk => trivial
theorem aGA {xs:List CV} {vs:List Value} (hz:xs.all (tV (keys ρ)) = true) (hg:∀ n ∈ keys ρ,g' (Fw.rn ρ n) = g n) (h:∀ (k:Nat) x,xs[k]? = some x → ∃ u,vs[k]? = some u ∧ RC P w R B g x u) :
  ∀ (k:Nat) x,(xs.map (tu ρ))[k]? = some x → ∃ u,vs[k]? = some u ∧ RC P w R B g' x u:=fun k x hk => by
 rw [List.getElem?_map] at hk
 cases hc:xs[k]? with
 | none => rw [hc] at hk; cases hk
 | some y =>
  rw [hc] at hk
  injection hk with hk
  subst hk
  obtain ⟨u,h4,h5⟩:=h k y hc
  exact ⟨u,h4,h5.rn (List.all_eq_true.1 hz y (List.mem_of_getElem? hc)) hg⟩
theorem RS.rn {x:SV} {v:Value} (hz:okS (keys ρ) x = true) (hg:∀ n ∈ keys ρ,g' (Fw.rn ρ n) = g n) (h:RS P w R B g x v):RS P w R B g' (Ko ρ x) v:=by
 cases x with
 | c x => exact RC.rn hz hg h
 | agg cs =>
  obtain ⟨vs,h1,h2,h3⟩:=h
  exact ⟨vs,h1,by simpa using h2,aGA hz hg h3⟩
theorem RA.rn {x:AV} {v:Value} (hz:okA (keys ρ) x = true) (hg:∀ n ∈ keys ρ,g' (Fw.rn ρ n) = g n) (h:RA P w R B g x v):RA P w R B g' (rnA ρ x) v:=by
 cases x with
 | s x => exact RS.rn hz hg h
 | dM xs =>
  obtain ⟨vs,h1,h2,h3⟩:=h
  refine ⟨vs,h1,by simpa using h2,fun k x hk => ?_⟩
  rw [List.getElem?_map] at hk
  cases hc:xs[k]? with
  | none => rw [hc] at hk; cases hk
  | some y =>
   rw [hc] at hk
   injection hk with hk
   subst hk
   obtain ⟨u,h4,h5⟩:=h3 k y hc
   exact ⟨u,h4,h5.rn (List.all_eq_true.1 hz y (List.mem_of_getElem? hc)) hg⟩
theorem aCy (ρ:List (Nat × Nat)) (els:List (List PV)):(iT els).map (·.map (tu ρ)) = iT els:=by simp [iT,tu,Function.comp_def]
theorem aDm (ρ:List (Nat × Nat)) (p:Nat) (lens:List Nat):(fU p lens).map (·.map (tu ρ)) = fU (Fw.rn ρ p) lens:=by
 refine List.ext_getElem? fun j => ?_
 simp only [fU,List.getElem?_map,List.getElem?_mapIdx,Option.map_map]
 cases lens[j]? <;> simp [tu]
theorem aDl {zs:List Nat} {e:TypeId} {p:Nat} {lens:List Nat} (hz:okO zs (.bZ e p lens) = true):(fU p lens).all (·.all (tV zs)) = true :=
 List.all_eq_true.2 fun cs hcs => by
  obtain ⟨j,l,rfl⟩:=KA hcs
  simpa [tV,okO] using hz
theorem gX.rn {n:Nat} {e:TypeId} {els:List (List CV)} (hn:n ∈ keys ρ) (hz:els.all (·.all (tV (keys ρ))) = true) (hg:∀ n ∈ keys ρ,g' (Fw.rn ρ n) = g n) (h:gX P w R B g n e els):gX P w R B g' (Fw.rn ρ n) e (els.map (·.map (tu ρ))):=by
 rcases h with ⟨h1,h2⟩ | ⟨b,cur,h1,h2,h3,h4,h5⟩
 ·exact .inl ⟨(hg n hn).trans h1,by simp [h2]⟩
 ·refine .inr ⟨b,cur,(hg n hn).trans h1,h2,fun cs hcs => ?_,by simpa using h4,fun j k cs x hj hk => ?_⟩
  ·obtain ⟨c0,hc0,rfl⟩:=List.mem_map.1 hcs
   simpa using h3 c0 hc0
  ·rw [List.getElem?_map] at hj
   cases hc:els[j]? with
   | none => rw [hc] at hj; cases hj
   | some cs0 =>
    rw [hc] at hj
    injection hj with hj
    subst hj
    rw [List.getElem?_map] at hk
    cases hc2:cs0[k]? with
    | none => rw [hc2] at hk; cases hk
    | some y =>
     rw [hc2] at hk
     injection hk with hk
     subst hk
     obtain ⟨u,h6,h7⟩:=h5 j k cs0 y hc hc2
     exact ⟨u,h6,h7.rn (List.all_eq_true.1 (List.all_eq_true.1 hz cs0 (List.mem_of_getElem? hc)) y (List.mem_of_getElem? hc2)) hg⟩
theorem RO.rn {n:Nat} {o:Ob} (hn:n ∈ keys ρ) (hz:okO (keys ρ) o = true) (hg:∀ n ∈ keys ρ,g' (Fw.rn ρ n) = g n) (h:RO P w R B g n o):RO P w R B g' (Fw.rn ρ n) (Tf ρ o):=by
 cases o with
 | row e els => exact gX.rn hn hz hg h
 | dF e els =>
  have:=gX.rn hn (by simp [iT,List.all_eq_true,tV]) hg (els:=iT els) h
  rwa [aCy] at this
 | mp es =>
  obtain ⟨b,qW,clock,h1,h2⟩:=h
  exact ⟨b,qW,clock,(hg n hn).trans h1,h2⟩
 | pool e rows =>
  obtain ⟨⟨bs,h1,h2⟩,h3⟩:=h
  exact ⟨⟨bs,(hg n hn).trans h1,h2⟩,by rw [hg n hn]; exact h3⟩
 | bZ e p lens =>
  have:=gX.rn hn (aDl hz) hg (els:=fU p lens) h
  rwa [aDm] at this
 | unk => trivial
theorem aDC {n:Nat} (h:n ∈ keys ρ):∃ k,lk ρ n = some k ∧ (n,k) ∈ ρ:=by
 induction ρ with
 | nil => simp [keys] at h
 | cons p r ih =>
  obtain ⟨a,b⟩:=p
  show ∃ k,(bif Nat.beq a n then some b else lk r n) = some k ∧ _
  cases hb:Nat.beq a n with
  | true => have:=Nat.eq_of_beq_eq_true hb; subst this; exact ⟨b,rfl,List.mem_cons_self⟩
  | false =>
   have hne:=Nat.ne_of_beq_eq_false hb
   have:n ∈ keys r:=by
    simp [keys] at h
    rcases h with h | h
    ·exact absurd h.symm hne
    ·exact List.mem_map.2 (by simpa using h)
   obtain ⟨k,h1,h2⟩:=ih this
   exact ⟨k,h1,List.mem_cons_of_mem _ h2⟩
def nodup:List Nat → Bool
 | [] => true
 | n :: r => !r.elem n && nodup r
theorem aCI:∀ {ρ:List (Nat × Nat)},nodup (ρ.map (·.2)) = true → ∀ p q,p ∈ ρ → q ∈ ρ → p.2 = q.2 → p = q
 | [],_,_,_,h,_,_ => by cases h
 | x :: r,hn,p,q,hp,hq,he => by
  unfold nodup at hn
  simp only [List.map_cons,Bool.and_eq_true,Bool.not_eq_true'] at hn
  have hx:=mM hn.1
  cases hp with
  | head =>
   cases hq with
   | head => rfl
   | tail _ hq => exact absurd (List.mem_map.2 ⟨q,hq,he.symm⟩) hx
  | tail _ hp =>
   cases hq with
   | head => exact absurd (List.mem_map.2 ⟨p,hp,he⟩) hx
   | tail _ hq => exact aCI hn.2 p q hp hq he
theorem aDB (hn:nodup (ρ.map (·.2)) = true) {n k:Nat} (h1:n ∈ keys ρ) (h2:k ∈ keys ρ) (h:rn ρ n = rn ρ k):n = k:=by
 obtain ⟨a,ha,hma⟩:=aDC h1
 obtain ⟨b,hb,hmb⟩:=aDC h2
 unfold rn at h
 rw [ha,hb] at h
 have:=aCI hn _ _ hma hmb h
 injection this
theorem RC.un {x:CV} {v:Value} (hz:tV (keys ρ) x = true) (hg:∀ n ∈ keys ρ,g' n = g (Fw.rn ρ n)) (h:RC P w R B g (tu ρ x) v):RC P w R B g' x v:=by
 refine ⟨h.1,?_⟩
 have h2:=h.2
 cases x with
 | pv p => exact h2
 | px q cells => exact h2
 | loc n off len =>
  have hn:=hg n (List.mem_of_elem_eq_true hz)
  rcases h2 with ⟨h3,h4⟩ | h3 | ⟨b,cap,cur,e,h3,h4⟩
  ·exact .inl ⟨hn.trans h3,h4⟩
  ·exact .inr (.inl h3)
  ·exact .inr (.inr ⟨b,cap,cur,e,hn.trans h3,h4⟩)
 | pl n off =>
  obtain ⟨b,h3,h4⟩:=h2
  exact ⟨b,(hg n (List.mem_of_elem_eq_true hz)).trans h3,h4⟩
 | fn f caps =>
  obtain ⟨vs,h3,h4,h5⟩:=h2
  refine ⟨vs,h3,by simpa using h4,fun k n hk => ?_⟩
  obtain ⟨b,h6,h7⟩:=h5 k (Fw.rn ρ n) (by rw [List.getElem?_map,hk]; rfl)
  exact ⟨b,(hg n (List.mem_of_elem_eq_true (List.all_eq_true.1 hz n (List.mem_of_getElem? hk)))).trans h6,h7⟩
 | mref n =>
  obtain ⟨b,h3,h4⟩:=h2
  exact ⟨b,(hg n (List.mem_of_elem_eq_true hz)).trans h3,h4⟩
 | tl p k off len =>
  have hn:=hg p (List.mem_of_elem_eq_true hz)
  rcases h2 with ⟨h3,h4⟩ | h3 | ⟨b,cap,cur,e,h3,h4⟩
  ·exact .inl ⟨by rw [hn]; exact h3,h4⟩
  ·exact .inr (.inl h3)
  ·exact .inr (.inr ⟨b,cap,cur,e,by rw [hn]; exact h3,h4⟩)
 | tpl p k off =>
  obtain ⟨b,h3,h4⟩:=h2
  exact ⟨b,by rw [hg p (List.mem_of_elem_eq_true hz)]; exact h3,h4⟩
 | junk => trivial
theorem aGB {xs:List CV} {vs:List Value} (hz:xs.all (tV (keys ρ)) = true) (hg:∀ n ∈ keys ρ,g' n = g (Fw.rn ρ n)) (h:∀ (k:Nat) x,(xs.map (tu ρ))[k]? = some x → ∃ u,vs[k]? = some u ∧ RC P w R B g x u) :
  ∀ (k:Nat) x,xs[k]? = some x → ∃ u,vs[k]? = some u ∧ RC P w R B g' x u:=fun k x hk => by
 obtain ⟨u,h4,h5⟩:=h k (tu ρ x) (by rw [List.getElem?_map,hk]; rfl)
 exact ⟨u,h4,h5.un (List.all_eq_true.1 hz x (List.mem_of_getElem? hk)) hg⟩
theorem RS.un {x:SV} {v:Value} (hz:okS (keys ρ) x = true) (hg:∀ n ∈ keys ρ,g' n = g (Fw.rn ρ n)) (h:RS P w R B g (Ko ρ x) v):RS P w R B g' x v:=by
 cases x with
 | c x => exact RC.un hz hg h
 | agg cs =>
  obtain ⟨vs,h1,h2,h3⟩:=h
  exact ⟨vs,h1,by simpa using h2,aGB hz hg h3⟩
theorem gX.un {n:Nat} {e:TypeId} {els:List (List CV)} (hn:n ∈ keys ρ) (hz:els.all (·.all (tV (keys ρ))) = true) (hg:∀ n ∈ keys ρ,g' n = g (Fw.rn ρ n)) (h:gX P w R B g (Fw.rn ρ n) e (els.map (·.map (tu ρ)))):gX P w R B g' n e els:=by
 rcases h with ⟨h1,h2⟩ | ⟨b,cur,h1,h2,h3,h4,h5⟩
 ·exact .inl ⟨(hg n hn).trans h1,by simpa using h2⟩
 ·refine .inr ⟨b,cur,(hg n hn).trans h1,h2,fun cs hcs => ?_,by simpa using h4,fun j k cs x hj hk => ?_⟩
  ·have:=h3 (cs.map (tu ρ)) (List.mem_map.2 ⟨cs,hcs,rfl⟩)
   simpa using this
  ·obtain ⟨u,h6,h7⟩:=h5 j k (cs.map (tu ρ)) (tu ρ x) (by rw [List.getElem?_map,hj]; rfl) (by rw [List.getElem?_map,hk]; rfl)
   exact ⟨u,h6,h7.un (List.all_eq_true.1 (List.all_eq_true.1 hz cs (List.mem_of_getElem? hj)) x (List.mem_of_getElem? hk)) hg⟩
theorem RO.un {n:Nat} {o:Ob} (hn:n ∈ keys ρ) (hz:okO (keys ρ) o = true) (hg:∀ n ∈ keys ρ,g' n = g (Fw.rn ρ n)) (h:RO P w R B g (Fw.rn ρ n) (Tf ρ o)):RO P w R B g' n o:=by
 cases o with
 | row e els => exact gX.un hn hz hg h
 | dF e els => exact gX.un hn (by simp [iT,List.all_eq_true,tV]) hg (els:=iT els) (by rw [aCy]; exact h)
 | mp es =>
  obtain ⟨b,qW,clock,h1,h2⟩:=h
  exact ⟨b,qW,clock,(hg n hn).trans h1,h2⟩
 | pool e rows =>
  obtain ⟨⟨bs,h1,h2⟩,h3⟩:=h
  exact ⟨⟨bs,(hg n hn).trans h1,h2⟩,by rw [hg n hn]; exact h3⟩
 | bZ e p lens => exact gX.un hn (aDl hz) hg (els:=fU p lens) (by rw [aDm]; exact h)
 | unk => trivial
theorem Fn.ren {f:FuncId} {args:List SV} {us df:Mem} {v:AV} {W X:List Nat} (ρ:List (Nat × Nat)) (h:Fn P f args us v df W X)
  (hc:(nodup (ρ.map (·.2)) && args.all (okS (keys ρ)) && us.all (fun p => (keys ρ).elem p.1 && okO (keys ρ) p.2) && okA (keys ρ) v && df.all (fun p => (keys ρ).elem p.1 && okO (keys ρ) p.2) && fG W (keys ρ) && fG X (keys ρ)) = true) :
  Fn P f (args.map (Ko ρ)) (rnM ρ us) (rnA ρ v) (rnM ρ df) (W.map (rn ρ)) (X.map (rn ρ)):=by
 simp only [Bool.and_eq_true] at hc
 obtain ⟨⟨⟨⟨⟨⟨hnd,hargs⟩,hus⟩,hv⟩,hdf⟩,hW⟩,hX⟩:=hc
 have MQ:=xG hW
 have hXk:=xG hX
 intro R B g w vs hw hlen hvs aI0
 classical
 let gc:Nat → GS:=fun n => if n ∈ keys ρ then g (rn ρ n) else .dead
 have hgc:∀ n ∈ keys ρ,gc n = g (rn ρ n):=fun n hn => if_pos hn
 have hgd:∀ n,gc n ≠ .dead → n ∈ keys ρ:=fun n h => by
  by_cases hn:n ∈ keys ρ
  ·exact hn
  ·exact absurd (if_neg hn) h
 have hgk:∀ n b,(gc n).has b → n ∈ keys ρ:=fun n b h => hgd n fun e => by rw [e] at h; exact h
 have hwc:WF R B gc w:=⟨hw.rb,hw.lt,fun n b hg => by
  have hn:=hgk n b hg
  rw [hgc n hn] at hg
  exact hw.ja _ b hg,fun n k b h1 h2 => by
  have hn:=hgk n b h1
  have hk:=hgk k b h2
  rw [hgc n hn] at h1
  rw [hgc k hk] at h2
  exact aDB hnd hn hk (hw.kW _ _ b h1 h2),fun n j k b h1 h2 => by
  have hn:=hgd n fun e => by rw [e] at h1; cases h1
  rw [hgc n hn] at h1 h2
  exact hw.nd _ j k b h1 h2⟩
 refine (h R B gc w vs hwc (by simpa using hlen) (fun k x hk => ?_) (fun p hp => ?_)).mono fun e w' hp => ?_
 ·obtain ⟨u,h1,h2⟩:=hvs k (Ko ρ x) (by rw [List.getElem?_map,hk]; rfl)
  exact ⟨u,h1,h2.un (List.all_eq_true.1 hargs x (List.mem_of_getElem? hk)) hgc⟩
 ·have h1:=List.all_eq_true.1 hus p hp
  simp only [Bool.and_eq_true] at h1
  exact RO.un (List.mem_of_elem_eq_true h1.1) h1.2 hgc (aI0 (rn ρ p.1,Tf ρ p.2) (List.mem_map.2 ⟨p,hp,rfl⟩))
 ·obtain ⟨u,R',B',g',rfl,had,hR,hvv,aHc⟩:=hp
  let g2:Nat → GS:=fun n => if h:∃ k,k ∈ keys ρ ∧ rn ρ k = n then g' h.choose else g n
  have hin:∀ k ∈ keys ρ,g2 (rn ρ k) = g' k:=fun k hk => by
   have hex:∃ j,j ∈ keys ρ ∧ rn ρ j = rn ρ k:=⟨k,hk,rfl⟩
   show (if h:∃ j,j ∈ keys ρ ∧ rn ρ j = rn ρ k then g' h.choose else g (rn ρ k)) = g' k
   rw [dif_pos hex]
   have:=hex.choose_spec
   rw [aDB hnd this.1 hk this.2]
  have hout:∀ n,(¬ ∃ k,k ∈ keys ρ ∧ rn ρ k = n) → g2 n = g n:=fun n hn => dif_neg hn
  have aGv:∀ b,R' b → b < w'.heap.size:=fun b hb => had.wf.lt b (had.wf.rb b hb)
  have Md:∀ n k b,(¬ ∃ k,k ∈ keys ρ ∧ rn ρ k = n) → k ∈ keys ρ → (g n).has b → (g' k).has b → False:=fun n k b hn hk h1 h2 => by
   by_cases hkX:k ∈ X
   ·rcases had.fresh k hkX b h2 with h3 | ⟨m,hm,h3⟩
    ·exact absurd (hw.ja n b h1).2 (by omega)
    ·rw [hgc m (MQ m hm)] at h3
     exact hn ⟨m,MQ m hm,hw.kW _ _ b h3 h1⟩
   ·rw [had.names k hkX,hgc k hk] at h2
    exact hn ⟨k,hk,hw.kW _ _ b h2 h1⟩
  have hwf:WF R' (fun b => B b ∨ R' b) g2 w':=by
   refine ⟨fun b hb => .inr hb,fun b hb => hb.elim (fun hb => Nat.lt_of_lt_of_le (hw.lt b hb) had.size) (aGv b),fun n b hg => ?_,fun n k b hn hk => ?_,fun n i j b hi hj => ?_⟩
   ·by_cases hn:∃ k,k ∈ keys ρ ∧ rn ρ k = n
    ·obtain ⟨k,hk,rfl⟩:=hn
     rw [hin k hk] at hg
     have h1:=had.wf.ja k b hg
     exact ⟨fun hB => h1.1 (hB.elim (had.b b) (had.wf.rb b)),h1.2⟩
    ·rw [hout n hn] at hg
     have h1:=hw.ja n b hg
     refine ⟨fun hB => ?_,Nat.lt_of_lt_of_le h1.2 had.size⟩
     rcases hB with hB | hB
     ·exact h1.1 hB
     ·rcases hR b hB with h2 | h2
      ·exact h1.1 (hw.rb b h2)
      ·exact absurd h1.2 (by omega)
   ·by_cases h1:∃ j,j ∈ keys ρ ∧ rn ρ j = n <;> by_cases h2:∃ j,j ∈ keys ρ ∧ rn ρ j = k
    ·obtain ⟨n0,hn0,rfl⟩:=h1
     obtain ⟨k0,hk0,rfl⟩:=h2
     rw [hin n0 hn0] at hn
     rw [hin k0 hk0] at hk
     rw [had.wf.kW n0 k0 b hn hk]
    ·obtain ⟨n0,hn0,rfl⟩:=h1
     rw [hin n0 hn0] at hn
     rw [hout k h2] at hk
     exact (Md k n0 b h2 hn0 hk hn).elim
    ·obtain ⟨k0,hk0,rfl⟩:=h2
     rw [hin k0 hk0] at hk
     rw [hout n h1] at hn
     exact (Md n k0 b h1 hk0 hn hk).elim
    ·rw [hout n h1] at hn
     rw [hout k h2] at hk
     exact hw.kW n k b hn hk
   ·by_cases hn:∃ k,k ∈ keys ρ ∧ rn ρ k = n
    ·obtain ⟨k,hk,rfl⟩:=hn
     rw [hin k hk] at hi hj
     exact had.wf.nd k i j b hi hj
    ·rw [hout n hn] at hi hj
     exact hw.nd n i j b hi hj
  have Eg:iR R B g w (W.map (rn ρ)) (X.map (rn ρ)) R' (fun b => B b ∨ R' b) g2 w':=by
   refine ⟨hwf,had.r,fun b hb => .inl hb,had.os,had.tape,had.output,had.size,fun b hb nI => had.heap b hb fun n hn => ?_,fun n hn => ?_,fun n hn b hb => ?_,fun n nI vM b cur e hg hh => ?_⟩
   ·rw [hgc n (MQ n hn)]
    exact nI _ (List.mem_map.2 ⟨n,hn,rfl⟩)
   ·by_cases h1:∃ k,k ∈ keys ρ ∧ rn ρ k = n
    ·obtain ⟨k,hk,rfl⟩:=h1
     rw [hin k hk,had.names k fun hkX => hn (List.mem_map.2 ⟨k,hkX,rfl⟩),hgc k hk]
    ·exact hout n h1
   ·obtain ⟨k,hkX,rfl⟩:=List.mem_map.1 hn
    rw [hin k (hXk k hkX)] at hb
    rcases had.fresh k hkX b hb with h3 | ⟨m,hm,h3⟩
    ·exact .inl h3
    ·rw [hgc m (MQ m hm)] at h3
     exact .inr ⟨rn ρ m,List.mem_map.2 ⟨m,hm,rfl⟩,h3⟩
   ·obtain ⟨k,hkW,rfl⟩:=List.mem_map.1 nI
    exact had.shape k hkW (fun hkX => vM (List.mem_map.2 ⟨k,hkX,rfl⟩)) b cur e (by rw [hgc k (MQ k hkW)]; exact hg) hh
  refine ⟨u,R',_,g2,rfl,Eg,hR,hvv.rn hv hin,fun p hp => ?_⟩
  obtain ⟨q,hq,rfl⟩:=List.mem_map.1 hp
  have h1:=List.all_eq_true.1 hdf q hq
  simp only [Bool.and_eq_true] at h1
  exact RO.rn (List.mem_of_elem_eq_true h1.1) h1.2 hin (aHc q hq)
end
end
section
section
variable {P:Program} {o:Oper} {α:Type} {enc:α → List PV}
theorem LT.iI {x:Operand} {t e:TypeId} {q:Bool} {xs:List α} (ho:o.op = .call { callee:=.builtin .len,args:=#[x],argTypes:=#[t] }) (ht:P.underlying t = some (.slice e)) :
  LT P o [(x,Cc (.pv (.xs q (xs.map enc))))] [] (Iv xs.length) [] [] []:=by
 have:=LT.aJn (P:=P) (o:=o) (q:=q) (els:=xs.map enc) ho ht
 rwa [List.length_map] at this
theorem LT.eF {x y:Operand} {t e:TypeId} {i:Int} {q:Bool} {xs:List α} {b:α} (ho:o.op = .indexAddr t x y) (h:uK P t = some e) (hi:idx xs i = some b) (hs:cO P e = (enc b).length) :
  LT P o [(x,Cc (.pv (.xs q (xs.map enc)))),(y,Iv i)] [] (Cc (.px q (enc b))) [] [] [] :=
 LT.aJP ho h (IB hi) (by rw [List.getElem?_map,nJ hi]; rfl) hs.symm
theorem LT.fP {x y:Operand} {t e:TypeId} {i:Int} {n len:Nat} {xs:List α} {b:α} (hl:len = xs.length) (ho:o.op = .indexAddr t x y) (h:uK P t = some e) (hi:idx xs i = some b) :
  LT P o [(x,Cc (.loc n 0 len)),(y,Iv i)] [(n,.dF e (xs.map enc))] (Cc (.pl n (i.toNat * cO P e))) [] [] []:=by
 subst hl
 exact LT.UY (LT.XP ho h (IB hi) (Rk hi))
theorem X8 {xs:List α} {i:Int} {b:α} (hi:idx xs i = some b):(iT (xs.map enc))[i.toNat]? = some ((enc b).map .pv):=by
 simp [iT,List.getElem?_map,nJ hi]
theorem LT.aLj {x:Operand} {t e:TypeId} {n off k:Nat} {i:Int} {xs:List α} {b:α} {p:PV} (ho:o.op = .load t x) (h:lV P t = some false) (hi:idx xs i = some b) (hk:(enc b)[k]? = some p)
  (ha:off = i.toNat * cO P e + k):LT P o [(x,Cc (.pl n off))] [(n,.dF e (xs.map enc))] (Cc (.pv p)) [] [] [] :=
 LT.UY (LT.Xc ho h (X8 hi) (by rw [List.getElem?_map,hk]; rfl) ha)
theorem LT.Yc {x:Operand} {t e:TypeId} {n off s:Nat} {i:Int} {xs:List α} {b:α} {it:TypeInfo} (ho:o.op = .load t x) (h:lV P t = some true) (hit:P.info? t = some it) (hs:cO P t = s) (hi:idx xs i = some b) (hl:(enc b).length = s)
  (ha:off = i.toNat * cO P e):LT P o [(x,Cc (.pl n off))] [(n,.dF e (xs.map enc))] (Ag ((enc b).map .pv)) [] [] []:=by
 have hd:((((enc b).map CV.pv).drop 0).take (cO P t)) = (enc b).map CV.pv:=by
  rw [List.drop_zero,List.take_of_length_le]
  rw [List.length_map,hl,hs]; exact Nat.le_refl _
 have:=LT.aB5 (P:=P) (o:=o) (n:=n) (e:=e) (k:=0) ho h hit (X8 (enc:=enc) hi) ha (by rw [hd,List.length_map,hl,hs])
 rw [hd] at this
 exact LT.UY this
theorem LT.Lm {x:Operand} {t e:TypeId} {n off:Nat} {cs:List CV} {c:CV} (ho:o.op = .load t x) (h:lV P t = some false) (hk:cs[off]? = some c):LT P o [(x,Cc (.pl n off))] [(n,.row e [cs])] (Cc c) [] [] [] :=
 LT.Xc (j:=0) ho h rfl hk (by rw [Nat.zero_mul,Nat.zero_add])
theorem LT.aFG {x:Operand} {t e:TypeId} {n off s:Nat} {cs out:List CV} {it:TypeInfo} (ho:o.op = .load t x) (h:lV P t = some true) (hit:P.info? t = some it) (hs:cO P t = s) (ho2:(cs.drop off).take s = out) (hl:out.length = s) :
  LT P o [(x,Cc (.pl n off))] [(n,.row e [cs])] (Ag out) [] [] []:=by
 have hd:((cs.drop off).take (cO P t)) = out:=by rw [hs,ho2]
 have:=LT.aB5 (P:=P) (o:=o) (n:=n) (off:=off) (e:=e) (els:=[cs]) (j:=0) (k:=off) ho h hit rfl (by rw [Nat.zero_mul,Nat.zero_add]) (by rw [hd,hl,hs])
 rwa [hd] at this
theorem LT.ZV {t e:TypeId} {n off s:Nat} {x y:Operand} {cs out:List CV} {v:SV} {it:TypeInfo} (ho:o.op = .store t x y) (hd:o.dst = none) (hit:P.info? t = some it) (hs:cO P t = s) (hl:(lT v).length = s) (hk:off + s ≤ cs.length)
  (hout:ow cs off (lT v) = out):LT P o [(x,Cc (.pl n off)),(y,.s v)] [(n,.row e [cs])] (.dM []) [(n,.row e [out])] [n] []:=by
 have:=LT.store (P:=P) (o:=o) (n:=n) (off:=off) (e:=e) (els:=[cs]) (j:=0) (k:=off) ho hd hit hs hl rfl (by rw [Nat.zero_mul,Nat.zero_add]) hk
 subst hout
 exact this
theorem LT.aDs {t e:TypeId} {n off k s:Nat} {x y:Operand} {i:Int} {xs:List α} {b b':α} {v:SV} {it:TypeInfo} (ho:o.op = .store t x y) (hd:o.dst = none) (hit:P.info? t = some it) (hs:cO P t = s) (hl:(lT v).length = s) (hi:idx xs i = some b)
  (ha:off = i.toNat * cO P e + k) (hk:k + s ≤ (enc b).length) (hb:ow ((enc b).map .pv) k (lT v) = (enc b').map .pv) :
  LT P o [(x,Cc (.pl n off)),(y,.s v)] [(n,.dF e (xs.map enc))] (.dM []) [(n,.dF e ((xs.set i.toNat b').map enc))] [n] []:=by
 have:=LT.store (P:=P) (o:=o) (n:=n) (off:=off) (e:=e) (els:=iT (xs.map enc)) ho hd hit hs hl (X8 hi) ha (by simpa using hk)
 have e1:(iT (xs.map enc)).set i.toNat (ow ((enc b).map .pv) k (lT v)) = iT ((xs.set i.toNat b').map enc):=by
  rw [hb]
  simp [iT,List.map_set]
 rw [e1] at this
 exact LT.MC (Y:=[]) (LT.UY (by rw [Ph]; exact this))
section
variable {t e:TypeId} {x y:Operand} {n n2 len IJ:Nat} {xs ys:List α} {z:Value} {s qo:Nat} {q:Bool}
theorem aAS (h:∀ a,(enc a).length = s):∀ cs ∈ ys.map enc,cs.length = s:=fun cs hcs => by
 obtain ⟨a,_,rfl⟩:=List.mem_map.1 hcs
 exact h a
theorem LT.AO (hl:len = xs.length) (ho:o.op = .call { callee:=.builtin .append,args:=#[x,y],argTypes:=#[t,t] }) (ht:P.underlying t = some (.slice e)) (hz:TI P e z s qo) (hzs:z.cells.size = s) (hs:0 < s) (hb:qo ≤ 65536)
  (hl2:∀ a,(enc a).length = s) (hlim:xs.length + ys.length ≤ uy) :
  LT P o [(x,Cc (.loc n 0 len)),(y,Cc (.pv (.xs q (ys.map enc))))] [(n,.dF e (xs.map enc))] (Cc (.loc n 0 (xs ++ ys).length)) [(n,.dF e ((xs ++ ys).map enc))] [n] [n]:=by
 subst hl
 have:=LT.aFB (P:=P) (o:=o) (n:=n) (q:=q) (lN:=xs.map enc) (oQ:=ys.map enc) ho ht hz hzs hs hb (aAS hl2) (by simpa using hlim)
 rwa [List.length_map,List.length_map,← List.map_append,← List.length_append] at this
theorem LT.nZ (hl:len = xs.length) (hl2:IJ = ys.length) (ho:o.op = .call { callee:=.builtin .append,args:=#[x,y],argTypes:=#[t,t] }) (ht:P.underlying t = some (.slice e)) (hz:TI P e z s qo) (hzs:z.cells.size = s) (hs:0 < s) (hb:qo ≤ 65536)
  (hel:∀ a,(enc a).length = s) (hlim:xs.length + ys.length ≤ uy) :
  LT P o [(x,Cc (.loc n 0 len)),(y,Cc (.loc n2 0 IJ))] [(n,.dF e (xs.map enc)),(n2,.dF e (ys.map enc))] (Cc (.loc n 0 (xs ++ ys).length)) [(n,.dF e ((xs ++ ys).map enc))] [n] [n]:=by
 subst hl; subst hl2
 have:=LT.aFA (P:=P) (o:=o) (n:=n) (n2:=n2) (lN:=xs.map enc) (oQ:=ys.map enc) ho ht hz hzs hs hb (aAS hel) (by simpa using hlim)
 rwa [List.length_map,List.length_map,← List.map_append,← List.length_append] at this
end
theorem LT.aLe {t e:TypeId} {len n:Nat} {parts:Array (Nat × Operand)} (ps:Parts) {z:Value} {s b:Nat} {zc:List CV} (xs:List α) (ho:o.op = .buildSlice t len parts) (hps:parts.toList = Parts.ops ps) (he:P.underlying t = some (.slice e)) (hz:TI P e z s b)
  (hzc:z.cells.toList.map sC = zc) (h1:z.cells.toList.all (·.oneCell') = true) (hsz:zc.length = s) (hlen:xs.length = len) (hmax:len * s ≤ 16777216 ∧ 0 < s) (hel:∀ a,(enc a).length = s)
  (hf:Eb (fun i => some (i * s,s)) ((List.range (len * s)).map fun i => zc.getD (i % s) .junk) (Parts.vals ps) = some (iT (xs.map enc)).flatten) :
  LT P o (Parts.ins ps) [] (Cc (.loc n 0 xs.length)) [(n,.dF e (xs.map enc))] [] [n]:=by
 have hlen':(iT (xs.map enc)).length = xs.length:=by simp [iT]
 have:=LT.buildSlice (P:=P) (o:=o) (n:=n) ps (els:=iT (xs.map enc)) ho hps he hz hzc h1 hsz (hlen'.trans hlen) hmax (by
  refine List.all_eq_true.2 fun cs hcs => ?_
  obtain ⟨c,hc,rfl⟩:=List.mem_map.1 hcs
  obtain ⟨a,_,rfl⟩:=List.mem_map.1 hc
  rw [List.length_map,hel a]
  exact Nat.beq_refl s) hf
 rw [hlen'] at this
 exact this.MC
theorem LT.CP {t e:TypeId} {n:Nat} {x y:Operand} {len:Int} {z:Value} {s b:Nat} {zc:List CV} (a:α) (ho:o.op = .makeSlice t x y) (he:P.underlying t = some (.slice e)) (hz:TI P e z s b)
  (hzc:z.cells.toList.map sC = zc) (h1:z.cells.toList.all (·.oneCell') = true) (hsz:zc.length = s) (hs:0 < s) (hb:b ≤ 65536) (hl:0 ≤ len ∧ len ≤ uy) (ha:(enc a).map .pv = zc) :
  LT P o [(x,Iv len),(y,Iv len)] [] (Cc (.loc n 0 (List.replicate len.toNat a).length)) [(n,.dF e ((List.replicate len.toNat a).map enc))] [] [n]:=by
 have:=LT.makeSlice (P:=P) (o:=o) (n:=n) (x:=x) (y:=y) ho he hz hzc h1 hsz hs hb hl
 have e1:List.replicate len.toNat zc = iT ((List.replicate len.toNat a).map enc):=by simp [iT,List.map_replicate,ha]
 have e2:(List.replicate len.toNat zc).length = (List.replicate len.toNat a).length:=by simp
 rw [e2,e1] at this
 exact this.MC
theorem rM.fC {sh:Mem} {n len:Nat} {e:TypeId} {xs:List α} (hl:len = xs.length) (h:lk sh n = some (.dF e (xs.map enc))):rM sh (.loc n 0 len) (.pv (.xs false (xs.map enc))):=by
 subst hl
 have:=rM.loc h
 rwa [List.length_map] at this
def EP (X:List Nat):Mem → Prop
 | [] => True
 | (_,o) :: r => nK X o = o ∧ EP X r
theorem EP.spec {X:List Nat}:∀ {us:Mem},EP X us → ∀ p ∈ us,nK X p.2 = p.2
 | [],_,p,hp => by cases hp
 | (n,o) :: r,h,p,hp => by
  cases hp with
  | head => exact h.1
  | tail _ hp => exact EP.spec h.2 p hp
theorem LT.Ux {cf:Operand} {f:FuncId} {ops:Array Operand} {ts:Array TypeId} {xs ys:List SV} {us sh df:Mem} {v:AV} {W X:List Nat} (hf:Fn P f ys us v df W X)
  (ho:o.op = .call { callee:=.value cf,args:=ops,argTypes:=ts }) (hb:dL P f = true) (hsh:og sh xs ys) (hlen:ops.size = xs.length)
  (hside:(mP (keys sh) (W ++ X ++ keys us ++ keys df ++ []) && fG W (keys us)) = true) (hus:EP (keys sh) us):LT P o ((cf,Cc (.fn f [])) :: LV ops.toList xs) (us ++ sh) v df W X :=
 LT.call (caps:=[]) (by rw [List.map_nil,List.append_nil]; exact hf) ho hb hlen hsh hside hus.spec
end
section
variable {P:Program} {C:Ctx} {σ:Slots} {m:Mem}
theorem St.aCH {R B:Nat → Prop} {g:Nat → GS} {a:Act} {w:World} (hs:St P C σ m R B g a w) (n:Nat) (hn:n ∉ C.pn) (e:TypeId):St P C (kM [n] σ) ((n,.dF e []) :: jK [n] m) R B (upd g n .nil) a w:=by
 have had:iR R B g w [] [n] R B (upd g n .nil) w:=by
  refine ⟨hs.wf.upd n _ (Nat.le_refl _) (fun b hb => hb.elim) (fun i j b hi => by cases hi),fun _ h => h,fun _ h => h,rfl,rfl,rfl,Nat.le_refl _,fun _ _ _ => rfl,fun k hk => upd_ne g _ (by simpa using hk),fun k hk b hb => ?_,fun k hk => by cases hk⟩
  ·have:k = n:=by simpa using hk
   subst this
   rw [upd_same] at hb; exact hb.elim
 exact hs.step (us:=[]) (df:=[(n,.dF e [])]) (W:=[]) (X:=[n]) (d:=none) (v:=.dM []) (u:=undef) trivial (fun _ h => by cases h) (fun p hp => by
   have:p = (n,.dF e []):=by simpa using hp
   subst this; exact .inl (by simp)) rfl (fun k hk => by
   have:k = n:=by simpa using hk
   subst this; exact hn) had (fun b hb => .inl hb) (fun h => by cases h) (KH (.inl ⟨upd_same ..,rfl⟩))
def Fz (n k:Nat) (cs:List CV):List CV:=cs.set k (.loc n 0 0)
theorem aJ3 {w:World} {R B:Nat → Prop} {g:Nat → GS} {n k:Nat} {cs:List CV} {us:Nat → Option Value} (hg:g n = .nil) (hk:cs[k]? = some (sC aJ)) (h:∀ (j:Nat) x,cs[j]? = some x → ∃ u,us j = some u ∧ RC P w R B g x u) :
  ∀ (j:Nat) x,(Fz n k cs)[j]? = some x → ∃ u,us j = some u ∧ RC P w R B g x u:=fun j x hj => by
 unfold Fz at hj
 rw [List.getElem?_set] at hj
 by_cases hkj:k = j
 ·subst hkj
  have hlt:k < cs.length:=(List.getElem?_eq_some_iff.1 hk).1
  rw [if_pos rfl,if_pos hlt] at hj
  injection hj with hj
  subst hj
  obtain ⟨u,h1,h2⟩:=h k _ hk
  obtain ⟨_,h2⟩:=h2
  cases h2
  exact ⟨aJ,h1,rfl,.inl ⟨hg,rfl,rfl,rfl⟩⟩
 ·rw [if_neg hkj] at hj
  exact h j x hj
theorem aJh {n k:Nat} {cs:List CV} (h:cs[k]? = some (sC aJ)):(cs.map (bY [n]))[k]? = some (sC aJ):=by rw [List.getElem?_map,h]; rfl
theorem aQ.nX (b k n:Nat) (e:TypeId) {t:TypeId} {cs:List CV} (hn:C.pn.elem n = false) (hbn:Nat.beq b n = false) (h:lk m b = some (.row t [cs])) (hk:cs[k]? = some (sC aJ)) :
  aQ P C σ m (kM [n] σ) ((b,.row t [Fz n k (cs.map (bY [n]))]) :: (n,.dF e []) :: jK [n] m):=fun R B g a w hs => by
 have h1:=hs.aCH n (mM hn) e
 have hne:b ≠ n:=Nat.ne_of_beq_eq_false hbn
 have hlk:lk ((n,Ob.dF e []) :: jK [n] m) b = some (.row t [cs.map (bY [n])]):=by
  show (bif Nat.beq n b then some (Ob.dF e []) else lk (jK [n] m) b) = _
  have hnb:Nat.beq n b = false:=by
   cases hx:Nat.beq n b with
   | false => rfl
   | true => exact absurd (Nat.eq_of_beq_eq_true hx).symm hne
  rw [hnb,cond_false,SK,if_neg (by simpa using hne),h]
  rfl
 refine ⟨R,B,_,{ h1 with ob:=fun j o hj => ?_,ow:=fun j o c hj hg => ?_ }⟩
 ·change (bif Nat.beq b j then some (Ob.row t [Fz n k (cs.map (bY [n]))]) else lk ((n,Ob.dF e []) :: jK [n] m) j) = some o at hj
  cases hb:Nat.beq b j with
  | false => rw [hb] at hj; exact h1.ob j o hj
  | true =>
   rw [hb,cond_true] at hj
   injection hj with hj
   subst hj
   have:=Nat.eq_of_beq_eq_true hb
   subst this
   have h2:=h1.ob b _ hlk
   rcases h2 with ⟨_,h3⟩ | ⟨c,cur,h3,h4,h5,h6,h7⟩
   ·cases h3
   ·refine .inr ⟨c,cur,h3,h4,fun x hx => ?_,by simpa using h6,fun j k' x y hj hk' => ?_⟩
    ·have:x = Fz n k (cs.map (bY [n])):=by simpa using hx
     subst this
     have:=h5 (cs.map (bY [n])) (by simp)
     simpa [Fz] using this
    ·cases j with
     | zero =>
      simp at hj
      subst hj
      exact aJ3 (us:=fun k' => cur[0 * cO P t + k']?) (upd_same ..) (aJh hk) (fun q y hq => h7 0 q _ y rfl hq) k' y hk'
     | succ j => simp at hj
 ·change (bif Nat.beq b j then some (Ob.row t [Fz n k (cs.map (bY [n]))]) else lk ((n,Ob.dF e []) :: jK [n] m) j) = some o at hj
  cases hb:Nat.beq b j with
  | false => rw [hb] at hj; exact h1.ow j o c hj hg
  | true =>
   have:=Nat.eq_of_beq_eq_true hb
   subst this
   exact h1.ow b _ c hlk hg
end
end
section
def uj (n k j:Nat):Nat:=bif Nat.beq j n then k else j
def zk (n k:Nat):CV → CV
 | .loc j o l => .loc (uj n k j) o l
 | .pl j o => .pl (uj n k j) o
 | .fn f caps => .fn f (caps.map (uj n k))
 | .mref j => .mref (uj n k j)
 | .tl j i o l => .tl (uj n k j) i o l
 | .tpl j i o => .tpl (uj n k j) i o
 | x => x
def Xg (n k:Nat):SV → SV
 | .c x => .c (zk n k x)
 | .agg cs => .agg (cs.map (zk n k))
def PK (n k:Nat):AV → AV
 | .s x => .s (Xg n k x)
 | .dM xs => .dM (xs.map (Xg n k))
def Sm (n k:Nat):Ob → Ob
 | .row e els => .row e (els.map (·.map (zk n k)))
 | .dF e els => .dF e els
 | .mp es => .mp es
 | .pool e rows => .pool e rows
 | .bZ e p lens => .bZ e (uj n k p) lens
 | .unk => .unk
def Xh (n k:Nat) (σ:Slots):Slots:=σ.map fun p => (p.1,PK n k p.2)
def mvM (n k:Nat) (m:Mem):Mem:=m.map fun p => (uj n k p.1,Sm n k p.2)
def uN (n k:Nat) (g:Nat → GS):Nat → GS:=fun j => if j = k then g n else if j = n then .dead else g j
theorem Dv {n k j:Nat} (g:Nat → GS) (hj:j ≠ k):uN n k g (uj n k j) = g j:=by
 unfold uj
 cases hb:Nat.beq j n with
 | true =>
  have:=Nat.eq_of_beq_eq_true hb
  subst this
  simp [uN]
 | false =>
  have:=Nat.ne_of_beq_eq_false hb
  simp [uN,hj,this]
section
variable {P:Program} {w:World} {R B:Nat → Prop} {g:Nat → GS} {n k:Nat}
theorem Fv {j k:Nat} (h:[k].elem j = false):j ≠ k:=by
 have:=mM h
 simpa using this
theorem RC.mv {x:CV} {v:Value} (hz:jX [k] x = true) (h:RC P w R B g x v):RC P w R B (uN n k g) (zk n k x) v:=by
 refine ⟨h.1,?_⟩
 have h2:=h.2
 cases x with
 | pv p => exact h2
 | px q cells => exact h2
 | loc j off len =>
  have hn:=Dv (n:=n) g (Fv (by simpa [jX] using hz))
  rcases h2 with ⟨h3,h4⟩ | h3 | ⟨b,cap,cur,e,h3,h4⟩
  ·exact .inl ⟨hn.trans h3,h4⟩
  ·exact .inr (.inl h3)
  ·exact .inr (.inr ⟨b,cap,cur,e,hn.trans h3,h4⟩)
 | pl j off =>
  obtain ⟨b,h3,h4⟩:=h2
  exact ⟨b,(Dv g (Fv (by simpa [jX] using hz))).trans h3,h4⟩
 | fn f caps =>
  obtain ⟨vs,h3,h4,h5⟩:=h2
  refine ⟨vs,h3,by simpa using h4,fun i j hk => ?_⟩
  rw [List.getElem?_map] at hk
  cases hc:caps[i]? with
  | none => rw [hc] at hk; cases hk
  | some n0 =>
   rw [hc] at hk
   injection hk with hk
   subst hk
   obtain ⟨b,h6,h7⟩:=h5 i n0 hc
   have hz':caps.any [k].elem = false:=by simpa [jX] using hz
   have hne:[k].elem n0 = false:=by
    cases hx:[k].elem n0 with
    | false => rfl
    | true =>
     have:caps.any [k].elem = true:=List.any_eq_true.2 ⟨n0,List.mem_of_getElem? hc,hx⟩
     rw [hz'] at this
     cases this
   exact ⟨b,(Dv g (Fv hne)).trans h6,h7⟩
 | mref j =>
  obtain ⟨b,h3,h4⟩:=h2
  exact ⟨b,(Dv g (Fv (by simpa [jX] using hz))).trans h3,h4⟩
 | tl j i off len =>
  have hn:=Dv (n:=n) g (Fv (by simpa [jX] using hz))
  rcases h2 with ⟨h3,h4⟩ | h3 | ⟨b,cap,cur,e,h3,h4⟩
  ·exact .inl ⟨by rw [hn]; exact h3,h4⟩
  ·exact .inr (.inl h3)
  ·exact .inr (.inr ⟨b,cap,cur,e,by rw [hn]; exact h3,h4⟩)
 | tpl j i off =>
  obtain ⟨b,h3,h4⟩:=h2
  exact ⟨b,by rw [Dv (n:=n) g (Fv (by simpa [jX] using hz))]; exact h3,h4⟩
 | junk => trivial
theorem aCN (X:List Nat) (x:CV):jX X (bY X x) = true:=by
 cases x with
 | loc j o l => cases hx:X.elem j <;> simp only [jX,bY,hx,cond_true,cond_false,Bool.not_false]
 | pl j o => cases hx:X.elem j <;> simp only [jX,bY,hx,cond_true,cond_false,Bool.not_false]
 | fn f caps => cases hx:caps.any X.elem <;> simp only [jX,bY,hx,cond_true,cond_false,Bool.not_false]
 | mref j => cases hx:X.elem j <;> simp only [jX,bY,hx,cond_true,cond_false,Bool.not_false]
 | tl j i o l => cases hx:X.elem j <;> simp only [jX,bY,hx,cond_true,cond_false,Bool.not_false]
 | tpl j i o => cases hx:X.elem j <;> simp only [jX,bY,hx,cond_true,cond_false,Bool.not_false]
 | _ => rfl
theorem aAE {xs:List CV} {us:Nat → Option Value} (h:∀ (i:Nat) x,(xs.map (bY [k]))[i]? = some x → ∃ u,us i = some u ∧ RC P w R B g x u) :
  ∀ (i:Nat) x,((xs.map (bY [k])).map (zk n k))[i]? = some x → ∃ u,us i = some u ∧ RC P w R B (uN n k g) x u:=fun i x hi => by
 rw [List.getElem?_map] at hi
 cases hc:(xs.map (bY [k]))[i]? with
 | none => rw [hc] at hi; cases hi
 | some y =>
  rw [hc] at hi
  injection hi with hi
  subst hi
  obtain ⟨u,h1,h2⟩:=h i y hc
  refine ⟨u,h1,h2.mv ?_⟩
  rw [List.getElem?_map] at hc
  cases hx:xs[i]? with
  | none => rw [hx] at hc; cases hc
  | some z =>
   rw [hx] at hc
   injection hc with hc
   subst hc
   exact aCN _ _
theorem RS.mv {x:SV} {v:Value} (h:RS P w R B g (rY [k] x) v):RS P w R B (uN n k g) (Xg n k (rY [k] x)) v:=by
 cases x with
 | c x => exact RC.mv (aCN _ _) h
 | agg cs =>
  obtain ⟨vs,h1,h2,h3⟩:=h
  exact ⟨vs,h1,by simpa using h2,aAE (us:=fun i => vs[i]?) h3⟩
theorem RA.mv {x:AV} {v:Value} (h:RA P w R B g (qB [k] x) v):RA P w R B (uN n k g) (PK n k (qB [k] x)) v:=by
 cases x with
 | s x => exact RS.mv h
 | dM xs =>
  obtain ⟨vs,h1,h2,h3⟩:=h
  refine ⟨vs,h1,by simpa using h2,fun i x hi => ?_⟩
  rw [List.getElem?_map,List.getElem?_map] at hi
  cases hx:xs[i]? with
  | none => rw [hx] at hi; cases hi
  | some z =>
   rw [hx] at hi
   injection hi with hi
   subst hi
   obtain ⟨u,h4,h5⟩:=h3 i (rY [k] z) (by rw [List.getElem?_map,hx]; rfl)
   exact ⟨u,h4,h5.mv⟩
theorem RO.mv {j:Nat} {o:Ob} (hj:j ≠ k) (h:RO P w R B g j (nK [k] o)):RO P w R B (uN n k g) (uj n k j) (Sm n k (nK [k] o)):=by
 have hg:=Dv (n:=n) g hj
 have hrow:∀ {e:TypeId} {els:List (List CV)},gX P w R B g j e (els.map (·.map (bY [k]))) → gX P w R B (uN n k g) (uj n k j) e ((els.map (·.map (bY [k]))).map (·.map (zk n k))):=fun {e els} h => by
  rcases h with ⟨h1,h2⟩ | ⟨b,cur,h1,h2,h3,h4,h5⟩
  ·exact .inl ⟨hg.trans h1,by rw [h2]; rfl⟩
  ·refine .inr ⟨b,cur,hg.trans h1,h2,fun cs hcs => ?_,by simpa using h4,fun i q cs x hi hq => ?_⟩
   ·obtain ⟨c0,hc0,rfl⟩:=List.mem_map.1 hcs
    simpa using h3 c0 hc0
   ·rw [List.getElem?_map,List.getElem?_map] at hi
    cases hc:els[i]? with
    | none => rw [hc] at hi; cases hi
    | some c0 =>
     rw [hc] at hi
     injection hi with hi
     subst hi
     exact aAE (us:=fun q => cur[i * cO P e + q]?) (fun q y hq => h5 i q _ y (by rw [List.getElem?_map,hc]; rfl) hq) q x hq
 cases o with
 | row e els => exact hrow h
 | dF e els =>
  have h':gX P w R B g j e ((iT els).map (·.map (bY [k]))):=by rw [Ph]; exact h
  have:=hrow h'
  rw [Ph] at this
  have e1:(iT els).map (·.map (zk n k)) = iT els:=by simp [iT,zk,Function.comp_def]
  rw [e1] at this
  exact this
 | mp es =>
  obtain ⟨b,qW,clock,h1,h2⟩:=h
  exact ⟨b,qW,clock,hg.trans h1,h2⟩
 | pool e rows =>
  obtain ⟨⟨bs,h1,h2⟩,h3⟩:=h
  exact ⟨⟨bs,hg.trans h1,h2⟩,by rw [hg]; exact h3⟩
 | bZ e p lens =>
  change RO P w R B g j (bif [k].elem p then .unk else .bZ e p lens) at h
  show RO P w R B (uN n k g) (uj n k j) (Sm n k (bif [k].elem p then .unk else .bZ e p lens))
  cases hx:[k].elem p with
  | true => trivial
  | false =>
   rw [hx] at h
   have h':gX P w R B g j e ((fU p lens).map (·.map (bY [k]))):=by
    rw [UN hx]
    exact h
   have:=hrow h'
   rw [UN hx] at this
   have e1:(fU p lens).map (·.map (zk n k)) = fU (uj n k p) lens:=by
    refine List.ext_getElem? fun i => ?_
    simp only [fU,List.getElem?_map,List.getElem?_mapIdx,Option.map_map]
    cases lens[i]? <;> simp [zk]
   rw [e1] at this
   exact this
 | unk => trivial
end
section
variable {P:Program} {C:Ctx} {σ:Slots} {m:Mem} {n k:Nat}
theorem aB3 (n k:Nat):∀ (σ:Slots) (t:Nat),lk (Xh n k σ) t = (lk σ t).map (PK n k)
 | [],_ => rfl
 | (j,v) :: r,t => by
  show (bif Nat.beq j t then some (PK n k v) else lk (Xh n k r) t) = Option.map (PK n k) (bif Nat.beq j t then some v else lk r t)
  cases Nat.beq j t
  ·exact aB3 n k r t
  ·rfl
theorem aCB {m:Mem} {j:Nat} {o:Ob} (h:lk (mvM n k m) j = some o):∃ j0 o0,(j0,o0) ∈ m ∧ j = uj n k j0 ∧ o = Sm n k o0:=by
 obtain ⟨p,hp,he⟩:=List.mem_map.1 (DX h)
 injection he with h1 h2
 exact ⟨p.1,p.2,hp,h1.symm,h2.symm⟩
def UX:Mem → Bool
 | [] => true
 | (n,_) :: r => !(keys r).elem n && UX r
theorem aD3:∀ {m:Mem} {n:Nat} {o:Ob},UX m = true → (n,o) ∈ m → lk m n = some o
 | [],_,_,_,h => by cases h
 | (j,x) :: r,n,o,hu,h => by
  unfold UX at hu
  simp only [Bool.and_eq_true,Bool.not_eq_true'] at hu
  show (bif Nat.beq j n then some x else lk r n) = some o
  cases h with
  | head => rw [Nat.beq_refl]; rfl
  | tail _ h =>
   have hne:j ≠ n:=fun e => mM hu.1 (e ▸ List.mem_map.2 ⟨_,h,rfl⟩)
   cases hb:Nat.beq j n with
   | true => exact absurd (Nat.eq_of_beq_eq_true hb) hne
   | false => exact aD3 hu.2 h
theorem aQ.mv (n k:Nat) (hp:(!C.pn.elem n && !C.pn.elem k) = true) (hu:UX m = true):aQ P C σ m (Xh n k (kM [k] σ)) (mvM n k (jK [k] m)):=fun R B g a w hs => by
 simp only [Bool.and_eq_true,Bool.not_eq_true'] at hp
 have hpn:=mM hp.1
 have hpk:=mM hp.2
 -- forget k first
 have had:iR R B g w [] [k] R B (upd g k .dead) w:=by
  refine ⟨hs.wf.upd k _ (Nat.le_refl _) (fun b hb => hb.elim) (fun i j b hi => by cases hi),fun _ h => h,fun _ h => h,rfl,rfl,rfl,Nat.le_refl _,fun _ _ _ => rfl,fun i hi => upd_ne g _ (by simpa using hi),fun i hi b hb => ?_,fun i hi => by cases hi⟩
  ·have:i = k:=by simpa using hi
   subst this
   rw [upd_same] at hb; exact hb.elim
 have h1:St P C (kM [k] σ) (jK [k] m) R B (upd g k .dead) a w :=
  hs.step (us:=[]) (df:=[]) (W:=[]) (X:=[k]) (d:=none) (v:=.dM []) (u:=undef) trivial (fun _ h => by cases h) (fun p hp => by cases hp) rfl (fun j hj => by
   have:j = k:=by simpa using hj
   subst this; exact hpk) had (fun b hb => .inl hb) (fun h => by cases h) (fun p hp => by cases hp)
 have hjm:∀ (m0:Mem) (j:Nat) (o:Ob),(j,o) ∈ jK [k] m0 → j ≠ k ∧ ∃ o0,(j,o0) ∈ m0 ∧ o = nK [k] o0:=by
  intro m0
  induction m0 with
  | nil => intro j o h; cases h
  | cons p r ih =>
   intro j o h
   obtain ⟨i,x⟩:=p
   unfold jK at h
   cases hi:[k].elem i with
   | true =>
    rw [hi,cond_true] at h
    obtain ⟨h1,o0,h2,h3⟩:=ih j o h
    exact ⟨h1,o0,List.mem_cons_of_mem _ h2,h3⟩
   | false =>
    rw [hi,cond_false] at h
    cases h with
    | head => exact ⟨Fv hi,x,List.mem_cons_self,rfl⟩
    | tail _ h =>
     obtain ⟨h1,o0,h2,h3⟩:=ih j o h
     exact ⟨h1,o0,List.mem_cons_of_mem _ h2,h3⟩
 have hlk:∀ j o,(j,o) ∈ jK [k] m → lk (jK [k] m) j = some o:=fun j o hm => by
  obtain ⟨h2,o0,h3,rfl⟩:=hjm m j o hm
  rw [SK,if_neg (by simpa using h2),aD3 hu h3]
  rfl
 generalize upd g k .dead = g1 at h1
 refine ⟨R,B,uN n k g1,{ h1 with wf:=⟨h1.wf.rb,h1.wf.lt,fun j b hj => ?_,fun i j b hi hj => ?_,fun q i j b hi hj => ?_⟩,sl:=fun t v ht => ?_,ob:=fun j o hj => ?_,ow:=fun j o b hj hb => ?_,pin:=fun j hj => ?_ }⟩
 ·unfold uN at hj
  split at hj
  ·exact h1.wf.ja n b hj
  ·split at hj
   ·exact hj.elim
   ·exact h1.wf.ja j b hj
 ·unfold uN at hi hj
  split at hi
  ·rename_i e1
   split at hj
   ·rename_i e2; rw [e1,e2]
   ·split at hj
    ·exact hj.elim
    ·rename_i e3; exact absurd (h1.wf.kW n j b hi hj).symm e3
  ·split at hi
   ·exact hi.elim
   ·rename_i e1 e2
    split at hj
    ·exact absurd (h1.wf.kW i n b hi hj) e2
    ·split at hj
     ·exact hj.elim
     ·exact h1.wf.kW i j b hi hj
 ·unfold uN at hi hj
  split at hi
  ·rename_i e1
   rw [if_pos e1] at hj
   exact h1.wf.nd n i j b hi hj
  ·rename_i e1
   rw [if_neg e1] at hj
   split at hi
   ·cases hi
   ·rename_i e2
    rw [if_neg e2] at hj
    exact h1.wf.nd q i j b hi hj
 ·rw [aB3,IQ] at ht
  cases hl:lk σ t with
  | none => rw [hl] at ht; cases ht
  | some x =>
   rw [hl] at ht
   injection ht with ht
   subst ht
   exact RA.mv (h1.sl t _ (by rw [IQ,hl]; rfl))
 ·obtain ⟨j0,o0,hm,rfl,rfl⟩:=aCB hj
  obtain ⟨h2,o1,h3,rfl⟩:=hjm m j0 o0 hm
  exact RO.mv h2 (h1.ob j0 _ (hlk j0 _ hm))
 ·obtain ⟨j0,o0,hm,rfl,rfl⟩:=aCB hj
  obtain ⟨h2,_⟩:=hjm m j0 o0 hm
  rw [Dv g1 h2] at hb
  exact h1.ow j0 o0 b (hlk j0 o0 hm) hb
 ·have e1:j ≠ k:=fun e => hpk (e ▸ hj)
  have e2:j ≠ n:=fun e => hpn (e ▸ hj)
  have:uN n k g1 j = g1 j:=by simp [uN,e1,e2]
  rw [this]
  exact h1.pin j hj
end
end
section
def jZ:List Int → List Int → Bool
 | [],[] => true
 | a :: r,b :: s => (a == b) && jZ r s
 | _,_ => false
theorem aAX:∀ a b:List Int,jZ a b = decide (a = b)
 | [],[] => rfl
 | [],_ :: _ => by simp [jZ]
 | _ :: _,[] => by simp [jZ]
 | a :: r,b :: s => by
  rw [jZ,aAX r s]
  by_cases h1:a = b <;> by_cases h2:r = s <;> simp [h1,h2]
def Rw (P:Program):Nat → List Field → Bool
 | _,[] => true
 | k,f :: r => (f.name != "_") && Nat.beq f.offset k && (match P.underlying f.type with | some (.int _) => true | _ => false) && Rw P (k + 1) r
def IG (P:Program) (t:TypeId):Option Nat:=match P.underlying t with
 | some (.struct fs) => if (Rw P 0 fs.toList && !P.stoodInHeld t && !P.eqGuardType P.depth t) = true then some fs.size else none
 | _ => none
section
variable {P:Program} {o:Oper}
def BM (l:List Int):Array Value:=(l.map fun n => Value.int .i64 n).toArray
theorem aDL (w:World) (d:Nat):∀ (fs:List Field) (k:Nat) (xs ys:List Int),Rw P k fs = true → xs.length = k + fs.length → ys.length = k + fs.length →
  (Op.eqFields (d + 1) (BM xs) (BM ys) fs).run P w = .ok (jZ (xs.drop k) (ys.drop k)) w
 | [],k,xs,ys,_,hx,hy => by
  rw [List.drop_eq_nil_of_le (by simp at hx; omega),List.drop_eq_nil_of_le (by simp at hy; omega)]
  rfl
 | f :: r,k,xs,ys,h,hx,hy => by
  unfold Rw at h
  simp only [Bool.and_eq_true] at h
  obtain ⟨⟨⟨h1,h2⟩,h3⟩,h4⟩:=h
  have hoff:f.offset = k:=Nat.eq_of_beq_eq_true h2
  have hname:f.name ≠ "_" := by simpa using h1
  have hkx:k < xs.length:=by simp at hx; omega
  have hky:k < ys.length:=by simp at hy; omega
  have hkind:∃ kd,P.underlying f.type = some (.int kd):=by
   split at h3
   ·exact ⟨_,by assumption⟩
   ·cases h3
  obtain ⟨kd,hk⟩:=hkind
  have hpx:(part f.type (BM xs) f.offset).run P w = .ok (.int .i64 xs[k]) w:=by simp [part,isAgg,run_underlying hk,hoff,BM,List.getElem?_map,hkx]
  have hpy:(part f.type (BM ys) f.offset).run P w = .ok (.int .i64 ys[k]) w:=by simp [part,isAgg,run_underlying hk,hoff,BM,List.getElem?_map,hky]
  have ih:=aDL w d r (k + 1) xs ys h4 (by simp at hx ⊢; omega) (by simp at hy ⊢; omega)
  rw [List.drop_eq_getElem_cons hkx,List.drop_eq_getElem_cons hky]
  unfold Op.eqFields
  rw [if_pos hname]
  simp only [Sem.run_bind,hpx,hpy,Result.andThen_ok,run_equalIn_int w d f.type .i64 kd _ _ hk]
  cases hb:(xs[k] == ys[k]) with
  | true => simp [ih,jZ,hb]
  | false => simp [jZ,hb]
theorem aDM {t:TypeId} {n:Nat} (h:IG P t = some n) (xs ys:List Int) (hx:xs.length = n) (hy:ys.length = n) (w:World) :
  (Op.equalIn 10000 t (.agg (BM xs)) (.agg (BM ys))).run P w = .ok (jZ xs ys) w ∧ P.eqGuardType P.depth t = false:=by
 unfold IG at h
 split at h
 ·rename_i fs hfs
  split at h
  ·rename_i hc
   simp only [Bool.and_eq_true,Bool.not_eq_true'] at hc
   injection h with h
   subst h
   have hf:P.fieldsOf t = fs:=by simp [Program.fieldsOf,hfs]
   refine ⟨?_,hc.2⟩
   rw [show (10000:Nat) = 9999 + 1 from rfl,run_equalIn_agg w 9999 t _ _ (by rw [hf]; exact hfs) hc.1.2,hf]
   have:=aDL (P:=P) w 9998 fs.toList 0 xs ys hc.1.1 (by simpa using hx) (by simpa using hy)
   simpa using this
  ·cases h
 ·cases h
theorem QL {w:World} {R B:Nat → Prop} {g:Nat → GS} {xs:List Int} {v:Value} (h:RA P w R B g (Ag (xs.map iC)) v):v = .agg (BM xs):=by
 obtain ⟨vs,rfl,hl,hc⟩:=h
 have:vs = xs.map fun n => Value.int .i64 n:=by
  refine List.ext_getElem (by simpa using hl) fun i h1 h2 => ?_
  have hi:i < xs.length:=by simpa using h2
  obtain ⟨u,h3,h4⟩:=hc i (iC xs[i]) (by rw [List.getElem?_map,List.getElem?_eq_getElem hi]; rfl)
  obtain ⟨_,h4⟩:=h4
  cases h4
  rw [List.getElem?_eq_getElem h1] at h3
  injection h3 with h3
  rw [h3]
  simp
 rw [this]
 rfl
theorem LT.MH {t t':TypeId} {x y:Operand} {n:Nat} (xs ys:List Int) (ho:o.op = .binOp .eql t x y t') (h:IG P t = some n) (hx:xs.length = n) (hy:ys.length = n) :
  LT P o [(x,Ag (xs.map iC)),(y,Ag (ys.map iC))] [] (Bv (jZ xs ys)) [] [] []:=.calm fun R B g w a _ hi _ => by
 obtain ⟨h1,h2⟩:=aDM h xs ys hx hy w
 refine ⟨.bool (jZ xs ys),?_,vW rfl⟩
 simp only [execOp,ho,QL (in1 hi),QL (in2 hi),Sem.run_bind,run_eqGuard_agg w .eql t x y _ _ h2,Result.andThen_ok,run_eql_struct,h1,Sem.run_pure]
theorem LT.Sz {t t':TypeId} {x y:Operand} {n:Nat} (xs ys:List Int) (ho:o.op = .binOp .neq t x y t') (h:IG P t = some n) (hx:xs.length = n) (hy:ys.length = n) :
  LT P o [(x,Ag (xs.map iC)),(y,Ag (ys.map iC))] [] (Bv (!jZ xs ys)) [] [] []:=.calm fun R B g w a _ hi _ => by
 obtain ⟨h1,h2⟩:=aDM h xs ys hx hy w
 refine ⟨.bool (!jZ xs ys),?_,vW rfl⟩
 simp only [execOp,ho,QL (in1 hi),QL (in2 hi),Sem.run_bind,run_eqGuard_agg w .neq t x y _ _ h2,Result.andThen_ok,run_neq_struct,h1,Sem.run_pure]
end
end
theorem LW {n:Nat} (h:n ≤ 1099511627776):n < BIG:=by unfold BIG; omega
theorem gZ {n:Int} (h1:-4611686018427387904 ≤ n) (h2:n ≤ 4611686018427387904):aB n = n:=vk (by omega) (by omega)
theorem aB6 {σ τ:Type} {b:σ → Option (σ ⊕ τ)} {r:τ} (st:Nat → σ) (n:Nat) (h:∀ k,k < n → b (st k) = some (.inl (st (k + 1)))) (hr:b (st n) = some (.inr r)):∀ (j k f:Nat),k + j = n → j < f → bG b f (st k) = some r
 | 0,k,f,hk,hf => by
  obtain ⟨f,rfl⟩:∃ g,f = g + 1:=⟨f - 1,by omega⟩
  have:k = n:=by omega
  subst this
  unfold bG
  rw [hr]
 | j + 1,k,f,hk,hf => by
  obtain ⟨f,rfl⟩:∃ g,f = g + 1:=⟨f - 1,by omega⟩
  unfold bG
  rw [h k (by omega)]
  exact aB6 st n h hr j (k + 1) f (by omega) (by omega)
theorem kX {σ τ:Type} {b:σ → Option (σ ⊕ τ)} {r:τ} {s:σ} (st:Nat → σ) (n:Nat) (hn:n ≤ 1099511627776) (h0:st 0 = s) (h:∀ k,k < n → b (st k) = some (.inl (st (k + 1)))) (hr:b (st n) = some (.inr r)):bG b BIG s = some r:=by
 subst h0
 exact aB6 st n h hr n 0 BIG (by omega) (LW hn)
theorem qx {α:Type} {l:List α} {k:Nat} (h:k < l.length):idx l (k:Int) = some l[k]:=by
 unfold idx
 rw [if_pos (by omega),Int.toNat_natCast,List.getElem?_eq_getElem h]
theorem oP {α:Type} {l:List α} {k:Nat} {x:α} (h:l[k]? = some x):idx l (k:Int) = some x:=by
 unfold idx
 rw [if_pos (by omega),Int.toNat_natCast,h]
theorem gW {k:Nat} (h:k ≤ 1099511627776):aB ((k:Int) + 1) = ((k + 1:Nat):Int):=by
 rw [gZ (by omega) (by omega)]; omega
theorem aAL {τ:Type} {b:Int → Option (Int ⊕ τ)} {r:τ} (n:Nat) (hn:n ≤ 1099511627776) (h:∀ k:Nat,k < n → b k = some (.inl (aB ((k:Int) + 1)))) (hr:b n = some (.inr r)):bG b BIG 0 = some r :=
 kX (fun k => (k:Int)) n hn rfl (fun k hk => by rw [h k hk,gW (by omega)]) hr
theorem aNR {τ:Type} {b:Int → Option (Int ⊕ τ)} (n:Nat) (hn:n ≤ 1099511627776) (h:∀ k:Nat,k < n → b k = some (.inl (aB ((k:Int) + 1))) ∨ ∃ r,b k = some (.inr r)) (hr:∃ r,b n = some (.inr r)):∃ r,bG b BIG 0 = some r:=by
 have go:∀ (j k f:Nat),k + j = n → j < f → ∃ r,bG b f (k:Int) = some r:=by
  intro j
  induction j with
  | zero =>
   intro k f hk hf
   obtain ⟨f,rfl⟩:∃ g,f = g + 1:=⟨f - 1,by omega⟩
   have:k = n:=by omega
   subst this
   obtain ⟨r,hr⟩:=hr
   exact ⟨r,by unfold bG; rw [hr]⟩
  | succ j ih =>
   intro k f hk hf
   obtain ⟨f,rfl⟩:∃ g,f = g + 1:=⟨f - 1,by omega⟩
   rcases h k (by omega) with h1 | ⟨r,h1⟩
   ·rw [gW (by omega)] at h1
    obtain ⟨r,hr⟩:=ih (k + 1) f (by omega) (by omega)
    exact ⟨r,by unfold bG; rw [h1]; exact hr⟩
   ·exact ⟨r,by unfold bG; rw [h1]⟩
 exact go n 0 BIG (by omega) (LW hn)
theorem aE8 {γ:Type} {b:Int → Option (Int ⊕ (Unit ⊕ γ))} (bad:Nat → Bool) (c:γ) (k0 n:Nat) (hn:n ≤ 1099511627776) (h0:k0 ≤ n) (h:∀ k:Nat,k0 ≤ k → k < n → b k = bif bad k then some (.inr (.inr c)) else some (.inl (aB ((k:Int) + 1)))) (hr:b n = some (.inr (.inl ()))) :
  bG b BIG k0 = some (bif (List.range' k0 (n - k0)).any bad then .inr c else .inl ()):=by
 have go:∀ (j k f:Nat),k + j = n → k0 ≤ k → j < f → bG b f (k:Int) = some (bif (List.range' k j).any bad then .inr c else .inl ()):=by
  intro j
  induction j with
  | zero =>
   intro k f hk _ hf
   obtain ⟨f,rfl⟩:∃ g,f = g + 1:=⟨f - 1,by omega⟩
   have:k = n:=by omega
   subst this
   unfold bG
   rw [hr]
   rfl
  | succ j ih =>
   intro k f hk hk0 hf
   obtain ⟨f,rfl⟩:∃ g,f = g + 1:=⟨f - 1,by omega⟩
   have h1:=h k hk0 (by omega)
   unfold bG
   cases hb:bad k with
   | true =>
    rw [hb,cond_true] at h1
    rw [h1,List.range'_succ,List.any_cons,hb]
    rfl
   | false =>
    rw [hb,cond_false,gW (by omega)] at h1
    rw [h1,List.range'_succ,List.any_cons,hb,Bool.false_or]
    exact ih (k + 1) f (by omega) (by omega) (by omega)
 exact go (n - k0) k0 BIG (by omega) (Nat.le_refl _) (by have:=LW hn; omega)
theorem xR {σ τ:Type} {b:σ → Option (σ ⊕ τ)} {s:σ} (I:Nat → σ → Prop) (Q:τ → Prop) (n:Nat) (hn:n ≤ 1099511627776) (h0:I 0 s)
  (h:∀ k s,k < n → I k s → (∃ s',b s = some (.inl s') ∧ I (k + 1) s') ∨ ∃ r,b s = some (.inr r) ∧ Q r) (hr:∀ s,I n s → ∃ r,b s = some (.inr r) ∧ Q r):∃ r,bG b BIG s = some r ∧ Q r:=by
 have go:∀ (j k f:Nat) (s:σ),k + j = n → j < f → I k s → ∃ r,bG b f s = some r ∧ Q r:=by
  intro j
  induction j with
  | zero =>
   intro k f s hk hf hi
   obtain ⟨f,rfl⟩:∃ g,f = g + 1:=⟨f - 1,by omega⟩
   have:k = n:=by omega
   subst this
   obtain ⟨r,h1,h2⟩:=hr s hi
   exact ⟨r,by unfold bG; rw [h1],h2⟩
  | succ j ih =>
   intro k f s hk hf hi
   obtain ⟨f,rfl⟩:∃ g,f = g + 1:=⟨f - 1,by omega⟩
   rcases h k s (by omega) hi with ⟨s',h1,h2⟩ | ⟨r,h1,h2⟩
   ·obtain ⟨r,h3,h4⟩:=ih (k + 1) f s' (by omega) (by omega) h2
    exact ⟨r,by unfold bG; rw [h1]; exact h3,h4⟩
   ·exact ⟨r,by unfold bG; rw [h1],h2⟩
 exact go n 0 BIG s (by omega) (LW hn) h0
theorem je {n:Nat} (h:n ≤ 2147483648):lim n = some ():=by unfold lim uy; rw [if_pos h]
theorem BO {n:Int} (h0:0 ≤ n) (h:n ≤ 2147483648):vN n = some ():=by unfold vN; rw [if_pos ⟨h0,h⟩]
def iter {β:Type} (f:Nat → β → β):Nat → β → β
 | 0,a => a
 | n + 1,a => f n (iter f n a)
theorem aBm {β:Type} {f:Nat → β → β} {a0:β} (I:Nat → β → Prop) (h0:I 0 a0):∀ n,(∀ k a,k < n → I k a → I (k + 1) (f k a)) → I n (iter f n a0)
 | 0,_ => h0
 | n + 1,h => h n _ (by omega) (aBm I h0 n fun k a hk hi => h k a (by omega) hi)
theorem Hl {β τ σ:Type} {b:σ → Option (σ ⊕ τ)} {s:σ} (mk:Nat → β → σ) (f:Nat → β → β) (I:Nat → β → Prop) (fin:β → τ) (n:Nat) (a0:β) (hn:n ≤ 1099511627776) (hs:s = mk 0 a0) (h0:I 0 a0)
  (h:∀ k a,k < n → I k a → b (mk k a) = some (.inl (mk (k + 1) (f k a))) ∧ I (k + 1) (f k a)) (hr:∀ a,I n a → b (mk n a) = some (.inr (fin a))) :
  bG b BIG s = some (fin (iter f n a0)) ∧ I n (iter f n a0):=by
 have hI:∀ m,m ≤ n → I m (iter f m a0):=fun m hm => aBm I h0 m fun k a hk hi => (h k a (by omega) hi).2
 subst hs
 exact ⟨kX (fun k => mk k (iter f k a0)) n hn rfl (fun k hk => (h k _ hk (hI k (by omega))).1) (hr _ (hI n (Nat.le_refl _))),hI n (Nat.le_refl _)⟩
def pieces {α:Type} (f:Nat → List α):Nat → List α
 | 0 => []
 | n + 1 => pieces f n ++ f n
theorem pieces_len {α:Type} {f:Nat → List α} {c:Nat}:∀ n,(∀ k,k < n → (f k).length ≤ c) → (pieces f n).length ≤ c * n
 | 0,_ => by simp [pieces]
 | n + 1,h => by
  have h1:=pieces_len n fun k hk => h k (by omega)
  have h2:=h n (by omega)
  show (pieces f n ++ f n).length ≤ _
  rw [List.length_append,Nat.mul_add,Nat.mul_one]
  omega
theorem aCi {α:Type} {f g:Nat → List α}:∀ n,(∀ k,k < n → f k = g k) → pieces f n = pieces g n
 | 0,_ => rfl
 | n + 1,h => by
  show pieces f n ++ f n = pieces g n ++ g n
  rw [aCi n fun k hk => h k (by omega),h n (by omega)]
theorem QN {α τ σ:Type} {b:σ → Option (σ ⊕ τ)} {s:σ} (mk:Nat → List α → σ) (f:Nat → List α) (fin:List α → τ) (c n:Nat) (F8:List α) (hn:n ≤ 1099511627776) (hs:s = mk 0 F8) (hc:∀ k,k < n → (f k).length ≤ c)
  (h:∀ k out,k < n → out.length ≤ F8.length + c * k → b (mk k out) = some (.inl (mk (k + 1) (out ++ f k)))) (hr:∀ out,b (mk n out) = some (.inr (fin out))) :
  bG b BIG s = some (fin (F8 ++ pieces f n)):=by
 subst hs
 refine kX (fun k => mk k (F8 ++ pieces f k)) n hn (by simp [pieces]) (fun k hk => ?_) (hr _)
 have h1:=pieces_len (f:=f) (c:=c) k fun j hj => hc j (by omega)
 rw [h k _ hk (by rw [List.length_append]; omega),List.append_assoc]
 rfl
theorem aE9 {p:Nat → Bool} {k0 n:Nat}:(List.range' k0 n).any p = true ↔ ∃ k,k0 ≤ k ∧ k < k0 + n ∧ p k = true:=by
 rw [List.any_eq_true]
 constructor
 ·rintro ⟨k,hk,h⟩
  rw [List.mem_range'_1] at hk
  exact ⟨k,hk.1,hk.2,h⟩
 ·rintro ⟨k,h1,h2,h⟩
  exact ⟨k,List.mem_range'_1.2 ⟨h1,h2⟩,h⟩
theorem Af {p:Nat → Bool} {k0 n:Nat}:(List.range' k0 n).any p = false ↔ ∀ k,k0 ≤ k → k < k0 + n → p k = false:=by
 rw [← Bool.not_eq_true,aE9]
 constructor
 ·intro h k h1 h2
  cases hp:p k
  ·rfl
  ·exact absurd ⟨k,h1,h2,hp⟩ h
 ·rintro h ⟨k,h1,h2,h3⟩
  rw [h k h1 h2] at h3
  cases h3
theorem zH {γ:Type} {b:Int → Option (Int ⊕ (Unit ⊕ γ))} (bad:Nat → Bool) (c:γ) (n:Nat) (hn:n ≤ 1099511627776) (h:∀ k:Nat,k < n → b k = bif bad k then some (.inr (.inr c)) else some (.inl (aB ((k:Int) + 1)))) (hr:b n = some (.inr (.inl ()))) :
  bG b BIG 0 = some (bif (List.range' 0 n).any bad then .inr c else .inl ()):=by
 have:=aE8 (b:=b) bad c 0 n hn (by omega) (fun k _ hk => h k hk) hr
 rwa [Nat.sub_zero] at this
theorem aKw {α:Type} (a:List α) (z x:α) (k n:Nat) (ha:a.length = k) (hk:k < n):(a ++ List.replicate (n - k) z).set k x = (a ++ [x]) ++ List.replicate (n - (k + 1)) z:=by
 obtain ⟨m,hm⟩:∃ m,n - k = m + 1:=⟨n - k - 1,by omega⟩
 rw [hm,show n - (k + 1) = m by omega,List.set_append_right _ _ (by omega),ha,Nat.sub_self,List.replicate_succ,List.set_cons_zero,List.append_assoc]
 rfl
theorem vY {α:Type} {l:List α} {k:Nat} (hk:k < l.length):l.take (k + 1) = l.take k ++ [l[k]]:=by
 rw [List.take_add_one,List.getElem?_eq_getElem hk]; rfl
end Go.Fw
end
section
namespace Go.Fw
open Go.ChangeMaps
def slc {α:Type} (l:List α) (lo hi:Int):Option (List α):=if 0 ≤ lo ∧ lo ≤ hi ∧ hi ≤ (l.length:Int) then some ((l.take hi.toNat).drop lo.toNat) else none
theorem Kv {α:Type} {l r:List α} {lo hi:Int} (h:slc l lo hi = some r):0 ≤ lo ∧ lo ≤ hi ∧ hi ≤ (l.length:Int) ∧ r = (l.take hi.toNat).drop lo.toNat:=by
 unfold slc at h
 split at h
 ·rename_i h0
  injection h with h
  exact ⟨h0.1,h0.2.1,h0.2.2,h.symm⟩
 ·cases h
theorem YQ {α:Type} {l r:List α} {lo hi:Int} (h:slc l lo hi = some r):lo.toNat ≤ hi.toNat:=by
 have:=Kv h
 omega
theorem YP {α:Type} {l r:List α} {lo hi:Int} (h:slc l lo hi = some r):hi.toNat ≤ l.length:=by
 have:=Kv h
 omega
def mD:List (Int × Int) → Int → Int
 | [],_ => 0
 | e :: r,k => bif k == e.1 then e.2 else mD r k
def nM:List (Int × Int) → Int → Bool
 | [],_ => false
 | e :: r,k => bif k == e.1 then true else nM r k
def lI:List (Int × Int) → Int → Int → List (Int × Int)
 | [],k,v => [(k,v)]
 | e :: r,k,v => bif k == e.1 then (k,v) :: r else e :: lI r k v
section
variable {P:Program} {o:Oper} {w:World} {R B:Nat → Prop} {g:Nat → GS}
theorem aKs {lo hi:Option Value} {len cap:Nat} {l h:Nat} (hlo:lo = some (.int .i64 (l:Int)) ∨ (lo = none ∧ l = 0)) (hhi:hi = some (.int .i64 (h:Int)) ∨ (hi = none ∧ h = len)) (h1:l ≤ h) (h2:h ≤ len) (h3:len ≤ cap) (w:World) :
  (Instr.sliceBounds true len cap lo hi none).run P w = .ok (l,h,cap) w:=by
 have e1:(Instr.sliceBound (.int .i64 (h:Int)) cap .sliceAcap).run P w = .ok h w:=by
  have:(0:Int) ≤ (h:Int) ∧ (h:Int) ≤ (cap:Int):=by omega
  simp [Instr.sliceBound,asIntOf,this]
 have e2:(Instr.sliceBound (.int .i64 (l:Int)) h .sliceB).run P w = .ok l w:=by
  have:(0:Int) ≤ (l:Int) ∧ (l:Int) ≤ (h:Int):=by omega
  simp [Instr.sliceBound,asIntOf,this]
 rcases hlo with rfl | ⟨rfl,rfl⟩ <;> rcases hhi with rfl | ⟨rfl,rfl⟩ <;> simp [Instr.sliceBounds,e1,e2,Result.andThen]
def Lp:Option (Operand × Int) → List (Operand × AV)
 | some (x,n) => [(x,Iv n)]
 | none => []
theorem ZR {a:Act} {b:Option (Operand × Int)} {x:Option Operand} (hx:x = b.map (·.1)) (h:∀ p ∈ Lp b,RA P w R B g p.2 (a.eval p.1)):x.map a.eval = b.map fun q => Value.int .i64 q.2:=by
 subst hx
 cases b with
 | none => rfl
 | some q =>
  obtain ⟨y,n⟩:=q
  have:=oW (h (y,Iv n) List.mem_cons_self)
  simp [this]
theorem aDP {t e:TypeId} {it:TypeInfo} (ht:P.underlying t = some (.slice e)) (hit:P.info? e = some it) {lo hi:Option Value} {A:Option Addr} {len cap l h:Nat} (hlo:lo = some (.int .i64 (l:Int)) ∨ (lo = none ∧ l = 0)) (hhi:hi = some (.int .i64 (h:Int)) ∨ (hi = none ∧ h = len)) (h1:l ≤ h) (h2:h ≤ len) (h3:len ≤ cap) (w:World) :
  (Instr.sliceAt t (.slice A len cap) lo hi none).run P w = .ok (.slice (if cap = l then A else A.map (·.add (l * cO P e))) (h - l) (cap - l)) w:=by
 have hb:=aKs (P:=P) hlo hhi h1 h2 h3 w
 simp [Instr.sliceAt,Instr.slice,run_underlying ht,hb,run_sizeOf hit,Result.andThen]
theorem ZQ {b:Option (Operand × Int)} {n:Nat} {d:Option Nat} (h:(∃ x m,b = some (x,m) ∧ 0 ≤ m ∧ n = m.toNat) ∨ (b = none ∧ some n = d)):(b.map fun q => Value.int .i64 q.2) = some (.int .i64 (n:Int)) ∨ ((b.map fun q => Value.int .i64 q.2) = none ∧ some n = d):=by
 rcases h with ⟨x,m,rfl,h0,rfl⟩ | ⟨rfl,h⟩
 ·left
  simp [Int.toNat_of_nonneg h0]
 ·exact .inr ⟨rfl,h⟩
theorem LT.aK8 {x:Operand} {t e:TypeId} {lo hi:Option Operand} {wJ wI:Option (Operand × Int)} {q:Bool} {els:List (List PV)} {l h:Nat} (ho:o.op = .slice t x lo hi none) (hlo:lo = wJ.map (·.1)) (hhi:hi = wI.map (·.1)) (ht:P.underlying t = some (.slice e)) (hi2:(P.info? e).isSome = true)
  (hl:∀ cs ∈ els,cs.length = cO P e) (el:(∃ x m,wJ = some (x,m) ∧ 0 ≤ m ∧ l = m.toNat) ∨ (wJ = none ∧ some l = some 0)) (eh:(∃ x m,wI = some (x,m) ∧ 0 ≤ m ∧ h = m.toNat) ∨ (wI = none ∧ some h = some els.length)) (h1:l ≤ h) (h2:h ≤ els.length) :
  LT P o ((x,Cc (.pv (.xs q els))) :: (Lp wJ ++ Lp wI)) [] (Cc (.pv (.xs q ((els.take h).drop l)))) [] [] []:=.calm fun R B g w a hw hi3 _ => by
 obtain ⟨it,hit⟩:=Option.isSome_iff_exists.1 hi2
 have hv:=in1 hi3
 have e1:lo.map a.eval = wJ.map fun q => Value.int .i64 q.2:=ZR hlo fun p hp => hi3 p (List.mem_cons_of_mem _ (List.mem_append_left _ hp))
 have e2:hi.map a.eval = wI.map fun q => Value.int .i64 q.2:=ZR hhi fun p hp => hi3 p (List.mem_cons_of_mem _ (List.mem_append_right _ hp))
 have el':=ZQ el
 have eh':=ZQ eh
 rw [← e1] at el'
 rw [← e2] at eh'
 have el2:lo.map a.eval = some (.int .i64 (l:Int)) ∨ (lo.map a.eval = none ∧ l = 0):=el'.imp id (fun h => ⟨h.1,by injection h.2⟩)
 have eh2:hi.map a.eval = some (.int .i64 (h:Int)) ∨ (hi.map a.eval = none ∧ h = els.length):=eh'.imp id (fun h => ⟨h.1,by injection h.2⟩)
 obtain ⟨_,hv⟩:=hv
 generalize hav:a.eval x = v at hv
 have fin:∀ (A:Option Addr) (c:Nat),v = .slice A els.length c → els.length ≤ c → ((els.take h).drop l = [] ∨ ∃ ad,A = some ad ∧ Dx R B q ad.block ∧ ∃ (s:Nat) (val:Nat → Nat → Value),(∀ cs ∈ els,cs.length = s) ∧ (∀ j k cs p,els[j]? = some cs → cs[k]? = some p → w.cell? (ad.add (j * s + k)) = some (val j k)) ∧ ∀ j k cs p,els[j]? = some cs → cs[k]? = some p → jW w R B p (val j k)) →
   ∃ u,(execOp a.eval o).run P w = .ok (.value u) w ∧ RA P w R B g (Cc (.pv (.xs q ((els.take h).drop l)))) u:=fun A c hA hc hx => by
  have hr:=aDP (P:=P) ht hit (A:=A) el2 eh2 h1 h2 hc w
  refine ⟨.slice (if c = l then A else A.map (·.add (l * cO P e))) (h - l) (c - l),?_,?_⟩
  ·simp only [execOp,ho,hav,hA,Sem.run_bind,Option.map_none,hr,Result.andThen_ok,Sem.run_pure]
  ·refine ⟨rfl,?_⟩
   by_cases hnil:(els.take h).drop l = []
   ·rw [hnil]
    have hz:h - l = 0:=by
     have:=congrArg List.length hnil
     simp at this
     omega
    rw [hz]
    exact .emp
   ·rcases hx with hx | ⟨ad,rfl,hb,s,val,hs,hcell,Wi⟩
    ·exact absurd hx hnil
    ·have hlt:l < h:=by
      rcases Nat.lt_or_ge l h with h | h'
      ·exact h
      ·exact absurd (List.drop_eq_nil_of_le (by simp; omega)) hnil
     have hne:¬ c = l:=by omega
     rw [if_neg hne]
     have hget:∀ j,((els.take h).drop l)[j]? = if l + j < h then els[l + j]? else none:=fun j => by
      rw [List.getElem?_drop,List.getElem?_take]
     have hss:s = cO P e:=by
      have h0:0 < els.length:=by omega
      have hm:=List.getElem_mem h0
      rw [← hs _ hm,hl _ hm]
     refine .xs (s:=s) (fun j k => val (l + j) k) (by simp; omega) (by rw [add_block]; exact hb) (by simp; omega) (fun cs hcs => hs cs (List.mem_of_mem_take (List.mem_of_mem_drop hcs))) (fun j k cs p hj hk => ?_) (fun j k cs p hj hk => ?_)
     ·rw [hget] at hj
      split at hj
      ·have:=hcell _ _ _ _ hj hk
       rw [add_add,← hss]
       rwa [show l * s + (j * s + k) = (l + j) * s + k by rw [Nat.add_mul]; omega]
      ·cases hj
     ·rw [hget] at hj
      split at hj
      ·exact Wi _ _ _ _ hj hk
      ·cases hj
 cases hv with
 | @emp _ A c =>
  have h0:h = 0:=by simp at h2; exact h2
  have hl0:l = 0:=by omega
  subst h0
  subst hl0
  -- the capacity may be anything
  have hr:=aDP (P:=P) ht hit (A:=A) (len:=0) (cap:=c) el2 (eh2.imp id fun h => ⟨h.1,by simpa using h.2⟩) h1 (Nat.le_refl _) (Nat.zero_le _) w
  refine ⟨_,by simp only [execOp,ho,hav,Sem.run_bind,Option.map_none,hr,Result.andThen_ok,Sem.run_pure]; rfl,rfl,jW.emp⟩
 | @xs _ _ ad c s n val hn hb hc hs hcell Wi =>
  subst hn
  exact fin (some ad) c rfl hc (.inr ⟨ad,rfl,hb,s,val,hs,hcell,Wi⟩)
variable {α:Type} {enc:α → List PV}
theorem LT.Yd {x:Operand} {t e:TypeId} {lo hi:Option Operand} {wJ wI:Option (Operand × Int)} {q:Bool} {xs:List α} {l h:Nat} (ho:o.op = .slice t x lo hi none) (hlo:lo = wJ.map (·.1)) (hhi:hi = wI.map (·.1)) (ht:P.underlying t = some (.slice e)) (hi2:(P.info? e).isSome = true)
  (hs:∀ a,(enc a).length = cO P e) (el:(∃ x m,wJ = some (x,m) ∧ 0 ≤ m ∧ l = m.toNat) ∨ (wJ = none ∧ some l = some 0)) (eh:(∃ x m,wI = some (x,m) ∧ 0 ≤ m ∧ h = m.toNat) ∨ (wI = none ∧ some h = some xs.length)) (h1:l ≤ h) (h2:h ≤ xs.length) :
  LT P o ((x,Cc (.pv (.xs q (xs.map enc)))) :: (Lp wJ ++ Lp wI)) [] (Cc (.pv (.xs q (((xs.take h).drop l).map enc)))) [] [] []:=by
 have:=LT.aK8 (P:=P) (o:=o) (q:=q) (els:=xs.map enc) ho hlo hhi ht hi2 (fun cs hcs => by obtain ⟨a,_,rfl⟩:=List.mem_map.1 hcs; exact hs a) el (eh.imp id fun h => ⟨h.1,by simpa using h.2⟩) h1 (by simpa using h2)
 simpa [List.map_take,List.map_drop] using this
theorem bD.mV {e:TypeId} {cs:List CV} (h:EQ cs):bD (.row e [cs]):=fun c hc x hx => by
 have:c = cs:=by simpa using hc
 subst this
 exact h.spec x hx
theorem VQ {k:Int}:∀ {es:List MapEntry} {m:List (Int × Int)} {i:Nat},es.map (fun e => (e.key,e.val)) = m.map (fun e => (Value.int .i64 e.1,Value.int .i64 e.2)) → nM m k = false → Instr.findNow (.int .i64) (.int .i64 k) es i = some none
 | [],[],_,_,_ => rfl
 | [],_ :: _,_,h,_ => by cases h
 | _ :: _,[],_,h,_ => by cases h
 | e :: es,x :: m,i,h,hh => by
  simp only [List.map_cons,List.cons.injEq,Prod.mk.injEq] at h
  obtain ⟨⟨h1,h2⟩,h3⟩:=h
  unfold nM at hh
  cases hx:k == x.1 with
  | true => rw [hx] at hh; cases hh
  | false =>
   rw [hx,cond_false] at hh
   simp [Instr.findNow,Instr.sameNow,h1,hx,VQ h3 hh]
theorem VR {k:Int}:∀ {es:List MapEntry} {m:List (Int × Int)} {i:Nat},es.map (fun e => (e.key,e.val)) = m.map (fun e => (Value.int .i64 e.1,Value.int .i64 e.2)) → nM m k = true →
  ∃ j,Instr.findNow (.int .i64) (.int .i64 k) es i = some (some (i + j,.int .i64 (mD m k))) ∧ (∃ e,es[j]? = some e ∧ e.key = .int .i64 k) ∧ ∀ v,lI m k v = m.set j (k,v)
 | [],[],_,_,h => by cases h
 | [],_ :: _,_,h,_ => by cases h
 | _ :: _,[],_,h,_ => by cases h
 | e :: es,x :: m,i,h,hh => by
  simp only [List.map_cons,List.cons.injEq,Prod.mk.injEq] at h
  obtain ⟨⟨h1,h2⟩,h3⟩:=h
  unfold nM at hh
  cases hx:k == x.1 with
  | true =>
   refine ⟨0,?_,⟨e,rfl,by rw [h1,eq_of_beq hx]⟩,fun v => ?_⟩
   ·simp [Instr.findNow,Instr.sameNow,h1,hx,h2,mD]
   ·simp [lI,hx]
  | false =>
   rw [hx,cond_false] at hh
   obtain ⟨j,k1,⟨e2,k2,k3⟩,k4⟩:=VR (i:=i + 1) h3 hh
   refine ⟨j + 1,?_,⟨e2,by simpa using k2,k3⟩,fun v => ?_⟩
   ·simp [Instr.findNow,Instr.sameNow,h1,hx,k1,mD]
    omega
   ·simp [lI,hx,k4]
theorem aCD {k:Int}:∀ {m:List (Int × Int)},nM m k = false → ∀ v,lI m k v = m ++ [(k,v)]
 | [],_,_ => rfl
 | x :: m,h,v => by
  unfold nM at h
  cases hx:k == x.1 with
  | true => rw [hx] at h; cases h
  | false =>
   rw [hx,cond_false] at h
   simp [lI,hx,aCD h]
def Fq (P:Program) (t:TypeId):Option (TypeId × TypeId):=match P.underlying t with
 | some (.map k e) => match P.underlying k,(P.info? e).bind (·.zero) with
  | some (.int .i64),some (.int .i64 0) => some (k,e)
  | _,_ => none
 | _ => none
theorem aB8 {t k e:TypeId} (h:Fq P t = some (k,e)):P.underlying t = some (.map k e) ∧ P.underlying k = some (.int .i64) ∧ ∃ i,P.info? e = some i ∧ i.zero = some (.int .i64 0):=by
 unfold Fq at h
 split at h
 ·rename_i k' e' hu
  split at h
  ·rename_i hk hz
   injection h with h
   injection h with h1 h2
   subst h1
   subst h2
   cases hi:P.info? e' with
   | none => rw [hi] at hz; cases hz
   | some i =>
    rw [hi] at hz
    exact ⟨hu,hk,i,rfl,hz⟩
  ·cases h
 ·cases h
theorem Tn {b:Bool} {k:TypeId} (hk:P.underlying k = some (.int .i64)) (n:Int) (w:World):(Instr.checkKey b 10000 k (.int .i64 n)).run P w = .ok () w:=by
 unfold Instr.checkKey
 simp only [Sem.run_bind,run_underlying hk,Result.andThen_ok]
 rfl
theorem Tq {k:TypeId} (hk:P.underlying k = some (.int .i64)) {n:Int} {es:List MapEntry} {r:Option (Nat × Value)} (h:Instr.findNow (.int .i64) (.int .i64 n) es 0 = some r) (w:World):(Instr.findKey k (.int .i64 n) es).run P w = .ok r w:=by
 simp [Instr.findKey,run_underlying hk,h,Result.andThen]
theorem LT.makeMap {t:TypeId} {n:Nat} (ho:o.op = .makeMap t none):LT P o [] [] (Cc (.mref n)) [(n,.mp [])] [] [n]:=by
 intro R B g w a hw hi hu K Q hK
 have hr:=Go.RowKit.run_makeMap (P:=P) t w
 have had:=iR.alloc hw n (.map #[] 0)
 have hrun:(execOp a.eval o).run P w = .ok (.value (.map (some w.heap.size))) (w.alloc (.map #[] 0)):=by
  simp [execOp,ho,hr]
 unfold Oper.wp
 rw [hrun]
 refine hK _ _ _ _ _ had (fun b hb => .inl hb) (fun _ => ⟨rfl,w.heap.size,upd_same ..,rfl⟩) (fun p hp => ?_)
 have:p = (n,.mp []):=by simpa using hp
 subst this
 exact ⟨w.heap.size,#[],0,upd_same ..,(Go.MapKept.heap_alloc w _).1,rfl⟩
theorem aCA {t k e:TypeId} (ht:Fq P t = some (k,e)) {n:Nat} {m:List (Int × Int)} (h:RO P w R B g n (.mp m)) {v:Value} (hv:RC P w R B g (.mref n) v) (x:Int) (ok:Bool) :
  (Instr.lookup t v (.int .i64 x) ok).run P w = .ok (if ok then .tuple #[.int .i64 (mD m x),.bool (nM m x)] else .int .i64 (mD m x)) w:=by
 obtain ⟨h1,h2,i,h3,h4⟩:=aB8 ht
 obtain ⟨b,qW,clock,k1,k2,k3⟩:=h
 obtain ⟨_,b',k4,rfl⟩:=hv
 rw [k1] at k4
 injection k4 with k4
 subst k4
 cases hh:nM m x with
 | false =>
  have hf:=Tq (P:=P) h2 (VQ k3 hh) w
  have hg:mD m x = 0:=by
   clear hf k3
   induction m with
   | nil => rfl
   | cons y r ih =>
    unfold nM at hh
    unfold mD
    cases hy:x == y.1 with
    | true => rw [hy] at hh; cases hh
    | false =>
     rw [hy,cond_false] at hh
     exact ih hh
  simp [Instr.lookup,run_underlying h1,Go.MapKept.run_getObj_map k2,Tn h2,hf,Result.andThen,zeroValue,typeInfo,h3,h4,hg]
 | true =>
  obtain ⟨j,hj,_,_⟩:=VR (i:=0) k3 hh
  have hf:=Tq (P:=P) h2 hj w
  simp [Instr.lookup,run_underlying h1,Go.MapKept.run_getObj_map k2,Tn h2,hf,Result.andThen]
theorem LT.aJt {t k e:TypeId} {x y:Operand} {n:Nat} {m:List (Int × Int)} {i:Int} (ho:o.op = .lookup t x y false) (ht:Fq P t = some (k,e)):LT P o [(x,Cc (.mref n)),(y,Iv i)] [(n,.mp m)] (Iv (mD m i)) [] [] []:=.calm fun R B g w a hw hi hu => by
 have hl:=aCA (P:=P) ht (uq hu) (in1 hi) i false
 rw [if_neg (by simp)] at hl
 refine ⟨_,?_,vW rfl⟩
 simp [execOp,ho,oW (in2 hi),hl]
theorem LT.aJu {t k e:TypeId} {x y:Operand} {n:Nat} {m:List (Int × Int)} {i:Int} (ho:o.op = .lookup t x y true) (ht:Fq P t = some (k,e)):LT P o [(x,Cc (.mref n)),(y,Iv i)] [(n,.mp m)] (.dM [.c (iC (mD m i)),.c (bC (nM m i))]) [] [] []:=.calm fun R B g w a hw hi hu => by
 have hl:=aCA (P:=P) ht (uq hu) (in1 hi) i true
 rw [if_pos rfl] at hl
 refine ⟨.tuple #[.int .i64 (mD m i),.bool (nM m i)],by simp [execOp,ho,oW (in2 hi),hl],[.int .i64 (mD m i),.bool (nM m i)],rfl,rfl,fun k x hk => ?_⟩
 match k,hk with
 | 0,hk => simp at hk; subst hk; exact ⟨_,rfl,rfl,.sc rfl⟩
 | 1,hk => simp at hk; subst hk; exact ⟨_,rfl,rfl,.sc rfl⟩
 | k + 2,hk => simp at hk
theorem iR.aKv (h:WF R B g w) {n b:Nat} {es:Array MapEntry} {clock:Nat} (hn:g n = .blk b) (hh:w.heap[b]? = some (.map es clock)) (o':Obj):iR R B g w [n] [] R B g (setBlock w b o') where
 wf:=h.mono (by simp [setBlock])
 r _ h:=h
 b _ h:=h
 os:=rfl
 tape:=rfl
 output:=rfl
 size:=by simp [setBlock]
 heap c _ hc:=heap_setBlock_other hh o' (fun e => hc n List.mem_cons_self (by rw [hn,e]; rfl))
 names _ _:=rfl
 fresh _ hk:=by cases hk
 shape k hk _ c cu e' hg hc:=by
  have:k = n:=by simpa using hk
  subst this
  rw [hn] at hg
  have hg:b = c:=Eq.symm hg
  subst hg
  rw [hh] at hc
  cases hc
theorem LT.aB9 {t k e:TypeId} {x y z:Operand} {n:Nat} {m:List (Int × Int)} {i j:Int} {v:AV} (ho:o.op = .mapUpdate t x y z ∨ o.op = .insert t x y z) (hd:o.dst = none) (ht:Fq P t = some (k,e)):LT P o [(x,Cc (.mref n)),(y,Iv i),(z,Iv j)] [(n,.mp m)] v [(n,.mp (lI m i j))] [n] []:=by
 intro R B g w a hw hin hu K Q hK
 obtain ⟨h1,h2,_,_,_⟩:=aB8 ht
 obtain ⟨b,qW,clock,k1,k2,k3⟩:=uq hu
 obtain ⟨_,b',k4,k5⟩:=in1 hin
 rw [k1] at k4
 injection k4 with k4
 subst k4
 have e2:=oW (in2 hin)
 have e3:=oW (in3 hin)
 have key:∃ es' clock',(Instr.mapUpdate t (.map (some b)) (.int .i64 i) (.int .i64 j)).run P w = .ok () (setBlock w b (.map es' clock')) ∧ es'.toList.map (fun e => (e.key,e.val)) = (lI m i j).map fun e => (Value.int .i64 e.1,Value.int .i64 e.2):=by
  cases hh:nM m i with
  | false =>
   have hf:=Tq (P:=P) h2 (VQ k3 hh) w
   refine ⟨qW.push { key:=.int .i64 i,val:=.int .i64 j,born:=clock },clock + 1,?_,?_⟩
   ·simp [Instr.mapUpdate,run_underlying h1,Go.MapKept.run_getObj_map k2,Tn h2,hf,Go.MapKept.run_setObj_map _ k2,Result.andThen]
    rfl
   ·rw [aCD hh]
    simp [k3]
  | true =>
   obtain ⟨q,hq,⟨en,hen,hkey⟩,hput⟩:=VR (i:=0) k3 hh
   rw [Nat.zero_add] at hq
   have hf:=Tq (P:=P) h2 hq w
   have hen':qW[q]? = some en:=by simpa using hen
   refine ⟨qW.modify q fun e => { e with key:=.int .i64 i,val:=.int .i64 j },clock,?_,?_⟩
   ·simp [Instr.mapUpdate,run_underlying h1,Go.MapKept.run_getObj_map k2,Tn h2,hf,hen',hkey,Instr.keyThatStays,Instr.sameBits,Go.MapKept.run_setObj_map _ k2,Result.andThen]
    rfl
   ·rw [hput]
    apply List.ext_getElem?
    intro r
    have hk3:=congrArg (fun l => l[r]?) k3
    simp only [List.getElem?_map,Array.getElem?_toList] at hk3
    simp only [List.getElem?_map,List.getElem?_set,Array.getElem?_toList,Array.getElem?_modify]
    by_cases hr:q = r
    ·subst hr
     rw [hen'] at hk3
     cases hm:m[q]? with
     | none => rw [hm] at hk3; cases hk3
     | some y =>
      have:=(List.getElem?_eq_some_iff.1 hm).1
      simp [hen',this]
    ·simp [hr,hk3]
 obtain ⟨es',clock',hrun,hes⟩:=key
 have hex:(execOp a.eval o).run P w = .ok .skip (setBlock w b (.map es' clock')):=by
  rcases ho with ho | ho <;> simp [execOp,ho,k5,e2,e3,hrun]
 have had:=iR.aKv hw k1 k2 (.map es' clock')
 unfold Oper.wp
 rw [hex]
 have hq:=hK undef R B g (setBlock w b (.map es' clock')) had (fun b hb => .inl hb) (fun h => by rw [hd] at h; cases h) (fun p hp => by
  have:p = (n,.mp (lI m i j)):=by simpa using hp
  subst this
  exact ⟨b,es',clock',k1,heap_setBlock_same k2 _,hes⟩)
 exact hq
end
end Go.Fw
end
section
namespace Go.Fw
section
section
variable {P:Program} {C:Ctx} {σ:Slots} {m:Mem}
theorem RC.junk {w:World} {R B:Nat → Prop} {g:Nat → GS} {x:CV} {v:Value} (h:RC P w R B g x v):RC P w R B g .junk v:=⟨h.1,trivial⟩
theorem aKi {w:World} {R B:Nat → Prop} {g:Nat → GS} {cs:List CV} {k:Nat} {T:Nat → Value → Prop} (h:∀ (j:Nat) x,cs[j]? = some x → ∃ u,T j u ∧ RC P w R B g x u):∀ (j:Nat) x,(cs.set k .junk)[j]? = some x → ∃ u,T j u ∧ RC P w R B g x u:=fun j x hj => by
 rw [List.getElem?_set] at hj
 by_cases hk:k = j
 ·rw [if_pos hk] at hj
  split at hj
  ·injection hj with hj
   subst hj
   rename_i hl
   obtain ⟨u,h1,h2⟩:=h j cs[j] (List.getElem?_eq_getElem (by omega))
   exact ⟨u,h1,h2.junk⟩
  ·cases hj
 ·rw [if_neg hk] at hj
  exact h j x hj
theorem St.slot {R B:Nat → Prop} {g:Nat → GS} {a:Act} {w:World} (hs:St P C σ m R B g a w) {t:Nat} {v:AV} (h:RA P w R B g v (a.tmps.getD t undef)):St P C ((t,v) :: σ) m R B g a w:=by
 refine { hs with sl:=?_ }
 intro t' v' hl
 change (bif Nat.beq t t' then some v else lk σ t') = some v' at hl
 cases hb:Nat.beq t t' with
 | true =>
  rw [hb,cond_true] at hl
  injection hl with hl
  subst hl
  rw [← Nat.eq_of_beq_eq_true hb]
  exact h
 | false =>
  rw [hb,cond_false] at hl
  exact hs.sl t' v' hl
theorem St.obj {R B:Nat → Prop} {g:Nat → GS} {a:Act} {w:World} (hs:St P C σ m R B g a w) {n:Nat} {o0 o:Ob} (h0:lk m n = some o0) (h:RO P w R B g n o):St P C σ ((n,o) :: m) R B g a w:=by
 refine { hs with ob:=?_,ow:=?_ }
 ·intro n' o' hl
  change (bif Nat.beq n n' then some o else lk m n') = some o' at hl
  cases hb:Nat.beq n n' with
  | true =>
   rw [hb,cond_true] at hl
   injection hl with hl
   subst hl
   rw [← Nat.eq_of_beq_eq_true hb]
   exact h
  | false =>
   rw [hb,cond_false] at hl
   exact hs.ob n' o' hl
 ·intro n' o' b hl hg
  change (bif Nat.beq n n' then some o else lk m n') = some o' at hl
  cases hb:Nat.beq n n' with
  | true =>
   have:=Nat.eq_of_beq_eq_true hb
   subst this
   exact hs.ow n o0 b h0 hg
  | false =>
   rw [hb,cond_false] at hl
   exact hs.ow n' o' b hl hg
theorem aQ.XT (n k:Nat) {e:TypeId} {cs:List CV} (h:lk m n = some (.row e [cs])):aQ P C σ m σ ((n,.row e [cs.set k .junk]) :: m):=fun R B g a w hs => by
 refine ⟨R,B,g,hs.obj h ?_⟩
 rcases hs.ob n _ h with ⟨h1,h2⟩ | ⟨b,cur,h1,h2,h3,h4,h5⟩
 ·cases h2
 ·refine .inr ⟨b,cur,h1,h2,fun c hc => ?_,by simpa using h4,fun j i c x hj hx => ?_⟩
  ·have:c = cs.set k .junk:=by simpa using hc
   subst this
   simpa using h3 cs List.mem_cons_self
  ·cases j with
   | succ j => simp at hj
   | zero =>
    simp at hj
    subst hj
    exact aKi (T:=fun i u => cur[0 * cO P e + i]? = some u) (fun i x hx => h5 0 i cs x rfl hx) i x hx
theorem aQ.Xl (n:Nat) (e:TypeId) (hn:C.pn.elem n = false):aQ P C σ m (kM [n] σ) ((n,.dF e []) :: jK [n] m):=fun R B g a w hs =>
 ⟨R,B,upd g n .nil,hs.aCH n (by
  intro h
  rw [List.elem_eq_true_of_mem h] at hn
  cases hn) e⟩
def Ac:List PV → List PV → Prop
 | [],[] => True
 | p :: r,p' :: r' => QW p p' ∧ Ac r r'
 | _,_ => False
theorem Ac.get:∀ {l l':List PV},Ac l l' → l'.length = l.length ∧ ∀ (k:Nat) p p',l[k]? = some p → l'[k]? = some p' → QW p p'
 | [],[],_ => ⟨rfl,fun k p p' h => by simp at h⟩
 | p :: r,p' :: r',h => by
  obtain ⟨h1,h2⟩:=Ac.get h.2
  refine ⟨by simp [h1],fun k x x' hx hx' => ?_⟩
  cases k with
  | zero =>
   simp at hx hx'
   subst hx
   subst hx'
   exact h.1
  | succ k => exact h2 k x x' (by simpa using hx) (by simpa using hx')
 | [],_ :: _,h => h.elim
 | _ :: _,[],h => h.elim
theorem QW.uw {α:Type} {enc enc':α → List PV} (h:∀ a,Ac (enc a) (enc' a)) {q q':Bool} (hq:q' = true → q = true) (xs:List α):QW (.xs q (xs.map enc)) (.xs q' (xs.map enc')):=by
 refine .xs hq (by simp) (fun j cs cs' h1 h2 => ?_) (fun j k cs cs' p p' h1 h2 h3 h4 => ?_)
 ·rw [List.getElem?_map] at h1 h2
  cases hx:xs[j]? with
  | none => rw [hx] at h1; cases h1
  | some a =>
   rw [hx] at h1 h2
   injection h1 with h1
   injection h2 with h2
   subst h1
   subst h2
   exact (h a).get.1
 ·rw [List.getElem?_map] at h1 h2
  cases hx:xs[j]? with
  | none => rw [hx] at h1; cases h1
  | some a =>
   rw [hx] at h1 h2
   injection h1 with h1
   injection h2 with h2
   subst h1
   subst h2
   exact (h a).get.2 k p p' h3 h4
theorem aKL {α:Type} {enc:α → List PV} (h:∀ a,wC (enc a)) (xs:List α):ah (.xs true (xs.map enc)):=.xs fun cs hcs p hp => by
 obtain ⟨a,_,rfl⟩:=List.mem_map.1 hcs
 exact (h a).spec p hp
theorem St.freeze {R B:Nat → Prop} {g:Nat → GS} {a:Act} {w:World} (hs:St P C σ m R B g a w) {n:Nat} {e:TypeId} {els:List (List PV)} (ho:lk m n = some (.dF e els)) (hn:n ∉ C.pn) (hU:∀ b,C.U0 b → ∃ k ∈ C.pn,(C.g0 k).has b) :
  ∃ R' B' g',iR R B g w [] [n] R' B' g' w ∧ St P C (kM [n] σ) (jK [n] m) R' B' g' a w ∧ ∀ v,RC P w R B g (.loc n 0 els.length) v → jW w R' B' (.xs true els) v:=by
 have hro:gX P w R B g n e (iT els):=hs.ob n _ ho
 have hw:=hs.wf
 let R':Nat → Prop:=fun b => R b ∨ (g n).has b
 let B':Nat → Prop:=fun b => B b ∨ (g n).has b
 have hne:∀ k,k ≠ n → upd g n .dead k = g k:=fun k hk => upd_ne g _ hk
 have hwf:WF R' B' (upd g n .dead) w:=by
  have h0:=hw.upd n .dead (w':=w) (Nat.le_refl _) (fun b hb => hb.elim) (fun i j b hi => by cases hi)
  refine ⟨fun b hb => hb.imp (hw.rb b) id,fun b hb => hb.elim (hw.lt b) fun h => (hw.ja n b h).2,fun k b hk => ⟨fun hB => ?_,(h0.ja k b hk).2⟩,h0.kW,h0.nd⟩
  rcases hB with hB | hB
  ·exact (h0.ja k b hk).1 hB
  ·by_cases hkn:k = n
   ·subst hkn; rw [upd_same] at hk; exact hk.elim
   ·rw [hne k hkn] at hk
    exact hkn (hw.kW k n b hk hB)
 have had:iR R B g w [] [n] R' B' (upd g n .dead) w:=by
  refine ⟨hwf,fun _ h => .inl h,fun _ h => .inl h,rfl,rfl,rfl,Nat.le_refl _,fun _ _ _ => rfl,fun k hk => hne k (by simpa using hk),fun k hk b hb => ?_,fun k hk => by cases hk⟩
  have:k = n:=by simpa using hk
  subst this
  rw [upd_same] at hb
  exact hb.elim
 refine ⟨R',B',upd g n .dead,had,?_,fun v hv => ?_⟩
 ·refine { hs with wf:=hwf,sl:=?_,ob:=?_,ow:=?_,perm:=?_,r0:=?_,pin:=?_ }
  ·intro t v hl
   rw [IQ] at hl
   cases hv:lk σ t with
   | none => rw [hv] at hl; cases hl
   | some u =>
    rw [hv] at hl
    injection hl with hl
    subst hl
    exact had.ra hw (hs.sl t u hv)
  ·intro k o hl
   obtain ⟨hk,o0,h0,rfl⟩:=IL [n] m k o hl
   exact had.ro hw hk (by simp) (hs.ob k o0 h0)
  ·intro k o b hl hg
   obtain ⟨hk,o0,h0,_⟩:=IL [n] m k o hl
   rw [hne k (by simpa using hk)] at hg
   exact hs.ow k o0 b h0 hg
  ·intro b hb
   rcases hb with hb | hb
   ·exact hs.perm b hb
   ·rcases hs.ow n _ b ho hb with h | h
    ·exact .inr h
    ·obtain ⟨k,hk,hg⟩:=hU b h
     have:=hw.kW k n b (by rw [hs.pin k hk]; exact hg) hb
     subst this
     exact absurd hk hn
  ·intro b hb
   exact .inl (hs.r0 b hb)
  ·intro k hk
   rw [hne k (fun h => hn (h ▸ hk))]
   exact hs.pin k hk
 ·obtain ⟨_,hv⟩:=hv
  rcases hv with ⟨h1,_,h3,h4⟩ | ⟨_,h2,_⟩ | ⟨b,cap,cur,e',k1,k2,k3,k4,k5,k6⟩
  ·have:els = []:=List.eq_nil_of_length_eq_zero h3
   subst this
   subst h4
   exact .emp
  ·exact absurd rfl h2
  ·rcases hro with ⟨h1,_⟩ | ⟨b',cur',h1,h2,h3,h4,h5⟩
   ·rw [k1] at h1; cases h1
   ·rw [k1] at h1
    injection h1 with h1
    subst h1
    rw [k2] at h2
    injection h2 with h2
    injection h2 with h2 h6 h7
    subst h2
    subst h6
    subst k6
    have hval:∀ j k cs p,els[j]? = some cs → cs[k]? = some p → ∃ u,cur[j * cO P e' + k]? = some u ∧ RC P w R B g (.pv p) u:=fun j k cs p hj hk => by
     have:=h5 j k (cs.map .pv) (.pv p) (by simp [iT,hj]) (by simp [hk])
     exact this
    refine .xs (s:=cO P e') (fun j k => cur.getD (j * cO P e' + k) undef) rfl (.inr (GS.wL k1)) k3 (fun cs hcs => ?_) (fun j k cs p hj hk => ?_) (fun j k cs p hj hk => ?_)
    ·have:=h3 (cs.map .pv) (List.mem_map.2 ⟨cs,hcs,rfl⟩)
     simpa using this
    ·obtain ⟨u,hu,_⟩:=hval j k cs p hj hk
     rw [Nat.zero_mul,add_lit,Nat.zero_add,GU k2,hu]
     simp [Array.getD_eq_getD_getElem?,hu]
    ·obtain ⟨u,hu,hr⟩:=hval j k cs p hj hk
     have:cur.getD (j * cO P e' + k) undef = u:=by simp [Array.getD_eq_getD_getElem?,hu]
     rw [this]
     exact (had.rc hw (x:=.pv p) hr).2
section
variable {α:Type} {enc:α → List PV}
theorem aQ.Qs (t n:Nat) {e:TypeId} {xs:List α} {len:Nat} (hU:∀ b,C.U0 b → ∃ k ∈ C.pn,(C.g0 k).has b) (hn:C.pn.elem n = false) (hl:len = xs.length) (h:lk σ t = some (Cc (.loc n 0 len))) (ho:lk m n = some (.dF e (xs.map enc))) :
  aQ P C σ m ((t,Cc (.pv (.xs true (xs.map enc)))) :: kM [n] σ) (jK [n] m):=fun R B g a w hs => by
 subst hl
 obtain ⟨R',B',g',had,hs',hv⟩:=hs.freeze ho (fun h => by rw [List.elem_eq_true_of_mem h] at hn; cases hn) hU
 have hr:RC P w R B g (.loc n 0 xs.length) (a.tmps.getD t undef):=hs.sl t _ h
 exact ⟨R',B',g',hs'.slot (v:=Cc (.pv (.xs true (xs.map enc)))) ⟨hr.1,hv _ (by rw [List.length_map]; exact hr)⟩⟩
end
end
end
section
def zJ (p k m:Nat):CV → CV
 | .loc n o l => bif Nat.beq n m then .tl p k o l else .loc n o l
 | .pl n o => bif Nat.beq n m then .tpl p k o else .pl n o
 | x => x
def G5 (p k m:Nat):SV → SV
 | .c x => .c (zJ p k m x)
 | .agg cs => .agg (cs.map (zJ p k m))
def Ak (p k m:Nat):AV → AV
 | .s x => .s (G5 p k m x)
 | .dM xs => .dM (xs.map (G5 p k m))
def Aq (p m:Nat):CV → Bool
 | .loc n _ _ => Nat.beq n m || ![m,p].elem n
 | .pl n _ => Nat.beq n m || ![m,p].elem n
 | x => jX [m,p] x
def MN (p m:Nat):SV → Bool
 | .c x => Aq p m x
 | .agg cs => cs.all (Aq p m)
def Ec (p m:Nat):AV → Bool
 | .s x => MN p m x
 | .dM xs => xs.all (MN p m)
section
variable {P:Program} {w:World} {R B:Nat → Prop} {g g':Nat → GS} {X:List Nat} {p k m:Nat}
theorem RC.av {x:CV} {v:Value} (hz:jX X x = true) (hg:∀ n,n ∉ X → g' n = g n) (h:RC P w R B g x v):RC P w R B g' x v:=by
 refine ⟨h.1,?_⟩
 have h2:=h.2
 cases x with
 | pv p => exact h2
 | px q cells => exact h2
 | loc n off len =>
  have hn:=hg n (mM (by simpa [jX] using hz))
  rcases h2 with ⟨h3,h4⟩ | h3 | ⟨b,cap,cur,e,h3,h4⟩
  ·exact .inl ⟨hn.trans h3,h4⟩
  ·exact .inr (.inl h3)
  ·exact .inr (.inr ⟨b,cap,cur,e,hn.trans h3,h4⟩)
 | pl n off =>
  obtain ⟨b,h3,h4⟩:=h2
  exact ⟨b,(hg n (mM (by simpa [jX] using hz))).trans h3,h4⟩
 | fn f caps =>
  obtain ⟨vs,h3,h4,h5⟩:=h2
  exact ⟨vs,h3,h4,fun k n hk => by
   obtain ⟨b,h6,h7⟩:=h5 k n hk
   have hc:caps.any X.elem = false:=by simpa [jX] using hz
   have hn:X.elem n = false:=by
    have:=List.any_eq_false.1 hc n (List.mem_of_getElem? hk)
    simpa using this
   exact ⟨b,(hg n (mM hn)).trans h6,h7⟩⟩
 | mref n =>
  obtain ⟨b,h3,h4⟩:=h2
  exact ⟨b,(hg n (mM (by simpa [jX] using hz))).trans h3,h4⟩
 | tl q j off len =>
  have hn:=hg q (mM (by simpa [jX] using hz))
  rcases h2 with ⟨h3,h4⟩ | h3 | ⟨b,cap,cur,e,h3,h4⟩
  ·exact .inl ⟨by rw [hn]; exact h3,h4⟩
  ·exact .inr (.inl h3)
  ·exact .inr (.inr ⟨b,cap,cur,e,by rw [hn]; exact h3,h4⟩)
 | tpl q j off =>
  obtain ⟨b,h3,h4⟩:=h2
  exact ⟨b,by rw [hg q (mM (by simpa [jX] using hz))]; exact h3,h4⟩
 | junk => trivial
theorem gX.av {n:Nat} {e:TypeId} {els:List (List CV)} (hn:n ∉ X) (hz:els.all (·.all (jX X)) = true) (hg:∀ n,n ∉ X → g' n = g n) (h:gX P w R B g n e els):gX P w R B g' n e els:=by
 rcases h with ⟨h1,h2⟩ | ⟨b,cur,h1,h2,h3,h4,h5⟩
 ·exact .inl ⟨(hg n hn).trans h1,h2⟩
 ·exact .inr ⟨b,cur,(hg n hn).trans h1,h2,h3,h4,fun j k cs x hj hk => by
   obtain ⟨u,h6,h7⟩:=h5 j k cs x hj hk
   exact ⟨u,h6,h7.av (List.all_eq_true.1 (List.all_eq_true.1 hz cs (List.mem_of_getElem? hj)) x (List.mem_of_getElem? hk)) hg⟩⟩
theorem RO.av {n:Nat} {o:Ob} (hn:n ∉ X) (hz:pJ X o = true) (hg:∀ n,n ∉ X → g' n = g n) (h:RO P w R B g n o):RO P w R B g' n o:=by
 cases o with
 | row e els => exact gX.av hn hz hg h
 | dF e els => exact gX.av hn (by simp [iT,List.all_eq_true,jX]) hg h
 | mp es =>
  obtain ⟨b,qW,clock,h1,h2⟩:=h
  exact ⟨b,qW,clock,(hg n hn).trans h1,h2⟩
 | pool e rows =>
  obtain ⟨⟨bs,h1,h2⟩,h3⟩:=h
  exact ⟨⟨bs,(hg n hn).trans h1,h2⟩,by rw [hg n hn]; exact h3⟩
 | bZ e p lens => exact gX.av hn (List.all_eq_true.2 fun cs hcs => by
   obtain ⟨j,l,rfl⟩:=KA hcs
   simpa [jX,pJ] using hz) hg h
 | unk => trivial
theorem RC.fo {x:CV} {v:Value} (hz:Aq p m x = true) (h1:g' m = (g p).at k) (hg:∀ n,n ∉ [m,p] → g' n = g n) (h:RC P w R B g (zJ p k m x) v):RC P w R B g' x v:=by
 cases x with
 | loc n off len =>
  simp only [zJ] at h
  cases hb:Nat.beq n m with
  | true =>
   rw [hb,cond_true] at h
   have:=Nat.eq_of_beq_eq_true hb
   subst this
   refine ⟨h.1,?_⟩
   rcases h.2 with ⟨h3,h4⟩ | h3 | ⟨b,cap,cur,e,h3,h4⟩
   ·exact .inl ⟨h1.trans h3,h4⟩
   ·exact .inr (.inl h3)
   ·exact .inr (.inr ⟨b,cap,cur,e,h1.trans h3,h4⟩)
  | false =>
   rw [hb,cond_false] at h
   simp only [Aq] at hz
   rw [hb,Bool.false_or] at hz
   exact RC.av (X:=[m,p]) hz hg h
 | pl n off =>
  simp only [zJ] at h
  cases hb:Nat.beq n m with
  | true =>
   rw [hb,cond_true] at h
   have:=Nat.eq_of_beq_eq_true hb
   subst this
   obtain ⟨b,h3,h4⟩:=h.2
   exact ⟨h.1,b,h1.trans h3,h4⟩
  | false =>
   rw [hb,cond_false] at h
   simp only [Aq] at hz
   rw [hb,Bool.false_or] at hz
   exact RC.av (X:=[m,p]) hz hg h
 | _ => exact RC.av (X:=[m,p]) hz hg h
theorem RC.bk {x:CV} {v:Value} (hz:Aq p m x = true) (h1:(g' p).at k = g m) (hg:∀ n,n ∉ [m,p] → g' n = g n) (h:RC P w R B g x v):RC P w R B g' (zJ p k m x) v:=by
 cases x with
 | loc n off len =>
  simp only [zJ]
  cases hb:Nat.beq n m with
  | true =>
   rw [cond_true]
   have:=Nat.eq_of_beq_eq_true hb
   subst this
   refine ⟨h.1,?_⟩
   rcases h.2 with ⟨h3,h4⟩ | h3 | ⟨b,cap,cur,e,h3,h4⟩
   ·exact .inl ⟨h1.trans h3,h4⟩
   ·exact .inr (.inl h3)
   ·exact .inr (.inr ⟨b,cap,cur,e,h1.trans h3,h4⟩)
  | false =>
   rw [cond_false]
   simp only [Aq] at hz
   rw [hb,Bool.false_or] at hz
   exact RC.av (X:=[m,p]) hz hg h
 | pl n off =>
  simp only [zJ]
  cases hb:Nat.beq n m with
  | true =>
   rw [cond_true]
   have:=Nat.eq_of_beq_eq_true hb
   subst this
   obtain ⟨b,h3,h4⟩:=h.2
   exact ⟨h.1,b,h1.trans h3,h4⟩
  | false =>
   rw [cond_false]
   simp only [Aq] at hz
   rw [hb,Bool.false_or] at hz
   exact RC.av (X:=[m,p]) hz hg h
 | _ => exact RC.av (X:=[m,p]) hz hg h
theorem RS.fo {x:SV} {v:Value} (hz:MN p m x = true) (h1:g' m = (g p).at k) (hg:∀ n,n ∉ [m,p] → g' n = g n) (h:RS P w R B g (G5 p k m x) v):RS P w R B g' x v:=by
 cases x with
 | c x => exact RC.fo hz h1 hg h
 | agg cs =>
  obtain ⟨vs,h2,h3,h4⟩:=h
  refine ⟨vs,h2,by simpa using h3,fun j x hj => ?_⟩
  obtain ⟨u,h5,h6⟩:=h4 j (zJ p k m x) (by rw [List.getElem?_map,hj]; rfl)
  exact ⟨u,h5,h6.fo (List.all_eq_true.1 hz x (List.mem_of_getElem? hj)) h1 hg⟩
theorem RA.fo {x:AV} {v:Value} (hz:Ec p m x = true) (h1:g' m = (g p).at k) (hg:∀ n,n ∉ [m,p] → g' n = g n) (h:RA P w R B g (Ak p k m x) v):RA P w R B g' x v:=by
 cases x with
 | s x => exact RS.fo hz h1 hg h
 | dM cs =>
  obtain ⟨vs,h2,h3,h4⟩:=h
  refine ⟨vs,h2,by simpa using h3,fun j x hj => ?_⟩
  obtain ⟨u,h5,h6⟩:=h4 j (G5 p k m x) (by rw [List.getElem?_map,hj]; rfl)
  exact ⟨u,h5,RS.fo (List.all_eq_true.1 hz x (List.mem_of_getElem? hj)) h1 hg h6⟩
theorem RS.bk {x:SV} {v:Value} (hz:MN p m x = true) (h1:(g' p).at k = g m) (hg:∀ n,n ∉ [m,p] → g' n = g n) (h:RS P w R B g x v):RS P w R B g' (G5 p k m x) v:=by
 cases x with
 | c x => exact RC.bk hz h1 hg h
 | agg cs =>
  obtain ⟨vs,h2,h3,h4⟩:=h
  refine ⟨vs,h2,by simpa using h3,fun j x hj => ?_⟩
  rw [List.getElem?_map] at hj
  cases hc:cs[j]? with
  | none => rw [hc] at hj; cases hj
  | some y =>
   rw [hc] at hj
   injection hj with hj
   subst hj
   obtain ⟨u,h5,h6⟩:=h4 j y hc
   exact ⟨u,h5,h6.bk (List.all_eq_true.1 hz y (List.mem_of_getElem? hc)) h1 hg⟩
theorem RA.bk {x:AV} {v:Value} (hz:Ec p m x = true) (h1:(g' p).at k = g m) (hg:∀ n,n ∉ [m,p] → g' n = g n) (h:RA P w R B g x v):RA P w R B g' (Ak p k m x) v:=by
 cases x with
 | s x => exact RS.bk hz h1 hg h
 | dM cs =>
  obtain ⟨vs,h2,h3,h4⟩:=h
  refine ⟨vs,h2,by simpa using h3,fun j x hj => ?_⟩
  rw [List.getElem?_map] at hj
  cases hc:cs[j]? with
  | none => rw [hc] at hj; cases hj
  | some y =>
   rw [hc] at hj
   injection hj with hj
   subst hj
   obtain ⟨u,h5,h6⟩:=h4 j y hc
   exact ⟨u,h5,RS.bk (List.all_eq_true.1 hz y (List.mem_of_getElem? hc)) h1 hg h6⟩
theorem rH.of {n:Nat} {e:TypeId} {els:List (List PV)} (h:gX P w R B g n e (iT els)):rH P w R B (g n) e els:=by
 rcases h with ⟨h1,h2⟩ | ⟨b,cur,h1,h2,h3,h4,h5⟩
 ·exact .inl ⟨h1,by simpa [iT] using h2⟩
 ·refine .inr ⟨b,cur,h1,h2,fun cs hcs => ?_,by simpa [iT] using h4,fun j k cs x hj hk => ?_⟩
  ·have:=h3 (cs.map .pv) (List.mem_map.2 ⟨cs,hcs,rfl⟩)
   simpa using this
  ·obtain ⟨u,hu,hr⟩:=h5 j k (cs.map .pv) (.pv x) (by simp [iT,hj]) (by simp [hk])
   exact ⟨u,hu,hr.2⟩
theorem rH.row {n:Nat} {s:GS} {e:TypeId} {els:List (List PV)} (h:rH P w R B s e els) (hn:g n = s):gX P w R B g n e (iT els):=by
 rcases h with ⟨h1,h2⟩ | ⟨b,cur,h1,h2,h3,h4,h5⟩
 ·exact .inl ⟨hn.trans h1,by rw [h2]; rfl⟩
 ·refine .inr ⟨b,cur,hn.trans h1,h2,fun cs hcs => ?_,by simpa [iT] using h4,fun j k cs x hj hk => ?_⟩
  ·obtain ⟨c0,hc0,rfl⟩:=List.mem_map.1 hcs
   simpa using h3 c0 hc0
  ·simp only [iT,List.getElem?_map] at hj
   cases hc:els[j]? with
   | none => rw [hc] at hj; cases hj
   | some c0 =>
    rw [hc] at hj
    injection hj with hj
    subst hj
    rw [List.getElem?_map] at hk
    cases hc2:c0[k]? with
    | none => rw [hc2] at hk; cases hk
    | some y =>
     rw [hc2] at hk
     injection hk with hk
     subst hk
     obtain ⟨u,hu,hr⟩:=h5 j k c0 y hc hc2
     exact ⟨u,hu,hr.oneCell,hr⟩
def GS.hole (s:GS) (k:Nat):GS:=match s with
 | .pool bs => .pool (bs.set k none)
 | s => s
theorem GS.DJ {s:GS} {k j:Nat} (h:j ≠ k):(s.hole k).at j = s.at j:=by
 cases s with
 | pool bs => simp only [GS.hole,GS.at,List.getElem?_set_ne (fun e => h e.symm)]
 | _ => rfl
theorem GS.WI {s:GS} {k b:Nat} (h:(s.hole k).at k = .blk b):False:=by
 cases s with
 | pool bs =>
  simp only [GS.hole,GS.at,List.getElem?_set] at h
  split at h
  ·rename_i o b2 hb
   by_cases hl:k < bs.length <;> simp [hl] at hb
  ·cases h
  ·cases h
 | _ => cases h
theorem GS.SY {s:GS} {bs:List (Option Nat)} (hs:s = .pool bs) {b:Nat} (h:s.has b):∃ j,s.at j = .blk b:=by
 subst hs
 obtain ⟨j,hj⟩:=List.mem_iff_getElem?.1 (show some b ∈ bs from h)
 exact ⟨j,by simp only [GS.at,hj]⟩
theorem GS.aA4 {s:GS} {bs:List (Option Nat)} (hs:s = .pool bs) {k b:Nat} (h:(s.hole k).has b):s.has b ∧ ∃ j,j ≠ k ∧ s.at j = .blk b:=by
 obtain ⟨j,hj⟩:=GS.SY (s:=s.hole k) (bs:=bs.set k none) (by rw [hs]; rfl) h
 have hne:j ≠ k:=fun e => by rw [e] at hj; exact GS.WI hj
 rw [GS.DJ hne] at hj
 exact ⟨GS.qY hj,j,hne,hj⟩
theorem GS.aAw {s:GS} {bs:List (Option Nat)} (hs:s = .pool bs) {k b:Nat} (h:s.has b):(s.hole k).has b ∨ s.at k = .blk b:=by
 obtain ⟨j,hj⟩:=GS.SY hs h
 by_cases hk:j = k
 ·subst hk; exact .inr hj
 ·left
  rw [← GS.DJ (k:=k) hk] at hj
  exact GS.qY hj
def vJ (p k m:Nat) (g:Nat → GS):Nat → GS:=fun n => if n = m then (g p).at k else if n = p then (g p).hole k else g n
theorem yO:vJ p k m g m = (g p).at k:=if_pos rfl
theorem Ed (h:p ≠ m):vJ p k m g p = (g p).hole k:=by unfold vJ; rw [if_neg h,if_pos rfl]
theorem xO {n:Nat} (h:n ∉ [m,p]):vJ p k m g n = g n:=by
 unfold vJ
 rw [if_neg fun e => h (by simp [e]),if_neg fun e => h (by simp [e])]
theorem GS.Uu {s:GS} {k b:Nat} (h:(s.at k).has b):s.at k = .blk b:=by
 cases s with
 | pool bs =>
  simp only [GS.at] at h ⊢
  cases hb:bs[k]? with
  | none => rw [hb] at h; exact h.elim
  | some o =>
   rw [hb] at h
   cases o with
   | none => exact h.elim
   | some c =>
    have:b = c:=h
    rw [this]
 | _ => exact h.elim
theorem GS.at_at {s:GS} {k j b:Nat} (h:(s.at k).at j = .blk b):False:=by
 cases s with
 | pool bs =>
  simp only [GS.at] at h
  cases hb:bs[k]? with
  | none => rw [hb] at h; cases h
  | some o => rw [hb] at h; cases o <;> cases h
 | _ => cases h
theorem Qp (hw:WF R B g w) {bs:List (Option Nat)} (hs:g p = .pool bs) (hp:p ≠ m) {n b:Nat} (h:(vJ p k m g n).has b):(n = m ∧ (g p).at k = .blk b) ∨ (n = p ∧ ∃ j,j ≠ k ∧ (g p).at j = .blk b) ∨ (n ∉ [m,p] ∧ (g n).has b):=by
 by_cases h1:n = m
 ·subst h1
  rw [yO] at h
  exact .inl ⟨rfl,GS.Uu h⟩
 ·by_cases h2:n = p
  ·subst h2
   rw [Ed hp] at h
   exact .inr (.inl ⟨rfl,(GS.aA4 hs h).2⟩)
  ·have:n ∉ [m,p]:=by simp [h1,h2]
   rw [xO this] at h
   exact .inr (.inr ⟨this,h⟩)
theorem ML (hw:WF R B g w) {bs:List (Option Nat)} (hs:g p = .pool bs) (hp:p ≠ m):WF R B (vJ p k m g) w:=by
 refine ⟨hw.rb,hw.lt,fun n b h => ?_,fun n j b h1 h2 => ?_,fun n i j b h1 h2 => ?_⟩
 ·rcases Qp hw hs hp h with ⟨_,h⟩ | ⟨_,j,_,h⟩ | ⟨_,h⟩
  ·exact hw.ja p b (GS.qY h)
  ·exact hw.ja p b (GS.qY h)
  ·exact hw.ja n b h
 ·rcases Qp hw hs hp h1 with ⟨rfl,h3⟩ | ⟨rfl,i,hi,h3⟩ | ⟨hn,h3⟩ <;> rcases Qp hw hs hp h2 with ⟨rfl,h4⟩ | ⟨rfl,i2,hi2,h4⟩ | ⟨hj,h4⟩
  ·rfl
  ·exact absurd (hw.nd _ _ _ b h4 h3) hi2
  ·have:=hw.kW p j b (GS.qY h3) h4
   subst this
   exact absurd (by simp) hj
  ·exact absurd (hw.nd _ _ _ b h3 h4) hi
  ·rfl
  ·have:=hw.kW n j b (GS.qY h3) h4
   subst this
   exact absurd (by simp) hj
  ·have:=hw.kW p n b (GS.qY h4) h3
   subst this
   exact absurd (by simp) hn
  ·have:=hw.kW j n b (GS.qY h4) h3
   subst this
   exact absurd (by simp) hn
  ·exact hw.kW n j b h3 h4
 ·by_cases e1:n = m
  ·subst e1
   rw [yO] at h1
   exact (GS.at_at h1).elim
  ·by_cases e2:n = p
   ·subst e2
    rw [Ed hp] at h1 h2
    by_cases hi:i = k
    ·subst hi; exact (GS.WI h1).elim
    ·by_cases hj:j = k
     ·subst hj; exact (GS.WI h2).elim
     ·rw [GS.DJ hi] at h1
      rw [GS.DJ hj] at h2
      exact hw.nd _ _ _ b h1 h2
   ·have:n ∉ [m,p]:=by simp [e1,e2]
    rw [xO this] at h1 h2
    exact hw.nd _ _ _ b h1 h2
def EJ (p m:Nat) (g g':Nat → GS):Nat → GS:=fun n => if n = m then .dead else if n = p then g p else g' n
theorem aD0:EJ p m g g' m = .dead:=if_pos rfl
theorem Kz (h:p ≠ m):EJ p m g g' p = g p:=by unfold EJ; rw [if_neg h,if_pos rfl]
theorem P6 {n:Nat} (h:n ∉ [m,p]):EJ p m g g' n = g' n:=by
 unfold EJ
 rw [if_neg fun e => h (by simp [e]),if_neg fun e => h (by simp [e])]
def yA (m p n:Nat):Nat:=bif Nat.beq n m then p else n
theorem aL5 (hw:WF R B g w) {bs:List (Option Nat)} (hs:g p = .pool bs) (hp:p ≠ m) {W X:List Nat} {R' B':Nat → Prop} {w':World} (had:iR R B (vJ p k m g) w W X R' B' g' w') (Ep:p ∉ W) (NG:p ∉ X) (ND:m ∉ X) :
  iR R B g w (W.map (yA m p)) (m :: X) R' B' (EJ p m g g') w':=by
 have hgm:g' m = (g p).at k:=(had.names m ND).trans yO
 have qQ:g' p = (g p).hole k:=(had.names p NG).trans (Ed hp)
 have hcase:∀ n b,(EJ p m g g' n).has b → (n = p ∧ ((g' p).has b ∨ (g' m).has b)) ∨ (n ∉ [m,p] ∧ (g' n).has b):=fun n b h => by
  by_cases e1:n = m
  ·subst e1; rw [aD0] at h; exact h.elim
  ·by_cases e2:n = p
   ·subst e2
    rw [Kz hp] at h
    refine .inl ⟨rfl,?_⟩
    rcases GS.aAw (k:=k) hs h with h | h
    ·exact .inl (by rw [qQ]; exact h)
    ·exact .inr (by rw [hgm,h]; rfl)
   ·have:n ∉ [m,p]:=by simp [e1,e2]
    rw [P6 this] at h
    exact .inr ⟨this,h⟩
 have hW:∀ n ∈ W,∀ b,(vJ p k m g n).has b → (g (yA m p n)).has b:=fun n hn b h => by
  rcases Qp hw hs hp h with ⟨rfl,h'⟩ | ⟨rfl,_⟩ | ⟨hnn,h'⟩
  ·have:yA n p n = p:=by unfold yA; rw [Nat.beq_refl]; rfl
   rw [this]
   exact GS.qY h'
  ·exact absurd hn Ep
  ·have:yA m p n = n:=by
    unfold yA
    have:Nat.beq n m = false:=by
     cases hb:Nat.beq n m with
     | false => rfl
     | true => exact absurd (by simp [Nat.eq_of_beq_eq_true hb]) hnn
    rw [this]; rfl
   rw [this]
   exact h'
 have hWr:∀ n ∈ W.map (yA m p),n ∉ m :: X → ∀ b,(g n).has b → ∃ j,j ∉ X ∧ (vJ p k m g j).has b:=fun n hn vM b hb => by
  obtain ⟨j,hj,rfl⟩:=List.mem_map.1 hn
  by_cases e:yA m p j = p
  ·rw [e] at hb
   rcases GS.aAw (k:=k) hs hb with h | h
   ·exact ⟨p,NG,by rw [Ed hp]; exact h⟩
   ·exact ⟨m,ND,by rw [yO,h]; rfl⟩
  ·have ej:yA m p j = j:=by
    unfold yA at e ⊢
    cases hb2:Nat.beq j m with
    | false => rfl
    | true => rw [hb2] at e; exact absurd rfl e
   rw [ej] at hb vM e
   have hnn:j ∉ [m,p]:=by
    simp only [List.mem_cons,List.not_mem_nil,or_false,not_or] at vM ⊢
    exact ⟨vM.1,e⟩
   exact ⟨j,fun h => vM (List.mem_cons_of_mem _ h),by rw [xO hnn]; exact hb⟩
 have hfw:=ML (k:=k) hw hs hp
 refine ⟨⟨had.wf.rb,had.wf.lt,fun n b h => ?_,fun n j b h1 h2 => ?_,fun n i j b h1 h2 => ?_⟩,had.r,had.b,had.os,had.tape,had.output,had.size,fun b hb nI => had.heap b hb fun n hn h => nI _ (List.mem_map.2 ⟨n,hn,rfl⟩) (hW n hn b h),fun n hn => ?_,fun n hn b hb => ?_,fun n nI vM b cur e hg hh => ?_⟩
 ·rcases hcase n b h with ⟨_,h | h⟩ | ⟨_,h⟩ <;> exact had.wf.ja _ b h
 ·have key:∀ n j,n = p → j ∉ [m,p] → ((g' p).has b ∨ (g' m).has b) → (g' j).has b → False:=fun n j _ hj h1 h2 => by
   rcases h1 with h1 | h1
   ·have:=had.wf.kW _ _ b h1 h2; subst this; exact hj (by simp)
   ·have:=had.wf.kW _ _ b h1 h2; subst this; exact hj (by simp)
  rcases hcase n b h1 with ⟨e1,h3⟩ | ⟨hn,h3⟩ <;> rcases hcase j b h2 with ⟨e2,h4⟩ | ⟨hj,h4⟩
  ·rw [e1,e2]
  ·exact (key n j e1 hj h3 h4).elim
  ·exact (key j n e2 hn h4 h3).elim
  ·exact had.wf.kW n j b h3 h4
 ·by_cases e1:n = m
  ·subst e1; rw [aD0] at h1; cases h1
  ·by_cases e2:n = p
   ·subst e2
    rw [Kz hp] at h1 h2
    exact hw.nd _ _ _ b h1 h2
   ·have:n ∉ [m,p]:=by simp [e1,e2]
    rw [P6 this] at h1 h2
    exact had.wf.nd _ _ _ b h1 h2
 ·simp only [List.mem_cons,not_or] at hn
  by_cases e2:n = p
  ·subst e2; exact Kz hp
  ·have:n ∉ [m,p]:=by simp [hn.1,e2]
   rw [P6 this,had.names n hn.2,xO this]
 ·rcases hcase n b hb with ⟨e,_⟩ | ⟨hnn,h⟩
  ·subst e
   rcases List.mem_cons.1 hn with h | h
   ·exact absurd h hp
   ·exact absurd h NG
  ·have vM:n ∈ X:=by
    rcases List.mem_cons.1 hn with h | h
    ·subst h; exact absurd (by simp) hnn
    ·exact h
   rcases had.fresh n vM b h with h | ⟨j,hj,h⟩
   ·exact .inl h
   ·exact .inr ⟨_,List.mem_map.2 ⟨j,hj,rfl⟩,hW j hj b h⟩
 ·obtain ⟨j,Q9,hj⟩:=hWr n nI vM b hg
  exact had.PX hfw Q9 hj hh
def VW (p m:Nat) (ins:List (Operand × AV)) (vZ:Mem) (v:AV) (yN:Mem) (W X:List Nat):Bool :=
 !Nat.beq p m && ins.all (fun q => Ec p m q.2) && vZ.all (fun q => ![m,p].elem q.1 && pJ [m,p] q.2) && Ec p m v && yN.all (fun q => ![m,p].elem q.1 && pJ [m,p] q.2) && !W.elem p && !X.elem p && !X.elem m
theorem LT.focus {o:Oper} {ins:List (Operand × AV)} {vZ yN:Mem} {v:AV} {W X:List Nat} {e:TypeId} {els els':List (List PV)} {rows:List (List (List PV))}
  (h:LT P o ins ((m,.dF e els) :: vZ) v ((m,.dF e els') :: yN) W X) (hk:rows[k]? = some els) (hc:VW p m ins vZ v yN W X = true) :
  LT P o (ins.map fun q => (q.1,Ak p k m q.2)) ((p,.pool e rows) :: vZ) (Ak p k m v) ((p,.pool e (rows.set k els')) :: yN) (W.map (yA m p)) (m :: X):=by
 simp only [VW,Bool.and_eq_true,Bool.not_eq_true'] at hc
 obtain ⟨⟨⟨⟨⟨⟨⟨hp,hins⟩,hus⟩,hv⟩,hdf⟩,hW⟩,hXp⟩,hXm⟩:=hc
 have hp:=Nat.ne_of_beq_eq_false hp
 have Ep:=mM hW
 have NG:=mM hXp
 have ND:=mM hXm
 intro R B g w a hw hi hu K Q hK
 obtain ⟨⟨bs,hs,hbl⟩,hrows⟩:=hu (p,.pool e rows) List.mem_cons_self
 refine h R B (vJ p k m g) w a (ML hw hs hp) (fun q hq => ?_) (fun q hq => ?_) K Q fun u R' B' g' w' had hR hv' hob => ?_
 ·exact RA.fo (List.all_eq_true.1 hins q hq) yO (fun n hn => xO hn) (hi (q.1,Ak p k m q.2) (List.mem_map.2 ⟨q,hq,rfl⟩))
 ·cases hq with
  | head => exact (hrows k els hk).row yO
  | tail _ hq =>
   have h1:=List.all_eq_true.1 hus q hq
   simp only [Bool.and_eq_true,Bool.not_eq_true'] at h1
   exact RO.av (mM h1.1) h1.2 (fun n hn => xO hn) (hu q (List.mem_cons_of_mem _ hq))
 ·have hgm:g' m = (g p).at k:=(had.names m ND).trans yO
  have Eg:=aL5 hw hs hp had Ep NG ND
  refine hK u R' B' _ w' Eg hR (fun hd => RA.bk hv (by rw [Kz hp]; exact hgm.symm) (fun n hn => P6 hn) (hv' hd)) fun q hq => ?_
  cases hq with
  | head =>
   refine ⟨⟨bs,(Kz hp).trans hs,by simpa using hbl⟩,fun j jH hj => ?_⟩
   show rH P w' R' B' ((EJ p m g g' p).at j) e jH
   rw [Kz hp]
   rw [List.getElem?_set] at hj
   by_cases hjk:k = j
   ·subst hjk
    rw [if_pos rfl] at hj
    split at hj
    ·injection hj with hj
     subst hj
     have:=rH.of (hob (m,.dF e els') List.mem_cons_self)
     rw [← hgm]
     exact this
    ·cases hj
   ·rw [if_neg hjk] at hj
    rcases hrows j jH hj with h1 | ⟨b,cur,h1,h2,h3,h4,h5⟩
    ·exact .inl h1
    ·have hb:(vJ p k m g p).has b:=by
      rw [Ed hp]
      exact GS.qY (k:=j) (by rw [GS.DJ (fun e => hjk e.symm)]; exact h1)
     refine .inr ⟨b,cur,h1,(had.ja (ML hw hs hp) Ep hb).trans h2,h3,h4,fun i k' cs x hi hk' => ?_⟩
     obtain ⟨u,hu1,hu2⟩:=h5 i k' cs x hi hk'
     exact ⟨u,hu1,had.pv (ML hw hs hp) hu2⟩
  | tail _ hq =>
   have h1:=List.all_eq_true.1 hdf q hq
   simp only [Bool.and_eq_true,Bool.not_eq_true'] at h1
   exact RO.av (mM h1.1) h1.2 (fun n hn => P6 hn) (hob q (List.mem_cons_of_mem _ hq))
end
end
section
section
variable {P:Program} {o:Oper} {α:Type} {enc:α → List PV}
def bK {α:Type} (rows:List (List α)):List Nat:=rows.map List.length
def rowsOf {α:Type} (enc:α → List PV) (rows:List (List α)):List (List (List PV)):=rows.map fun r => r.map enc
theorem Ya {p:Nat} {lens:List Nat} {j l:Nat} (h:lens[j]? = some l):(fU p lens)[j]? = some [.tl p j 0 l]:=by
 unfold fU
 rw [List.getElem?_mapIdx,h]
 rfl
theorem Pz {p:Nat} {lens:List Nat} {j:Nat} {cs:List CV} (h:(fU p lens)[j]? = some cs):∃ l,lens[j]? = some l ∧ cs = [.tl p j 0 l]:=by
 unfold fU at h
 rw [List.getElem?_mapIdx] at h
 cases hl:lens[j]? with
 | none => rw [hl] at h; cases h
 | some l => rw [hl] at h; injection h with h; exact ⟨l,rfl,h.symm⟩
theorem EH (p:Nat) (lens:List Nat):(fU p lens).length = lens.length:=by simp [fU]
theorem aLf (p:Nat) (lens:List Nat) (l:Nat):fU p lens ++ [[.tl p lens.length 0 l]] = fU p (lens ++ [l]):=by
 unfold fU
 rw [List.mapIdx_append]
 simp
theorem aDn (p:Nat) (lens:List Nat) (j l:Nat):(fU p lens).set j [.tl p j 0 l] = fU p (lens.set j l):=by
 refine List.ext_getElem? fun i => ?_
 unfold fU
 rw [List.getElem?_set,List.getElem?_mapIdx,List.getElem?_mapIdx,List.getElem?_set]
 by_cases h:j = i
 ·subst h
  simp only [if_true,List.length_mapIdx]
  by_cases hl:j < lens.length
  ·simp [hl]
  ·simp [hl]
 ·simp [h]
theorem LT.Yf {ins:List (Operand × AV)} {v:AV} {df:Mem} {n p:Nat} {e:TypeId} {lens:List Nat} {W X:List Nat} (h:LT P o ins [(n,.row e (fU p lens))] v df W X):LT P o ins [(n,.bZ e p lens)] v df W X :=
 h.conv (fun _ _ _ _ h => KH (ob:=.row e (fU p lens)) (uq (ob:=.bZ e p lens) h)) fun _ _ _ _ h => h
theorem LT.xH {x y:Operand} {t e:TypeId} {i:Int} {n p len:Nat} {rows:List (List α)} {r:List α} (hl:len = rows.length) (ho:o.op = .indexAddr t x y) (h:uK P t = some e) (hi:idx rows i = some r) :
  LT P o [(x,Cc (.loc n 0 len)),(y,Iv i)] [(n,.bZ e p (bK rows))] (Cc (.pl n (i.toNat * cO P e))) [] [] []:=by
 subst hl
 exact LT.Yf (LT.XP ho h (IB hi) (Rk hi))
theorem LT.zB {x:Operand} {t e:TypeId} {n p off:Nat} {i:Int} {rows:List (List α)} {r:List α} (ho:o.op = .load t x) (h:lV P t = some false) (hi:idx rows i = some r) (ha:off = i.toNat * cO P e) :
  LT P o [(x,Cc (.pl n off))] [(n,.bZ e p (bK rows))] (Cc (.tl p i.toNat 0 r.length)) [] [] [] :=
 LT.Yf (LT.Xc ho h (Ya (by rw [bK,List.getElem?_map,nJ hi]; rfl)) rfl (by rw [ha,Nat.add_zero]))
theorem LT.aL7 {p k m n:Nat} {ins:List (Operand × AV)} {vZ yN:Mem} {v:AV} {e e2:TypeId} {els els':List (List PV)} {rows:List (List (List PV))} {lens:List Nat}
  (h:LT P o ins ((m,.dF e2 els) :: vZ) v ((m,.dF e2 els') :: yN) [m] [m]) (hk:rows[k]? = some els)
  (hc:(!Nat.beq p m && !Nat.beq n p && !Nat.beq n m && ins.all (fun q => Ec p m q.2) && vZ.all (fun q => ![m,p].elem q.1 && pJ [m,p] q.2) && yN.isEmpty) = true) :
  LT P o (ins.map fun q => (q.1,Ak p k m q.2)) ((p,.pool e2 rows) :: (n,.bZ e p lens) :: vZ) v [(m,.dF e2 els'),(p,.pool e2 (rows.set k [])),(n,.row e ((fU p lens).set k [.junk]))] [p,n] [p,m]:=by
 simp only [Bool.and_eq_true,Bool.not_eq_true'] at hc
 obtain ⟨⟨⟨⟨⟨hpm,hnp⟩,hnm⟩,hins⟩,hus⟩,hdf⟩:=hc
 have hp:=Nat.ne_of_beq_eq_false hpm
 have hnp:=Nat.ne_of_beq_eq_false hnp
 have hnm:=Nat.ne_of_beq_eq_false hnm
 have aHb:yN = []:=by simpa using hdf
 subst aHb
 intro R B g w a hw hi hu K Q hK
 obtain ⟨⟨bs,hs,hbl⟩,hrows⟩:=hu (p,.pool e2 rows) List.mem_cons_self
 have hn:gX P w R B g n e (fU p lens):=hu (n,.bZ e p lens) (List.mem_cons_of_mem _ List.mem_cons_self)
 have hfw:=ML (k:=k) hw hs hp
 refine h R B (vJ p k m g) w a hfw (fun q hq => ?_) (fun q hq => ?_) K Q fun u R' B' g' w' had hR hv' hob => ?_
 ·exact RA.fo (List.all_eq_true.1 hins q hq) yO (fun n hn => xO hn) (hi (q.1,Ak p k m q.2) (List.mem_map.2 ⟨q,hq,rfl⟩))
 ·cases hq with
  | head => exact (hrows k els hk).row yO
  | tail _ hq =>
   have h1:=List.all_eq_true.1 hus q hq
   simp only [Bool.and_eq_true,Bool.not_eq_true'] at h1
   exact RO.av (mM h1.1) h1.2 (fun n hn => xO hn) (hu q (List.mem_cons_of_mem _ (List.mem_cons_of_mem _ hq)))
 ·have Ep:p ∉ [m]:=by simpa using hp
  have qQ:g' p = (g p).hole k:=(had.names p Ep).trans (Ed hp)
  have hgn:g' n = g n:=(had.names n (by simpa using hnm)).trans (xO (by simp [hnm,hnp]))
  have hkeep:∀ j b,j ≠ k → (g p).at j = .blk b → w'.heap[b]? = w.heap[b]?:=fun j b hj hb => by
   refine had.ja hfw Ep ?_
   rw [Ed hp]
   exact GS.qY (k:=j) (by rw [GS.DJ hj]; exact hb)
  have Eg:iR R B g w [p,n] [p,m] R' B' g' w':=by
   refine ⟨had.wf,had.r,had.b,had.os,had.tape,had.output,had.size,fun b hb nI => had.heap b hb fun j hj hh => ?_,fun j hj => ?_,fun j hj b hb => ?_,fun j hj Q9 b cur e' hg hh => ?_⟩
   ·have:j = m:=by simpa using hj
    subst this
    rw [yO] at hh
    exact nI p (by simp) (GS.qY (GS.Uu hh))
   ·have:j ∉ [m,p]:=by simp at hj ⊢; exact ⟨hj.2,hj.1⟩
    rw [had.names j (by simp at hj ⊢; exact hj.2),xO this]
   ·have hj:j = p ∨ j = m:=by simpa using hj
    rcases hj with rfl | rfl
    ·rw [qQ] at hb
     exact .inr ⟨j,by simp,(GS.aA4 hs hb).1⟩
    ·rcases had.fresh j (by simp) b hb with h1 | ⟨i,hi,h1⟩
     ·exact .inl h1
     ·have:i = j:=by simpa using hi
      subst this
      rw [yO] at h1
      exact .inr ⟨p,by simp,GS.qY (GS.Uu h1)⟩
   ·have:j = n:=by
     simp at hj Q9
     rcases hj with h1 | h1
     ·exact absurd h1 Q9.1
     ·exact h1
    subst this
    exact had.PX hfw (n:=j) (by simpa using hnm) (by rw [xO (by simp [hnm,hnp])]; exact hg) hh
  refine hK u R' B' g' w' Eg hR hv' fun q hq => ?_
  have hq:q = (m,.dF e2 els') ∨ q = (p,.pool e2 (rows.set k [])) ∨ q = (n,.row e ((fU p lens).set k [.junk])):=by simpa using hq
  rcases hq with rfl | rfl | rfl
  ·exact hob _ List.mem_cons_self
  ·refine ⟨⟨bs.set k none,by rw [qQ,hs]; rfl,by simpa using hbl⟩,fun j jH hj => ?_⟩
   show rH P w' R' B' ((g' p).at j) e2 jH
   rw [qQ]
   rw [List.getElem?_set] at hj
   by_cases hjk:k = j
   ·subst hjk
    rw [if_pos rfl] at hj
    split at hj
    ·injection hj with hj
     subst hj
     rename_i hl
     refine .inl ⟨?_,rfl⟩
     rw [hs]
     simp only [GS.hole,GS.at,List.getElem?_set,if_true]
     rw [if_pos (by omega)]
    ·cases hj
   ·rw [if_neg hjk] at hj
    rw [GS.DJ fun e => hjk e.symm]
    rcases hrows j jH hj with h1 | ⟨b,cur,h1,h2,h3,h4,h5⟩
    ·exact .inl h1
    ·refine .inr ⟨b,cur,h1,(hkeep j b (fun e => hjk e.symm) h1).trans h2,h3,h4,fun i k' cs x hi hk' => ?_⟩
     obtain ⟨u,hu1,hu2⟩:=h5 i k' cs x hi hk'
     exact ⟨u,hu1,had.pv hfw hu2⟩
  ·show gX P w' R' B' g' n e ((fU p lens).set k [.junk])
   rcases hn with ⟨h1,h2⟩ | ⟨b,cur,h1,h2,h3,h4,h5⟩
   ·exact .inl ⟨hgn.trans h1,by rw [h2]; rfl⟩
   ·have hfn:vJ p k m g n = .blk b:=(xO (by simp [hnm,hnp])).trans h1
    have hheap:=had.ja hfw (n:=n) (by simpa using hnm) (GS.wL hfn)
    refine .inr ⟨b,cur,hgn.trans h1,hheap.trans h2,fun cs hcs => ?_,by simpa using h4,fun j i cs x hj hi => ?_⟩
    ·rcases List.mem_or_eq_of_mem_set hcs with hc | hc
     ·exact h3 cs hc
     ·subst hc
      by_cases hkl:k < (fU p lens).length
      ·have:=h3 _ (List.getElem_mem hkl)
       obtain ⟨j,l,hjl⟩:=KA (List.getElem_mem hkl)
       rw [hjl] at this
       exact this
      ·rw [List.set_eq_of_length_le (by omega)] at hcs
       exact h3 _ hcs
    ·rw [List.getElem?_set] at hj
     by_cases hjk:k = j
     ·subst hjk
      rw [if_pos rfl] at hj
      split at hj
      ·rename_i hkl
       injection hj with hj
       subst hj
       cases i with
       | succ i => simp at hi
       | zero =>
        have:x = .junk:=by simpa using hi.symm
        subst this
        obtain ⟨j2,l,hjl⟩:=KA (List.getElem_mem hkl)
        obtain ⟨u,hu1,hu2⟩:=h5 k 0 _ (.tl p j2 0 l) (List.getElem?_eq_getElem hkl) (by rw [hjl]; rfl)
        exact ⟨u,hu1,hu2.1,trivial⟩
      ·cases hj
     ·rw [if_neg hjk] at hj
      obtain ⟨u,hu1,hu2⟩:=h5 j i cs x hj hi
      obtain ⟨l,_,rfl⟩:=Pz hj
      cases i with
      | succ i => simp at hi
      | zero =>
       have:x = .tl p j 0 l:=by simpa using hi.symm
       subst this
       refine ⟨u,hu1,hu2.1,?_⟩
       have hat:(g' p).at j = (g p).at j:=by rw [qQ,GS.DJ fun e => hjk e.symm]
       rcases hu2.2 with ⟨q1,q2⟩ | q1 | ⟨b2,cap,EX,e3,q1,q2,q3⟩
       ·exact .inl ⟨hat.trans q1,q2⟩
       ·exact .inr (.inl q1)
       ·exact .inr (.inr ⟨b2,cap,EX,e3,hat.trans q1,(hkeep j b2 (fun e => hjk e.symm) q1).trans q2,q3⟩)
end
end
end Go.Fw
end
