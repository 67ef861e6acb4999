/- Parts of a proof that a law of the program holds: what the program computes, and why that is right. -/
import Derived.WalkKit
import Derived.Orders
import Derived.Deep.Slices
import Derived.LoopN
import Derived.Laws.StructEq
import Derived.Laws.MakeOwn
import Derived.Laws.AppendOwn
import Derived.Maps.AppendAt
set_option linter.unusedVariables false
set_option linter.unusedSimpArgs false
set_option linter.unnecessarySimpa false
set_option maxRecDepth 100000
set_option maxHeartbeats 8000000
section
namespace Go.Fw
section
inductive PV where
 | sc (v:Value)
 | xs (q:Bool) (els:List (List PV))
inductive CV where
 | pv (p:PV)
 | px (q:Bool) (cells:List PV)
 | loc (n off len:Nat)
 | pl (n off:Nat)
 | fn (f:FuncId) (caps:List Nat)
 | mref (n:Nat)
 | tl (p k off len:Nat)
 | tpl (p k off:Nat)
 | junk
inductive SV where
 | c (x:CV)
 | agg (cells:List CV)
inductive AV where
 | s (x:SV)
 | dM (vs:List SV)
inductive Ob where
 | row (e:TypeId) (els:List (List CV))
 | dF (e:TypeId) (els:List (List PV))
 | mp (es:List (Int × Int))
 | pool (e:TypeId) (rows:List (List (List PV)))
 | bZ (e:TypeId) (p:Nat) (lens:List Nat)
 | unk
inductive GS where
 | dead
 | nil
 | blk (b:Nat)
 | pool (bs:List (Option Nat))
def GS.has:GS → Nat → Prop
 | .blk b,x => x = b
 | .pool bs,x => some x ∈ bs
 | _,_ => False
def GS.at (s:GS) (k:Nat):GS:=match s with
 | .pool bs => match bs[k]? with
  | some (some b) => .blk b
  | some none => .nil
  | none => .dead
 | _ => .dead
theorem GS.wL {s:GS} {b:Nat} (h:s = .blk b):s.has b:=by rw [h]; rfl
theorem GS.qY {s:GS} {k b:Nat} (h:s.at k = .blk b):s.has b:=by
 cases s with
 | pool bs =>
  simp only [GS.at] at h
  cases hb:bs[k]? with
  | none => rw [hb] at h; cases h
  | some o =>
   cases o with
   | none => rw [hb] at h; cases h
   | some c =>
    rw [hb] at h
    injection h with h
    subst h
    exact List.mem_of_getElem? hb
 | _ => cases h
abbrev Slots:=List (Nat × AV)
abbrev Mem:=List (Nat × Ob)
def cO (P:Program) (e:TypeId):Nat:=((P.info? e).map (·.size)).getD 0
def Dx (R B:Nat → Prop) (q:Bool):Nat → Prop:=match q with
 | true => R
 | false => B
inductive jW (w:World) (R B:Nat → Prop):PV → Value → Prop
 | sc {v:Value} (h:v.oneCell' = true):jW w R B (.sc v) v
 | emp {q:Bool} {a:Option Addr} {c:Nat}:jW w R B (.xs q []) (.slice a 0 c)
 | xs {q:Bool} {els:List (List PV)} {a:Addr} {c s n:Nat} (val:Nat → Nat → Value) (hn:n = els.length) (hb:Dx R B q a.block) (hc:els.length ≤ c) (hs:∀ cs ∈ els,cs.length = s)
   (hv:∀ j k cs p,els[j]? = some cs → cs[k]? = some p → w.cell? (a.add (j * s + k)) = some (val j k))
   (hr:∀ j k cs p,els[j]? = some cs → cs[k]? = some p → jW w R B p (val j k)):jW w R B (.xs q els) (.slice (some a) n c)
def Um (P:Program) (w:World) (R B:Nat → Prop) (g:Nat → GS):CV → Value → Prop
 | .pv p,v => jW w R B p v
 | .px q cells,v => ∃ a,v = .pointer (some a) ∧ Dx R B q a.block ∧ ∀ k p,cells[k]? = some p → ∃ u,w.cell? (a.add k) = some u ∧ jW w R B p u
 | .loc n off len,v =>
  (g n = .nil ∧ off = 0 ∧ len = 0 ∧ v = .slice none 0 0) ∨ (len = 0 ∧ off ≠ 0 ∧ ∃ a c,v = .slice a 0 c) ∨
  ∃ b cap cur e,g n = .blk b ∧ w.heap[b]? = some (.cells cur e (0,0)) ∧ len ≤ cap ∧ off + cap ≤ maxLen ∧ (off + cap) * cO P e = cur.size ∧ v = .slice (some ⟨b,off * cO P e,none⟩) len cap
 | .pl n off,v => ∃ b,g n = .blk b ∧ v = .pointer (some ⟨b,off,none⟩)
 | .fn f caps,v => ∃ vs:List Value,v = .func (.func f) #[] vs.toArray ∧ vs.length = caps.length ∧ ∀ (k n:Nat),caps[k]? = some n → ∃ b,g n = .blk b ∧ vs[k]? = some (Value.pointer (some ⟨b,0,none⟩))
 | .mref n,v => ∃ b,g n = .blk b ∧ v = .map (some b)
 | .tl p k off len,v =>
  ((g p).at k = .nil ∧ off = 0 ∧ len = 0 ∧ v = .slice none 0 0) ∨ (len = 0 ∧ off ≠ 0 ∧ ∃ a c,v = .slice a 0 c) ∨
  ∃ b cap cur e,(g p).at k = .blk b ∧ w.heap[b]? = some (.cells cur e (0,0)) ∧ len ≤ cap ∧ off + cap ≤ maxLen ∧ (off + cap) * cO P e = cur.size ∧ v = .slice (some ⟨b,off * cO P e,none⟩) len cap
 | .tpl p k off,v => ∃ b,(g p).at k = .blk b ∧ v = .pointer (some ⟨b,off,none⟩)
 | .junk,_ => True
def RC (P:Program) (w:World) (R B:Nat → Prop) (g:Nat → GS) (x:CV) (v:Value):Prop:=v.oneCell' = true ∧ Um P w R B g x v
def RS (P:Program) (w:World) (R B:Nat → Prop) (g:Nat → GS):SV → Value → Prop
 | .c x,v => RC P w R B g x v
 | .agg cells,v => ∃ vs:List Value,v = .agg vs.toArray ∧ vs.length = cells.length ∧ ∀ (k:Nat) x,cells[k]? = some x → ∃ u,vs[k]? = some u ∧ RC P w R B g x u
def RA (P:Program) (w:World) (R B:Nat → Prop) (g:Nat → GS):AV → Value → Prop
 | .s x,v => RS P w R B g x v
 | .dM xs,v => ∃ vs:List Value,v = .tuple vs.toArray ∧ vs.length = xs.length ∧ ∀ (k:Nat) x,xs[k]? = some x → ∃ u,vs[k]? = some u ∧ RS P w R B g x u
def gX (P:Program) (w:World) (R B:Nat → Prop) (g:Nat → GS) (n:Nat) (e:TypeId) (els:List (List CV)):Prop :=
  (g n = .nil ∧ els = []) ∨
  ∃ b cur,g n = .blk b ∧ w.heap[b]? = some (.cells cur e (0,0)) ∧ (∀ cs ∈ els,cs.length = cO P e) ∧ els.length * cO P e ≤ cur.size ∧
   ∀ (j k:Nat) cs x,els[j]? = some cs → cs[k]? = some x → ∃ u,cur[j * cO P e + k]? = some u ∧ RC P w R B g x u
def iT (els:List (List PV)):List (List CV):=els.map (·.map .pv)
def fU (p:Nat) (lens:List Nat):List (List CV):=lens.mapIdx fun j l => [.tl p j 0 l]
def rH (P:Program) (w:World) (R B:Nat → Prop) (s:GS) (e:TypeId) (els:List (List PV)):Prop :=
  (s = .nil ∧ els = []) ∨
  ∃ b cur,s = .blk b ∧ w.heap[b]? = some (.cells cur e (0,0)) ∧ (∀ cs ∈ els,cs.length = cO P e) ∧ els.length * cO P e ≤ cur.size ∧
   ∀ (j k:Nat) cs x,els[j]? = some cs → cs[k]? = some x → ∃ u,cur[j * cO P e + k]? = some u ∧ jW w R B x u
def RO (P:Program) (w:World) (R B:Nat → Prop) (g:Nat → GS) (n:Nat):Ob → Prop
 | .row e els => gX P w R B g n e els
 | .dF e els => gX P w R B g n e (iT els)
 | .mp es => ∃ b qW clock,g n = .blk b ∧ w.heap[b]? = some (.map qW clock) ∧ qW.toList.map (fun e => (e.key,e.val)) = es.map fun e => (Value.int .i64 e.1,Value.int .i64 e.2)
 | .pool e rows => (∃ bs,g n = .pool bs ∧ bs.length = rows.length) ∧ ∀ (k:Nat) els,rows[k]? = some els → rH P w R B ((g n).at k) e els
 | .bZ e p lens => gX P w R B g n e (fU p lens)
 | .unk => True
structure WF (R B:Nat → Prop) (g:Nat → GS) (w:World):Prop where
 rb:∀ b,R b → B b
 lt:∀ b,B b → b < w.heap.size
 ja:∀ n b,(g n).has b → ¬ B b ∧ b < w.heap.size
 kW:∀ n m b,(g n).has b → (g m).has b → n = m
 nd:∀ n j k b,(g n).at j = .blk b → (g n).at k = .blk b → j = k
theorem WF.own {R B:Nat → Prop} {g:Nat → GS} {w:World} (h:WF R B g w) (n b:Nat) (hg:g n = .blk b):¬ B b ∧ b < w.heap.size:=h.ja n b (GS.wL hg)
structure iR (R B:Nat → Prop) (g:Nat → GS) (w:World) (W X:List Nat) (R' B':Nat → Prop) (g':Nat → GS) (w':World):Prop where
 wf:WF R' B' g' w'
 r:∀ b,R b → R' b
 b:∀ b,B b → B' b
 os:w'.os = w.os
 tape:w'.tape = w.tape
 output:w'.output = w.output
 size:w.heap.size ≤ w'.heap.size
 heap:∀ b,b < w.heap.size → (∀ n ∈ W,¬ (g n).has b) → w'.heap[b]? = w.heap[b]?
 names:∀ n,n ∉ X → g' n = g n
 fresh:∀ n ∈ X,∀ b,(g' n).has b → w.heap.size ≤ b ∨ ∃ m ∈ W,(g m).has b
 shape:∀ n ∈ W,n ∉ X → ∀ b cur e,(g n).has b → w.heap[b]? = some (.cells cur e (0,0)) → ∃ cur',w'.heap[b]? = some (.cells cur' e (0,0)) ∧ cur'.size = cur.size
def bY (X:List Nat):CV → CV
 | .loc n o l => bif X.elem n then .junk else .loc n o l
 | .pl n o => bif X.elem n then .junk else .pl n o
 | .fn f caps => bif caps.any X.elem then .junk else .fn f caps
 | .mref n => bif X.elem n then .junk else .mref n
 | .tl p k o l => bif X.elem p then .junk else .tl p k o l
 | .tpl p k o => bif X.elem p then .junk else .tpl p k o
 | x => x
def rY (X:List Nat):SV → SV
 | .c x => .c (bY X x)
 | .agg cs => .agg (cs.map (bY X))
def qB (X:List Nat):AV → AV
 | .s x => .s (rY X x)
 | .dM xs => .dM (xs.map (rY X))
def nK (X:List Nat):Ob → Ob
 | .row e els => .row e (els.map (·.map (bY X)))
 | .dF e els => .dF e els
 | .mp es => .mp es
 | .pool e rows => .pool e rows
 | .bZ e p lens => bif X.elem p then .unk else .bZ e p lens
 | .unk => .unk
def kM (X:List Nat) (σ:Slots):Slots:=σ.map fun p => (p.1,qB X p.2)
def jK (X:List Nat):Mem → Mem
 | [] => []
 | (n,o) :: r => bif X.elem n then jK X r else (n,nK X o) :: jK X r
section
variable {P:Program} {w w':World} {R B R' B':Nat → Prop} {g g':Nat → GS} {W X:List Nat}
theorem TJ (hr:∀ b,R b → R' b) (hb:∀ b,B b → B' b) {q:Bool} {b:Nat} (h:Dx R B q b):Dx R' B' q b:=by
 cases q
 ·exact hb _ h
 ·exact hr _ h
theorem aCh (hrb:∀ b,R b → B b) {q:Bool} {b:Nat} (h:Dx R B q b):B b:=by
 cases q
 ·exact h
 ·exact hrb _ h
theorem add_block (a:Addr) (n:Nat):(a.add n).block = a.block:=by unfold Addr.add; split <;> rfl
theorem jW.keep (hr:∀ b,R b → R' b) (hb:∀ b,B b → B' b) (hrb:∀ b,R b → B b) (hh:∀ b,B b → w'.heap[b]? = w.heap[b]?) {p:PV} {v:Value} (h:jW w R B p v):jW w' R' B' p v:=by
 induction h with
 | sc h => exact .sc h
 | emp => exact .emp
 | xs val hn hq hc hs hv _ ih =>
  refine .xs val hn (TJ hr hb hq) hc hs (fun j k cs p h1 h2 => ?_) ih
  rw [World.cell?_of_block (w:=w) (by rw [add_block]; exact hh _ (aCh hrb hq))]
  exact hv j k cs p h1 h2
theorem jW.oneCell {p:PV} {v:Value} (h:jW w R B p v):v.oneCell' = true:=by
 cases h <;> first | assumption | rfl
theorem iR.aBr (h:iR R B g w W X R' B' g' w') (hw:WF R B g w):∀ b,B b → w'.heap[b]? = w.heap[b]? :=
 fun b hb => h.heap b (hw.lt b hb) fun n _ he => (hw.ja n b he).1 hb
theorem iR.pv (h:iR R B g w W X R' B' g' w') (hw:WF R B g w) {p:PV} {v:Value} (hp:jW w R B p v):jW w' R' B' p v :=
 hp.keep h.r h.b hw.rb (h.aBr hw)
theorem iR.ja (h:iR R B g w W X R' B' g' w') (hw:WF R B g w) {n b:Nat} (nI:n ∉ W) (hg:(g n).has b):w'.heap[b]? = w.heap[b]? :=
 h.heap b (hw.ja n b hg).2 fun m hm he => nI (hw.kW m n b he hg ▸ hm)
theorem iR.own (h:iR R B g w W X R' B' g' w') (hw:WF R B g w) {n b:Nat} (hn:n ∉ X) (nI:n ∉ W) (hg:g n = .blk b):g' n = .blk b ∧ w'.heap[b]? = w.heap[b]? :=
 ⟨(h.names n hn).trans hg,h.ja hw nI (GS.wL hg)⟩
theorem iR.PX (h:iR R B g w W X R' B' g' w') (hw:WF R B g w) {n b:Nat} (hn:n ∉ X) (hg:(g n).has b) {cur:Array Value} {e:TypeId} (hh:w.heap[b]? = some (.cells cur e (0,0))) :
  ∃ cur',w'.heap[b]? = some (.cells cur' e (0,0)) ∧ cur'.size = cur.size:=by
 by_cases hW:n ∈ W
 ·exact h.shape n hW hn b cur e hg hh
 ·exact ⟨cur,(h.ja hw hW hg).trans hh,rfl⟩
theorem iR.own' (h:iR R B g w W X R' B' g' w') (hw:WF R B g w) {n b:Nat} (hn:n ∉ X) (hg:g n = .blk b) {cur:Array Value} {e:TypeId} (hh:w.heap[b]? = some (.cells cur e (0,0))) :
  ∃ cur',w'.heap[b]? = some (.cells cur' e (0,0)) ∧ cur'.size = cur.size:=by
 exact h.PX hw hn (GS.wL hg) hh
theorem mM {n:Nat} (h:X.elem n = false):n ∉ X:=by
 intro hm
 rw [List.elem_eq_true_of_mem hm] at h
 cases h
theorem iR.rc0 (h:iR R B g w W X R' B' g' w') (hw:WF R B g w) {x:CV} {v:Value} (hp:Um P w R B g x v):Um P w' R' B' g' (bY X x) v:=by
 cases x with
 | pv p => exact h.pv hw hp
 | px q cells =>
  obtain ⟨a,rfl,hq,hc⟩:=hp
  refine ⟨a,rfl,TJ h.r h.b hq,fun k p hk => ?_⟩
  obtain ⟨u,hu,hr⟩:=hc k p hk
  exact ⟨u,(World.cell?_of_block (w:=w) (by rw [add_block]; exact h.aBr hw _ (aCh hw.rb hq))).trans hu,h.pv hw hr⟩
 | loc n off len =>
  cases hx:X.elem n with
  | true => simp only [bY,hx,cond_true]; trivial
  | false =>
   have hn:=mM hx
   simp only [bY,hx,cond_false]
   rcases hp with ⟨h1,h2,h3,h4⟩ | hz | ⟨b,cap,cur,e,h1,h2,h3,h4,h5,h6⟩
   ·exact .inl ⟨(h.names n hn).trans h1,h2,h3,h4⟩
   ·exact .inr (.inl hz)
   ·obtain ⟨cur',k2,k3⟩:=h.own' hw hn h1 h2
    exact .inr (.inr ⟨b,cap,cur',e,(h.names n hn).trans h1,k2,h3,h4,h5.trans k3.symm,h6⟩)
 | pl n off =>
  cases hx:X.elem n with
  | true => simp only [bY,hx,cond_true]; trivial
  | false =>
   have hn:=mM hx
   simp only [bY,hx,cond_false]
   obtain ⟨b,h1,h2⟩:=hp
   exact ⟨b,(h.names n hn).trans h1,h2⟩
 | fn f caps =>
  cases hx:caps.any X.elem with
  | true => simp only [bY,hx,cond_true]; trivial
  | false =>
   simp only [bY,hx,cond_false]
   obtain ⟨vs,h1,h2,h3⟩:=hp
   refine ⟨vs,h1,h2,fun k n hk => ?_⟩
   obtain ⟨b,k1,k2⟩:=h3 k n hk
   have hn:n ∉ X:=mM (by
    have:=List.any_eq_false.1 hx n (List.mem_of_getElem? hk)
    simpa using this)
   exact ⟨b,(h.names n hn).trans k1,k2⟩
 | mref n =>
  cases hx:X.elem n with
  | true => simp only [bY,hx,cond_true]; trivial
  | false =>
   have hn:=mM hx
   simp only [bY,hx,cond_false]
   obtain ⟨b,h1,h2⟩:=hp
   exact ⟨b,(h.names n hn).trans h1,h2⟩
 | tl p k off len =>
  cases hx:X.elem p with
  | true => simp only [bY,hx,cond_true]; trivial
  | false =>
   have hn:=mM hx
   simp only [bY,hx,cond_false]
   rcases hp with ⟨h1,h2,h3,h4⟩ | hz | ⟨b,cap,cur,e,h1,h2,h3,h4,h5,h6⟩
   ·exact .inl ⟨by rw [h.names p hn]; exact h1,h2,h3,h4⟩
   ·exact .inr (.inl hz)
   ·obtain ⟨cur',k2,k3⟩:=h.PX hw hn (GS.qY h1) h2
    exact .inr (.inr ⟨b,cap,cur',e,by rw [h.names p hn]; exact h1,k2,h3,h4,h5.trans k3.symm,h6⟩)
 | tpl p k off =>
  cases hx:X.elem p with
  | true => simp only [bY,hx,cond_true]; trivial
  | false =>
   have hn:=mM hx
   simp only [bY,hx,cond_false]
   obtain ⟨b,h1,h2⟩:=hp
   exact ⟨b,by rw [h.names p hn]; exact h1,h2⟩
 | junk => trivial
theorem iR.rc (h:iR R B g w W X R' B' g' w') (hw:WF R B g w) {x:CV} {v:Value} (hp:RC P w R B g x v):RC P w' R' B' g' (bY X x) v:=⟨hp.1,h.rc0 hw hp.2⟩
theorem iR.rs (h:iR R B g w W X R' B' g' w') (hw:WF R B g w) {x:SV} {v:Value} (hp:RS P w R B g x v):RS P w' R' B' g' (rY X x) v:=by
 cases x with
 | c x => exact h.rc hw hp
 | agg cells =>
  obtain ⟨vs,rfl,hl,hc⟩:=hp
  refine ⟨vs,rfl,by simpa using hl,fun k x hk => ?_⟩
  rw [List.getElem?_map] at hk
  cases hx:cells[k]? with
  | none => rw [hx] at hk; cases hk
  | some y =>
   rw [hx] at hk
   injection hk with hk
   subst hk
   obtain ⟨u,hu,hr⟩:=hc k y hx
   exact ⟨u,hu,h.rc hw hr⟩
theorem iR.ra (h:iR R B g w W X R' B' g' w') (hw:WF R B g w) {x:AV} {v:Value} (hp:RA P w R B g x v):RA P w' R' B' g' (qB X x) v:=by
 cases x with
 | s x => exact h.rs hw hp
 | dM xs =>
  obtain ⟨vs,rfl,hl,hc⟩:=hp
  refine ⟨vs,rfl,by simpa using hl,fun k x hk => ?_⟩
  rw [List.getElem?_map] at hk
  cases hx:xs[k]? with
  | none => rw [hx] at hk; cases hk
  | some y =>
   rw [hx] at hk
   injection hk with hk
   subst hk
   obtain ⟨u,hu,hr⟩:=hc k y hx
   exact ⟨u,hu,h.rs hw hr⟩
theorem iR.row (h:iR R B g w W X R' B' g' w') (hw:WF R B g w) {n:Nat} (hn:n ∉ X) (nI:n ∉ W) {e:TypeId} {els:List (List CV)} (hp:gX P w R B g n e els):gX P w' R' B' g' n e (els.map (·.map (bY X))):=by
 rcases hp with ⟨h1,h2⟩ | ⟨b,cur,h1,h2,h3,h4,h5⟩
 ·exact .inl ⟨(h.names n hn).trans h1,by simp [h2]⟩
 ·obtain ⟨k1,k2⟩:=h.own hw hn nI h1
  refine .inr ⟨b,cur,k1,k2.trans h2,fun cs hcs => ?_,by simpa using h4,fun j k cs x hj hk => ?_⟩
  ·obtain ⟨cs0,hm,rfl⟩:=List.mem_map.1 hcs
   simpa using h3 cs0 hm
  ·rw [List.getElem?_map] at hj
   cases hx:els[j]? with
   | none => rw [hx] at hj; cases hj
   | some y =>
    rw [hx] at hj
    injection hj with hj
    subst hj
    rw [List.getElem?_map] at hk
    cases hz:y[k]? with
    | none => rw [hz] at hk; cases hk
    | some z =>
     rw [hz] at hk
     injection hk with hk
     subst hk
     obtain ⟨u,hu,hr⟩:=h5 j k y z hx hz
     exact ⟨u,hu,h.rc hw hr⟩
theorem Ph (X:List Nat) (els:List (List PV)):(iT els).map (·.map (bY X)) = iT els:=by
 simp [iT,bY,Function.comp_def]
theorem UN {X:List Nat} {p:Nat} (hx:X.elem p = false) (lens:List Nat):(fU p lens).map (·.map (bY X)) = fU p lens:=by
 refine List.ext_getElem? fun j => ?_
 simp only [fU,List.getElem?_map,List.getElem?_mapIdx,Option.map_map]
 cases lens[j]? with
 | none => rfl
 | some l => simp only [Option.map_some,Function.comp,List.map_cons,List.map_nil,bY,hx,cond_false]
theorem iR.ro (h:iR R B g w W X R' B' g' w') (hw:WF R B g w) {n:Nat} (hn:n ∉ X) (nI:n ∉ W) {o:Ob} (hp:RO P w R B g n o):RO P w' R' B' g' n (nK X o):=by
 cases o with
 | row e els => exact h.row hw hn nI hp
 | dF e els =>
  have:=h.row hw hn nI (els:=iT els) hp
  rwa [Ph] at this
 | mp es =>
  obtain ⟨b,qW,clock,h1,h2,h3⟩:=hp
  obtain ⟨k1,k2⟩:=h.own hw hn nI h1
  exact ⟨b,qW,clock,k1,k2.trans h2,h3⟩
 | pool e rows =>
  obtain ⟨⟨bs,h1,h2⟩,h3⟩:=hp
  refine ⟨⟨bs,(h.names n hn).trans h1,h2⟩,fun k els hk => ?_⟩
  rw [h.names n hn]
  rcases h3 k els hk with hnil | ⟨b,cur,k1,k2,k3,k4,k5⟩
  ·exact .inl hnil
  ·refine .inr ⟨b,cur,k1,(h.ja hw nI (GS.qY k1)).trans k2,k3,k4,fun j i cs x hj hi => ?_⟩
   obtain ⟨u,hu,hr⟩:=k5 j i cs x hj hi
   exact ⟨u,hu,h.pv hw hr⟩
 | bZ e p lens =>
  have:=h.row hw hn nI (els:=fU p lens) hp
  show RO P w' R' B' g' n (bif X.elem p then .unk else .bZ e p lens)
  cases hx:X.elem p with
  | true => trivial
  | false =>
   rw [UN hx] at this
   exact this
 | unk => trivial
end
end
end Go.Fw
end
section
namespace Go.Mx
abbrev Ext:=List Bool → Int
def wed:List Int → Ext → Ext
 | [],_,_ => 0
 | s :: v,x,m => match m with
  | [] => 0
  | false :: m => wed v (fun m => x (false :: m)) m
  | true :: m => s * x (false :: m) - wed v (fun m => x (true :: m)) m
def con:List Int → Ext → Ext
 | [],_,_ => 0
 | t :: u,x,m => match m with
  | [] => 0
  | false :: m => con u (fun m => x (false :: m)) m + t * x (true :: m)
  | true :: m => - con u (fun m => x (true :: m)) m
def dot:List Int → List Int → Int
 | a :: u,b :: v => a * b + dot u v
 | _,_ => 0
theorem AQ:∀ (v:List Int) (x y:Ext) (m:List Bool),(∀ k:List Bool,k.length = m.length → x k = y k) → wed v x m = wed v y m
 | [],x,y,m,h => rfl
 | s :: v,x,y,[],h => rfl
 | s :: v,x,y,false :: m,h => AQ v _ _ m fun k hk => h (false :: k) (by simp [hk])
 | s :: v,x,y,true :: m,h => by
  show s * x (false :: m) - wed v (fun m => x (true :: m)) m = s * y (false :: m) - wed v (fun m => y (true :: m)) m
  rw [h (false :: m) (by simp),AQ v (fun m => x (true :: m)) (fun m => y (true :: m)) m fun k hk => h (true :: k) (by simp [hk])]
theorem DC:∀ (v:List Int) (x y:Ext) (m:List Bool),(∀ k:List Bool,k.length = m.length → x k = y k) → con v x m = con v y m
 | [],x,y,m,h => rfl
 | s :: v,x,y,[],h => rfl
 | s :: v,x,y,false :: m,h => by
  show con v (fun m => x (false :: m)) m + s * x (true :: m) = con v (fun m => y (false :: m)) m + s * y (true :: m)
  rw [h (true :: m) (by simp),DC v (fun m => x (false :: m)) (fun m => y (false :: m)) m fun k hk => h (false :: k) (by simp [hk])]
 | s :: v,x,y,true :: m,h => by
  show - con v (fun m => x (true :: m)) m = - con v (fun m => y (true :: m)) m
  rw [DC v (fun m => x (true :: m)) (fun m => y (true :: m)) m fun k hk => h (true :: k) (by simp [hk])]
theorem AU (a b:Int):∀ (v:List Int) (x y:Ext) (m:List Bool),wed v (fun m => a * x m + b * y m) m = a * wed v x m + b * wed v y m
 | [],x,y,m => by simp [wed]
 | s :: v,x,y,[] => by simp [wed]
 | s :: v,x,y,false :: m => AU a b v (fun m => x (false :: m)) (fun m => y (false :: m)) m
 | s :: v,x,y,true :: m => by
  have h:=AU a b v (fun m => x (true :: m)) (fun m => y (true :: m)) m
  show s * (a * x (false :: m) + b * y (false :: m)) - wed v (fun m => a * x (true :: m) + b * y (true :: m)) m = a * (s * x (false :: m) - wed v (fun m => x (true :: m)) m) + b * (s * y (false :: m) - wed v (fun m => y (true :: m)) m)
  rw [h]
  grind
theorem EW (a b:Int):∀ (v:List Int) (x y:Ext) (m:List Bool),con v (fun m => a * x m + b * y m) m = a * con v x m + b * con v y m
 | [],x,y,m => by simp [con]
 | s :: v,x,y,[] => by simp [con]
 | s :: v,x,y,false :: m => by
  have h:=EW a b v (fun m => x (false :: m)) (fun m => y (false :: m)) m
  show con v (fun m => a * x (false :: m) + b * y (false :: m)) m + s * (a * x (true :: m) + b * y (true :: m)) = a * (con v (fun m => x (false :: m)) m + s * x (true :: m)) + b * (con v (fun m => y (false :: m)) m + s * y (true :: m))
  rw [h]
  grind
 | s :: v,x,y,true :: m => by
  have h:=EW a b v (fun m => x (true :: m)) (fun m => y (true :: m)) m
  show - con v (fun m => a * x (true :: m) + b * y (true :: m)) m = a * (- con v (fun m => x (true :: m)) m) + b * (- con v (fun m => y (true :: m)) m)
  rw [h]
  grind
theorem QB (v:List Int) (x:Ext) (m:List Bool) (h:∀ k:List Bool,k.length = m.length → x k = 0):wed v x m = 0:=by
 rw [AQ v x (fun m => 0 * x m + 0 * x m) m fun k hk => by rw [h k hk]; rfl,AU]
 grind
theorem aGD (v:List Int) (x:Ext) (m:List Bool) (h:∀ k:List Bool,k.length = m.length → x k = 0):con v x m = 0:=by
 rw [DC v x (fun m => 0 * x m + 0 * x m) m fun k hk => by rw [h k hk]; rfl,EW]
 grind
theorem aM7 (v:List Int) (x:Ext) (m:List Bool):wed v (fun m => - x m) m = - wed v x m:=by
 rw [AQ v (fun m => - x m) (fun m => (-1) * x m + 0 * x m) m fun k hk => by grind,AU]
 grind
theorem aAI (v:List Int) (x:Ext) (m:List Bool):con v (fun m => - x m) m = - con v x m:=by
 rw [DC v (fun m => - x m) (fun m => (-1) * x m + 0 * x m) m fun k hk => by grind,EW]
 grind
theorem aM6 (t:Int) (v:List Int) (x y:Ext) (m:List Bool):wed v (fun m => x m + t * y m) m = wed v x m + t * wed v y m:=by
 rw [AQ v (fun m => x m + t * y m) (fun m => 1 * x m + t * y m) m fun k hk => by grind,AU]
 grind
theorem aAH (t:Int) (v:List Int) (x y:Ext) (m:List Bool):con v (fun m => x m + t * y m) m = con v x m + t * con v y m:=by
 rw [DC v (fun m => x m + t * y m) (fun m => 1 * x m + t * y m) m fun k hk => by grind,EW]
 grind
theorem aEe (t:Int) (v:List Int) (x y:Ext) (m:List Bool):wed v (fun m => t * x m - y m) m = t * wed v x m - wed v y m:=by
 rw [AQ v (fun m => t * x m - y m) (fun m => t * x m + (-1) * y m) m fun k hk => by grind,AU]
 grind
theorem aGC (t:Int) (v:List Int) (x y:Ext) (m:List Bool):con v (fun m => t * x m - y m) m = t * con v x m - con v y m:=by
 rw [DC v (fun m => t * x m - y m) (fun m => t * x m + (-1) * y m) m fun k hk => by grind,EW]
 grind
theorem Ap:∀ (u v:List Int) (x:Ext) (m:List Bool),u.length = m.length → v.length = m.length → con u (wed v x) m + wed v (con u x) m = dot u v * x m
 | [],[],x,m,_,_ => by simp [con,wed,dot]
 | t :: u,s :: v,x,[],h,_ => by cases h
 | [],s :: v,x,m,h1,h2 => by simp at h1 h2; omega
 | t :: u,[],x,m,h1,h2 => by simp at h1 h2; omega
 | t :: u,s :: v,x,false :: m,h1,h2 => by
  have ih:=Ap u v (fun m => x (false :: m)) m (by simpa using h1) (by simpa using h2)
  have e1:=aM6 t v (con u fun m => x (false :: m)) (fun m => x (true :: m)) m
  show con u (wed v fun m => x (false :: m)) m + t * (s * x (false :: m) - wed v (fun m => x (true :: m)) m) + wed v (fun m => con u (fun m => x (false :: m)) m + t * x (true :: m)) m = (t * s + dot u v) * x (false :: m)
  rw [e1]
  grind
 | t :: u,s :: v,x,true :: m,h1,h2 => by
  have ih:=Ap u v (fun m => x (true :: m)) m (by simpa using h1) (by simpa using h2)
  have e1:=aGC s u (fun m => x (false :: m)) (wed v fun m => x (true :: m)) m
  have e2:=aM7 v (con u fun m => x (true :: m)) m
  show - con u (fun m => s * x (false :: m) - wed v (fun m => x (true :: m)) m) m + (s * (con u (fun m => x (false :: m)) m + t * x (true :: m)) - wed v (fun m => - con u (fun m => x (true :: m)) m) m) = (t * s + dot u v) * x (true :: m)
  rw [e1,e2]
  grind
theorem CU:∀ (u v:List Int) (x:Ext) (m:List Bool),u.length = m.length → v.length = m.length → wed u (wed v x) m = - wed v (wed u x) m
 | [],[],x,m,_,_ => by simp [wed]
 | t :: u,s :: v,x,[],h,_ => by cases h
 | [],s :: v,x,m,h1,h2 => by simp at h1 h2; omega
 | t :: u,[],x,m,h1,h2 => by simp at h1 h2; omega
 | t :: u,s :: v,x,false :: m,h1,h2 => CU u v (fun m => x (false :: m)) m (by simpa using h1) (by simpa using h2)
 | t :: u,s :: v,x,true :: m,h1,h2 => by
  have ih:=CU u v (fun m => x (true :: m)) m (by simpa using h1) (by simpa using h2)
  have e1:=aEe s u (fun m => x (false :: m)) (wed v fun m => x (true :: m)) m
  have e2:=aEe t v (fun m => x (false :: m)) (wed u fun m => x (true :: m)) m
  show t * wed v (fun m => x (false :: m)) m - wed u (fun m => s * x (false :: m) - wed v (fun m => x (true :: m)) m) m = - (s * wed u (fun m => x (false :: m)) m - wed v (fun m => t * x (false :: m) - wed u (fun m => x (true :: m)) m) m)
  rw [e1,e2]
  grind
theorem L9:∀ (u v:List Int) (x:Ext) (m:List Bool),u.length = m.length → v.length = m.length → con u (con v x) m = - con v (con u x) m
 | [],[],x,m,_,_ => by simp [con]
 | t :: u,s :: v,x,[],h,_ => by cases h
 | [],s :: v,x,m,h1,h2 => by simp at h1 h2; omega
 | t :: u,[],x,m,h1,h2 => by simp at h1 h2; omega
 | t :: u,s :: v,x,false :: m,h1,h2 => by
  have ih:=L9 u v (fun m => x (false :: m)) m (by simpa using h1) (by simpa using h2)
  have e1:=aAH s u (con v fun m => x (false :: m)) (fun m => x (true :: m)) m
  have e2:=aAH t v (con u fun m => x (false :: m)) (fun m => x (true :: m)) m
  show con u (fun m => con v (fun m => x (false :: m)) m + s * x (true :: m)) m + t * (- con v (fun m => x (true :: m)) m) = - (con v (fun m => con u (fun m => x (false :: m)) m + t * x (true :: m)) m + s * (- con u (fun m => x (true :: m)) m))
  rw [e1,e2]
  grind
 | t :: u,s :: v,x,true :: m,h1,h2 => by
  have ih:=L9 u v (fun m => x (true :: m)) m (by simpa using h1) (by simpa using h2)
  have e1:=aAI u (con v fun m => x (true :: m)) m
  have e2:=aAI v (con u fun m => x (true :: m)) m
  show - con u (fun m => - con v (fun m => x (true :: m)) m) m = - - con v (fun m => - con u (fun m => x (true :: m)) m) m
  rw [e1,e2]
  grind
theorem AX (a b:Int):∀ (u v y:List Int) (x:Ext) (m:List Bool),u.length = y.length → v.length = y.length → (∀ k:Nat,y.getD k 0 = a * u.getD k 0 + b * v.getD k 0) → wed y x m = a * wed u x m + b * wed v x m
 | [],[],[],x,m,_,_,_ => by simp [wed]
 | t :: u,s :: v,r :: y,x,[],_,_,_ => by simp [wed]
 | t :: u,s :: v,r :: y,x,false :: m,h1,h2,h3 => AX a b u v y (fun m => x (false :: m)) m (by simpa using h1) (by simpa using h2) fun k => by simpa using h3 (k + 1)
 | t :: u,s :: v,r :: y,x,true :: m,h1,h2,h3 => by
  have ih:=AX a b u v y (fun m => x (true :: m)) m (by simpa using h1) (by simpa using h2) fun k => by simpa using h3 (k + 1)
  have h0:r = a * t + b * s:=by simpa using h3 0
  show r * x (false :: m) - wed y (fun m => x (true :: m)) m = a * (t * x (false :: m) - wed u (fun m => x (true :: m)) m) + b * (s * x (false :: m) - wed v (fun m => x (true :: m)) m)
  rw [ih,h0]
  grind
 | [],_ :: _,[],_,_,_,h,_ => by cases h
 | _ :: _,[],[],_,_,h,_,_ => by cases h
 | _ :: _,_ :: _,[],_,_,h,_,_ => by cases h
 | [],_,_ :: _,_,_,h,_,_ => by cases h
 | _ :: _,[],_ :: _,_,_,_,h,_ => by cases h
def ip:Nat → Ext → Ext → Int
 | 0,x,y => x [] * y []
 | n + 1,x,y => ip n (fun m => x (false :: m)) (fun m => y (false :: m)) + ip n (fun m => x (true :: m)) (fun m => y (true :: m))
theorem BL:∀ (n:Nat) (x x' y y':Ext),(∀ m:List Bool,m.length = n → x m = x' m) → (∀ m:List Bool,m.length = n → y m = y' m) → ip n x y = ip n x' y'
 | 0,x,x',y,y',h1,h2 => by simp [ip,h1 [] rfl,h2 [] rfl]
 | n + 1,x,x',y,y',h1,h2 => by
  unfold ip
  rw [BL n _ _ _ _ (fun m hm => h1 (false :: m) (by simp [hm])) fun m hm => h2 (false :: m) (by simp [hm]),BL n _ _ _ _ (fun m hm => h1 (true :: m) (by simp [hm])) fun m hm => h2 (true :: m) (by simp [hm])]
theorem DV (a b:Int):∀ (n:Nat) (x y z:Ext),ip n z (fun m => a * x m + b * y m) = a * ip n z x + b * ip n z y
 | 0,x,y,z => by simp only [ip]; grind
 | n + 1,x,y,z => by
  have h1:=DV a b n (fun m => x (false :: m)) (fun m => y (false :: m)) (fun m => z (false :: m))
  have h2:=DV a b n (fun m => x (true :: m)) (fun m => y (true :: m)) (fun m => z (true :: m))
  unfold ip
  rw [h1,h2]
  grind
theorem DU:∀ (n:Nat) (x y:Ext),ip n x y = ip n y x
 | 0,x,y => Int.mul_comm ..
 | n + 1,x,y => by
  unfold ip
  rw [DU n,DU n (fun m => x (true :: m))]
theorem aJQ (t:Int) (n:Nat) (x y z:Ext):ip n z (fun m => x m + t * y m) = ip n z x + t * ip n z y:=by
 rw [BL n z z (fun m => x m + t * y m) (fun m => 1 * x m + t * y m) (fun _ _ => rfl) fun m _ => by grind,DV]
 grind
theorem aBk (t:Int) (n:Nat) (x y z:Ext):ip n z (fun m => t * x m - y m) = t * ip n z x - ip n z y:=by
 rw [BL n z z (fun m => t * x m - y m) (fun m => t * x m + (-1) * y m) (fun _ _ => rfl) fun m _ => by grind,DV]
 grind
theorem aJR (n:Nat) (x z:Ext):ip n z (fun m => - x m) = - ip n z x:=by
 rw [BL n z z (fun m => - x m) (fun m => (-1) * x m + 0 * x m) (fun _ _ => rfl) fun m _ => by grind,DV]
 grind
theorem adj:∀ (n:Nat) (v:List Int) (x y:Ext),v.length = n → ip n (wed v x) y = ip n x (con v y)
 | 0,[],x,y,_ => by simp [ip,wed,con]
 | n + 1,s :: v,x,y,h => by
  have h1:=adj n v (fun m => x (false :: m)) (fun m => y (false :: m)) (by simpa using h)
  have h2:=adj n v (fun m => x (true :: m)) (fun m => y (true :: m)) (by simpa using h)
  show ip n (wed v fun m => x (false :: m)) (fun m => y (false :: m)) + ip n (fun m => s * x (false :: m) - wed v (fun m => x (true :: m)) m) (fun m => y (true :: m)) = ip n (fun m => x (false :: m)) (fun m => con v (fun m => y (false :: m)) m + s * y (true :: m)) + ip n (fun m => x (true :: m)) (fun m => - con v (fun m => y (true :: m)) m)
  rw [h1,DU n (fun m => s * x (false :: m) - wed v (fun m => x (true :: m)) m),aBk,DU n (fun m => y (true :: m)) (wed v fun m => x (true :: m)),h2,aJQ,aJR,DU n (fun m => y (true :: m))]
  grind
 | 0,_ :: _,_,_,h => by cases h
 | _ + 1,[],_,_,h => by cases h
def nrm (n:Nat) (x:Ext):Int:=ip n x x
theorem KG:∀ (n:Nat) (x:Ext),0 ≤ nrm n x
 | 0,x => by
  show 0 ≤ x [] * x []
  rcases Int.le_total 0 (x []) with h | h
  ·exact Int.mul_nonneg h h
  ·exact Int.mul_nonneg_of_nonpos_of_nonpos h h
 | n + 1,x => Int.add_nonneg (KG n _) (KG n _)
theorem aCR (n:Nat) (v:List Int) (x:Ext) (h:v.length = n):nrm n (wed v x) + nrm n (con v x) = dot v v * nrm n x:=by
 unfold nrm
 rw [adj n v x _ h]
 have h1:ip n x (con v (wed v x)) = ip n x (fun m => dot v v * x m - wed v (con v x) m):=BL n _ _ _ _ (fun _ _ => rfl) fun m hm => by
  have:=Ap v v x m (by omega) (by omega)
  omega
 rw [h1,aBk,DU n x (wed v (con v x)),adj n v _ _ h]
 omega
theorem aJ5 (n:Nat) (v:List Int) (x:Ext) (h:v.length = n):nrm n (wed v x) ≤ dot v v * nrm n x:=by
 have:=aCR n v x h
 have:=KG n (con v x)
 omega
theorem aJ4 (n:Nat) (v:List Int) (x:Ext) (h:v.length = n):nrm n (con v x) ≤ dot v v * nrm n x:=by
 have:=aCR n v x h
 have:=KG n (wed v x)
 omega
theorem sq_nonneg (a:Int):0 ≤ a * a:=by
 rcases Int.le_total 0 a with h | h
 ·exact Int.mul_nonneg h h
 ·exact Int.mul_nonneg_of_nonpos_of_nonpos h h
theorem YT:∀ (n:Nat) (x:Ext) (m:List Bool),m.length = n → x m * x m ≤ nrm n x
 | 0,x,[],_ => Int.le_refl _
 | n + 1,x,false :: m,h => by
  have h1:=YT n (fun m => x (false :: m)) m (by simpa using h)
  have h2:=KG n (fun m => x (true :: m))
  have e:nrm (n + 1) x = nrm n (fun m => x (false :: m)) + nrm n (fun m => x (true :: m)):=rfl
  omega
 | n + 1,x,true :: m,h => by
  have h1:=YT n (fun m => x (true :: m)) m (by simpa using h)
  have h2:=KG n (fun m => x (false :: m))
  have e:nrm (n + 1) x = nrm n (fun m => x (false :: m)) + nrm n (fun m => x (true :: m)):=rfl
  omega
 | 0,_,_ :: _,h => by cases h
 | _ + 1,_,[],h => by cases h
def one:Ext:=fun m => if m.all (!·) then 1 else 0
def om:List (List Int) → Ext
 | [] => one
 | v :: V => wed v (om V)
def ct:List (List Int) → Ext → Ext
 | [],x => x
 | u :: U,x => ct U (con u x)
def sc (n:Nat) (x:Ext):Int:=x (List.replicate n false)
def rZ:List (List Int) → Int
 | [] => 1
 | v :: V => dot v v * rZ V
theorem Qh (v:List Int):0 ≤ dot v v:=by
 induction v with
 | nil => exact Int.le_refl _
 | cons a v ih => exact Int.add_nonneg (sq_nonneg a) ih
theorem Pg:∀ V,0 ≤ rZ V
 | [] => by decide
 | v :: V => Int.mul_nonneg (Qh v) (Pg V)
theorem aCQ:∀ n,nrm n one = 1
 | 0 => rfl
 | n + 1 => by
  have h1:ip n (fun m => one (false :: m)) (fun m => one (false :: m)) = nrm n one:=BL n _ _ _ _ (fun m _ => by simp [one]) (fun m _ => by simp [one])
  have h2:ip n (fun m => one (true :: m)) (fun m => one (true :: m)) = ip n (fun m => 0 * one m + 0 * one m) (fun m => 0 * one m + 0 * one m):=BL n _ _ _ _ (fun m _ => by simp [one]) (fun m _ => by simp [one])
  show ip n (fun m => one (false :: m)) (fun m => one (false :: m)) + ip n (fun m => one (true :: m)) (fun m => one (true :: m)) = 1
  rw [h1,h2,DV,aCQ n]
  grind
theorem aCP:∀ (n:Nat) (V:List (List Int)),(∀ v ∈ V,v.length = n) → nrm n (om V) ≤ rZ V
 | n,[],_ => by rw [show om [] = one from rfl,aCQ]; exact Int.le_refl _
 | n,v :: V,h => by
  have h1:=aJ5 n v (om V) (h v List.mem_cons_self)
  have h2:=aCP n V fun v hv => h v (List.mem_cons_of_mem _ hv)
  exact Int.le_trans h1 (Int.mul_le_mul_of_nonneg_left h2 (Qh v))
theorem aCO:∀ (n:Nat) (U:List (List Int)) (x:Ext),(∀ u ∈ U,u.length = n) → nrm n (ct U x) ≤ rZ U * nrm n x
 | n,[],x,_ => by rw [show rZ [] = 1 from rfl,Int.one_mul]; exact Int.le_refl _
 | n,u :: U,x,h => by
  have h1:=aCO n U (con u x) fun v hv => h v (List.mem_cons_of_mem _ hv)
  have h2:=aJ4 n u x (h u List.mem_cons_self)
  have h3:=Int.mul_le_mul_of_nonneg_left h2 (Pg U)
  have e:rZ (u :: U) * nrm n x = rZ U * (dot u u * nrm n x):=by
   show dot u u * rZ U * nrm n x = _
   grind
  rw [e]
  exact Int.le_trans h1 h3
theorem aAt (n:Nat) (U V:List (List Int)) (hu:∀ u ∈ U,u.length = n) (hv:∀ v ∈ V,v.length = n):sc n (ct U (om V)) * sc n (ct U (om V)) ≤ rZ U * rZ V :=
 Int.le_trans (YT n _ _ (List.length_replicate ..)) (Int.le_trans (aCO n U _ hu) (Int.mul_le_mul_of_nonneg_left (aCP n V hv) (Pg U)))
section
structure kK (n:Nat) (F:Ext → Int):Prop where
 congr:∀ x y:Ext,(∀ m:List Bool,m.length = n → x m = y m) → F x = F y
 lin:∀ (a b:Int) (x y:Ext),F (fun m => a * x m + b * y m) = a * F x + b * F y
theorem kK.sub {n:Nat} {F:Ext → Int} (h:kK n F) (t:Int) (x y:Ext):F (fun m => t * x m - y m) = t * F x - F y:=by
 rw [h.congr (fun m => t * x m - y m) (fun m => t * x m + (-1) * y m) fun m _ => by grind,h.lin]
 grind
theorem kK.neg {n:Nat} {F:Ext → Int} (h:kK n F) (x:Ext):F (fun m => - x m) = - F x:=by
 rw [h.congr (fun m => - x m) (fun m => (-1) * x m + 0 * x m) fun m _ => by grind,h.lin]
 grind
theorem kK.zero {n:Nat} {F:Ext → Int} (h:kK n F) (x:Ext) (hx:∀ m:List Bool,m.length = n → x m = 0):F x = 0:=by
 rw [h.congr x (fun m => 0 * x m + 0 * x m) fun m hm => by rw [hx m hm]; rfl,h.lin]
 grind
theorem kK.sc (n:Nat):kK n (sc n):=⟨fun x y h => h _ (List.length_replicate ..),fun a b x y => rfl⟩
theorem kK.con {n:Nat} {F:Ext → Int} (h:kK n F) (u:List Int):kK n fun x => F (con u x) :=
 ⟨fun x y hx => h.congr _ _ fun m hm => DC u x y m fun k hk => hx k (by omega),fun a b x y => by
  rw [h.congr _ (fun m => a * Mx.con u x m + b * Mx.con u y m) fun m _ => EW a b u x y m,h.lin]⟩
theorem kK.wed {n:Nat} {F:Ext → Int} (h:kK n F) (u:List Int):kK n fun x => F (wed u x) :=
 ⟨fun x y hx => h.congr _ _ fun m hm => AQ u x y m fun k hk => hx k (by omega),fun a b x y => by
  rw [h.congr _ (fun m => a * Mx.wed u x m + b * Mx.wed u y m) fun m _ => AU a b u x y m,h.lin]⟩
theorem kK.ct {n:Nat}:∀ {F:Ext → Int},kK n F → ∀ U:List (List Int),kK n fun x => F (ct U x)
 | F,h,[] => h
 | F,h,u :: U => (kK.ct h U).con u
theorem Qa:∀ (u:List Int) (m:List Bool),con u one m = 0
 | [],m => rfl
 | t :: u,[] => rfl
 | t :: u,false :: m => by
  have h:=DC u (fun m => one (false :: m)) one m fun k _ => by simp [one]
  show con u (fun m => one (false :: m)) m + t * one (true :: m) = 0
  rw [h,Qa u m]
  simp [one]
 | t :: u,true :: m => by
  have h:=aGD u (fun m => one (true :: m)) m fun k _ => by simp [one]
  show - con u (fun m => one (true :: m)) m = 0
  rw [h]; rfl
theorem Pv:∀ (n:Nat) (v:List Int) (x:Ext),wed v x (List.replicate n false) = 0
 | _,[],_ => rfl
 | 0,_ :: _,_ => rfl
 | n + 1,s :: v,x => Pv n v _
def jU (n:Nat) (U V:List (List Int)):Int:=sc n (ct U (om V))
def ent (n:Nat) (U V:List (List Int)) (x u:List Int):Int:=jU n (u :: U) (x :: V)
def ku (n:Nat) (V:List (List Int)):Prop:=∀ v ∈ V,v.length = n
theorem ku.tail {n:Nat} {v:List Int} {V:List (List Int)} (h:ku n (v :: V)):ku n V:=fun x hx => h x (List.mem_cons_of_mem _ hx)
theorem ku.head {n:Nat} {v:List Int} {V:List (List Int)} (h:ku n (v :: V)):v.length = n:=h v List.mem_cons_self
theorem VO {n:Nat} {U V:List (List Int)} {x u:List Int} (hx:x.length = n) (hu:u.length = n):ent n U V x u = dot u x * jU n U V - sc n (ct U (wed x (con u (om V)))):=by
 have hF:=kK.ct (kK.sc n) U
 have h:=hF.congr (con u (wed x (om V))) (fun m => dot u x * om V m - wed x (con u (om V)) m) fun m hm => by
  have:=Ap u x (om V) m (by omega) (by omega)
  omega
 show sc n (ct U (con u (wed x (om V)))) = _
 exact h.trans (hF.sub _ _ _)
def Sp (n:Nat) (V:List (List Int)) (y:List Int):Prop:=y.length = n ∧ ∀ m:List Bool,m.length = n → wed y (om V) m = 0
theorem Sp.mem {n:Nat} {v:List Int}:∀ {V:List (List Int)},ku n V → v ∈ V → Sp n V v
 | p :: V,hV,h => by
  refine ⟨hV v h,fun m hm => ?_⟩
  rcases List.mem_cons.1 h with rfl | h
  ·have:=CU v v (om V) m (by rw [hV.head,hm]) (by rw [hV.head,hm])
   show wed v (wed v (om V)) m = 0
   omega
  ·have ih:=Sp.mem hV.tail h
   show wed v (wed p (om V)) m = 0
   rw [CU v p (om V) m (by rw [ih.1,hm]) (by rw [hV.head,hm]),QB p (wed v (om V)) m fun k hk => ih.2 k (by omega)]
   rfl
theorem Sp.cons {n:Nat} {V:List (List Int)} {y p:List Int} (h:Sp n V y) (hp:p.length = n):Sp n (p :: V) y:=⟨h.1,fun m hm => by
 show wed y (wed p (om V)) m = 0
 rw [CU y p (om V) m (by rw [h.1,hm]) (by rw [hp,hm]),QB p (wed y (om V)) m fun k hk => h.2 k (by omega)]
 rfl⟩
theorem Sp.comb {n:Nat} {V:List (List Int)} {u v y:List Int} (a b:Int) (hu:Sp n V u) (hv:Sp n V v) (hy:y.length = n) (h:∀ k:Nat,y.getD k 0 = a * u.getD k 0 + b * v.getD k 0):Sp n V y :=
 ⟨hy,fun m hm => by
  rw [AX a b u v y (om V) m (by rw [hu.1,hy]) (by rw [hv.1,hy]) h,hu.2 m hm,hv.2 m hm]
  simp⟩
theorem aAN {n:Nat} {y:List Int} (hy:y.length = n):∀ (U:List (List Int)) (x:Ext),ku n U → (∀ u ∈ U,dot u y = 0) → sc n (ct U (wed y x)) = 0
 | [],x,_,_ => Pv n y x
 | u :: U,x,hU,h => by
  have hF:=kK.ct (kK.sc n) U
  have ih:=aAN hy U (con u x) hU.tail fun v hv => h v (List.mem_cons_of_mem _ hv)
  have e:=hF.congr (con u (wed y x)) (fun m => - wed y (con u x) m) fun m hm => by
   have:=Ap u y x m (by rw [hU.head,hm]) (by omega)
   rw [h u List.mem_cons_self] at this
   omega
  show sc n (ct U (con u (wed y x))) = 0
  refine (e.trans (hF.neg _)).trans ?_
  show - sc n (ct U (wed y (con u x))) = 0
  rw [ih]; rfl
theorem uniq {n:Nat} {U V:List (List Int)} {y u:List Int} (hy:Sp n V y) (hU:ku n U) (hu:u.length = n) (h:∀ w ∈ U,dot w y = 0):dot u y * jU n U V = 0:=by
 have h1:=VO (U:=U) (V:=V) hy.1 hu
 have h2:ent n U V y u = 0:=(kK.ct (kK.sc n) (u :: U)).zero _ fun m hm => hy.2 m hm
 have hF:=((kK.sc n).ct U)
 rw [h2,aAN hy.1 U (con u (om V)) hU h] at h1
 omega
theorem MB {n:Nat} {u:List Int} (hu:u.length = n):∀ (U:List (List Int)) (x:Ext),ku n U → u ∈ U → sc n (ct U (con u x)) = 0
 | w :: U,x,hU,h => by
  have hF:=kK.ct (kK.sc n) U
  show sc n (ct U (con w (con u x))) = 0
  rcases List.mem_cons.1 h with rfl | h
  ·refine hF.zero _ fun m hm => ?_
   have:=L9 u u x m (by omega) (by omega)
   omega
  ·have ih:=MB hu U (con w x) hU.tail h
   have e:=hF.congr (con w (con u x)) (fun m => - con u (con w x) m) fun m hm => L9 w u x m (by rw [hU.head,hm]) (by omega)
   refine (e.trans (hF.neg _)).trans ?_
   show - sc n (ct U (con u (con w x))) = 0
   rw [ih]; rfl
theorem aGX {n:Nat} {U V:List (List Int)} {x u:List Int} (hu:u.length = n) (hU:ku n U) (h:u ∈ U):ent n U V x u = 0:=MB hu U _ hU h
def unit (n k:Nat):List Int:=(List.range n).map fun i => if i = k then 1 else 0
theorem ru (n k:Nat):(unit n k).length = n:=by simp [unit]
theorem aGK (f g:Nat → Int):∀ n,dot ((List.range n).map f) ((List.range n).map g) = ((List.range n).map fun i => f i * g i).sum:=by
 have key:∀ l:List Nat,dot (l.map f) (l.map g) = (l.map fun i => f i * g i).sum:=fun l => by
  induction l with
  | nil => rfl
  | cons a l ih => simp only [List.map_cons,dot,List.sum_cons,ih]
 exact fun n => key _
theorem vI {n k:Nat} {v:List Int} (hv:v.length = n) (hk:k < n):dot (unit n k) v = v.getD k 0:=by
 have hv':v = (List.range n).map fun i => v.getD i 0:=by
  refine List.ext_getElem? fun i => ?_
  rw [List.getElem?_map]
  by_cases hi:i < n
  ·rw [List.getElem?_range hi]
   simp [List.getD_eq_getElem?_getD,List.getElem?_eq_getElem (show i < v.length by omega)]
  ·rw [List.getElem?_eq_none (by omega),List.getElem?_eq_none (by simp; omega)]; rfl
 conv => lhs; rw [hv']
 unfold unit
 rw [aGK]
 have key:∀ (l:List Nat),l.Nodup → (l.map fun i => (if i = k then 1 else 0) * v.getD i 0).sum = if k ∈ l then v.getD k 0 else 0:=fun l hl => by
  induction l with
  | nil => rfl
  | cons a l ih =>
   have h1:=(List.nodup_cons.1 hl).1
   have h2:=(List.nodup_cons.1 hl).2
   rw [List.map_cons,List.sum_cons,ih h2]
   by_cases ha:a = k
   ·subst ha; simp [h1]
   ·rw [if_neg ha]
    simp [Ne.symm ha]
 rw [key _ List.nodup_range,if_pos (List.mem_range.2 hk)]
theorem aGN {n k:Nat} (hk:k < n):dot (unit n k) (unit n k) = 1:=by
 rw [vI (ru n k) hk]
 simp [unit,List.getD_eq_getElem?_getD,hk]
theorem yx {n:Nat} {u v:List Int} (hu:u.length = n) (hv:v.length = n) (h:∀ k,k < n → u.getD k 0 = v.getD k 0):u = v:=by
 refine List.ext_getElem? fun i => ?_
 by_cases hi:i < n
 ·have:=h i hi
  simp only [List.getD_eq_getElem?_getD,List.getElem?_eq_getElem (show i < u.length by omega),List.getElem?_eq_getElem (show i < v.length by omega),Option.getD_some] at this
  rw [List.getElem?_eq_getElem (by omega),List.getElem?_eq_getElem (by omega),this]
 ·rw [List.getElem?_eq_none (by omega),List.getElem?_eq_none (by omega)]
theorem jA {v:List Int} {k:Nat} (h:v.length ≤ k):v.getD k 0 = 0:=by
 rw [List.getD_eq_getElem?_getD,List.getElem?_eq_none h]; rfl
def vec (n:Nat) (f:Nat → Int):List Int:=(List.range n).map f
theorem dO (n:Nat) (f:Nat → Int):(vec n f).length = n:=by simp [vec]
theorem gV {n k:Nat} (f:Nat → Int) (h:k < n):(vec n f).getD k 0 = f k:=by simp [vec,List.getD_eq_getElem?_getD,h]
theorem Sp.Yh {n:Nat}:∀ (V:List (List Int)) (F:Ext → Int),ku n V → kK n F → Sp n V (vec n fun k => F (con (unit n k) (om V)))
 | [],F,_,hF => ⟨dO ..,fun m hm => by
  have h0:∀ k,F (con (unit n k) (om [])) = 0:=fun k => hF.zero _ fun m _ => Qa _ m
  have:=AX 0 0 (vec n fun k => F (con (unit n k) (om []))) (vec n fun k => F (con (unit n k) (om []))) (vec n fun k => F (con (unit n k) (om []))) (om []) m rfl rfl fun k => by
   by_cases hk:k < n
   ·rw [gV _ hk,h0]; rfl
   ·rw [jA (by rw [dO]; omega)]; rfl
  rw [this]; simp⟩
 | v :: V,F,hV,hF => by
  have ih:=Sp.Yh V (fun x => F (wed v x)) hV.tail (hF.wed v)
  have hv:=hV.head
  refine ⟨dO ..,fun m hm => ?_⟩
  have e:∀ k,k < n → F (con (unit n k) (om (v :: V))) = v.getD k 0 * F (om V) - F (wed v (con (unit n k) (om V))):=fun k hk => by
   have h1:=hF.congr (con (unit n k) (om (v :: V))) (fun m => v.getD k 0 * om V m - wed v (con (unit n k) (om V)) m) fun m hm => by
    have:=Ap (unit n k) v (om V) m (by rw [ru,hm]) (by omega)
    rw [vI hv hk] at this
    show con (unit n k) (wed v (om V)) m = _
    omega
   exact h1.trans (hF.sub _ _ _)
  have h2:=AX (F (om V)) (-1) v (vec n fun k => F (wed v (con (unit n k) (om V)))) (vec n fun k => F (con (unit n k) (om (v :: V)))) (om (v :: V)) m (by rw [dO,hv]) (by rw [dO,dO]) fun k => by
   by_cases hk:k < n
   ·rw [gV _ hk,gV _ hk,e k hk]; grind
   ·rw [jA (by rw [dO]; omega),jA (by omega),jA (by rw [dO]; omega)]; simp
  rw [h2]
  have h3:=(Sp.mem hV List.mem_cons_self).2 m hm
  have h4:=(Sp.cons ih hv).2 m hm
  rw [h3,h4]; simp
def units (n:Nat) (C:List Nat):List (List Int):=C.map (unit n)
theorem yB (n:Nat) (C:List Nat):ku n (units n C):=fun u hu => by
 obtain ⟨k,_,rfl⟩:=List.mem_map.1 hu
 exact ru ..
def jQ (n:Nat) (C:List Nat) (V:List (List Int)) (x:List Int):List Int:=vec n fun k => ent n (units n C) V x (unit n k)
structure IsA (n:Nat) (C:List Nat) (V:List (List Int)) (x a:List Int):Prop where
 len:a.length = n
 sp:Sp n V (vec n fun k => a.getD k 0 - jU n (units n C) V * x.getD k 0)
 col:∀ c ∈ C,a.getD c 0 = 0
theorem Ai {n:Nat} {C:List Nat} {V:List (List Int)} {x:List Int} (hV:ku n V) (hx:x.length = n):IsA n C V x (jQ n C V x):=by
 refine ⟨dO ..,?_,fun c hc => ?_⟩
 ·have h:=Sp.Yh V (fun y => sc n (ct (units n C) (wed x y))) hV (((kK.sc n).ct _).wed x)
  refine Sp.comb (-1) 0 h h (dO ..) fun k => ?_
  by_cases hk:k < n
  ·rw [gV _ hk,gV _ hk,jQ,gV _ hk,VO hx (ru ..),vI hx hk]
   grind
  ·rw [jA (by rw [dO]; omega),jA (by rw [dO]; omega)]; rfl
 ·by_cases hk:c < n
  ·rw [jQ,gV _ hk]
   exact aGX (ru ..) (yB n C) (List.mem_map.2 ⟨c,hc,rfl⟩)
  ·exact jA (by rw [jQ,dO]; omega)
theorem Qe {n c:Nat} {C:List Nat} {V:List (List Int)} {p:List Int} (hc:c < n):jU n (units n (c :: C)) (p :: V) = (jQ n C V p).getD c 0:=by
 rw [jQ,gV _ hc]; rfl
theorem YK {n:Nat} {C:List Nat} {V:List (List Int)} {a b:List Int} (hC:∀ c ∈ C,c < n) (hd:jU n (units n C) V ≠ 0) (ha:a.length = n) (hb:b.length = n) (hs:Sp n V (vec n fun k => a.getD k 0 - b.getD k 0)) (hc:∀ c ∈ C,a.getD c 0 = b.getD c 0):a = b:=by
 refine yx ha hb fun k hk => ?_
 have h:=uniq (u:=unit n k) hs (yB n C) (ru ..) fun w hw => by
  obtain ⟨c,hcC,rfl⟩:=List.mem_map.1 hw
  have hcn:=hC c hcC
  rw [vI (dO ..) hcn,gV _ hcn,hc c hcC]
  omega
 rw [vI (dO ..) hk,gV _ hk] at h
 rcases Int.mul_eq_zero.1 h with h | h
 ·omega
 ·exact absurd h hd
structure zC (n:Nat) (C:List Nat) (V:List (List Int)) (c:Nat) (b:List Int):Prop where
 len:b.length = n
 sp:Sp n V b
 piv:b.getD c 0 = jU n (units n C) V
 col:∀ c' ∈ C,c' ≠ c → b.getD c' 0 = 0
theorem zC.eq {n:Nat} {C:List Nat} {V:List (List Int)} {c:Nat} {b b':List Int} (hC:∀ c ∈ C,c < n) (hd:jU n (units n C) V ≠ 0) (h:zC n C V c b) (h':zC n C V c b'):b = b':=by
 refine YK hC hd h.len h'.len ?_ fun c' hc => ?_
 ·refine Sp.comb 1 (-1) h.sp h'.sp (dO ..) fun k => ?_
  by_cases hk:k < n
  ·rw [gV _ hk]; grind
  ·rw [jA (by rw [dO]; omega),jA (by rw [h.len]; omega),jA (by rw [h'.len]; omega)]; rfl
 ·by_cases e:c' = c
  ·rw [e,h.piv,h'.piv]
  ·rw [h.col c' hc e,h'.col c' hc e]
theorem aAM {n:Nat} {u:List Int} (hu:u.length = n):∀ (U1 U2:List (List Int)),ku n (U1 ++ U2) → ∃ s:Int,s * s = 1 ∧ ∀ x:Ext,sc n (ct (U1 ++ u :: U2) x) = s * sc n (ct (u :: (U1 ++ U2)) x)
 | [],U2,_ => ⟨1,rfl,fun x => by rw [Int.one_mul]; rfl⟩
 | w :: U1,U2,hU => by
  obtain ⟨s,h1,h2⟩:=aAM hu U1 U2 hU.tail
  refine ⟨-s,by grind,fun x => ?_⟩
  have e1:sc n (ct (w :: U1 ++ u :: U2) x) = s * sc n (ct (u :: (U1 ++ U2)) (con w x)):=h2 (con w x)
  have hF:=kK.ct (kK.sc n) (U1 ++ U2)
  have hw:w.length = n:=hU w List.mem_cons_self
  have e2:=hF.congr (con u (con w x)) (fun m => - con w (con u x) m) fun m hm => L9 u w x m (by omega) (by omega)
  have e3:sc n (ct (u :: (U1 ++ U2)) (con w x)) = - sc n (ct (u :: (w :: U1 ++ U2)) x):=e2.trans (hF.neg _)
  rw [e1,e3]
  grind
theorem ZU {n:Nat} {C1 C2:List Nat} {c:Nat} {V:List (List Int)} (hC:∀ k ∈ C1 ++ c :: C2,k < n) (hnd:(C1 ++ c :: C2).Nodup) (hV:ku n V) :
  ∃ s:Int,s * s = 1 ∧ zC n (C1 ++ c :: C2) V c (vec n fun k => s * jU n (units n (k :: (C1 ++ C2))) V):=by
 have hcn:c < n:=hC c (by simp)
 have hl:ku n (units n C1 ++ units n C2):=fun u hu => by
  rcases List.mem_append.1 hu with h | h
  ·exact yB _ _ u h
  ·exact yB _ _ u h
 obtain ⟨s,h1,h2⟩:=aAM (ru n c) (units n C1) (units n C2) hl
 have hu:units n (C1 ++ C2) = units n C1 ++ units n C2:=by simp [units]
 refine ⟨s,h1,dO ..,?_,?_,fun c' hc' hne => ?_⟩
 ·have h:=Sp.Yh V (fun y => sc n (ct (units n (C1 ++ C2)) y)) hV ((kK.sc n).ct _)
  refine Sp.comb s 0 h h (dO ..) fun k => ?_
  by_cases hk:k < n
  ·rw [gV _ hk,gV _ hk]
   show s * jU n (units n (k :: (C1 ++ C2))) V = s * jU n (units n (k :: (C1 ++ C2))) V + 0 * _
   grind
  ·rw [jA (by rw [dO]; omega),jA (by rw [dO]; omega)]; simp
 ·rw [gV _ hcn]
  have:=h2 (om V)
  have e:units n (C1 ++ c :: C2) = units n C1 ++ unit n c :: units n C2:=by simp [units]
  show s * sc n (ct (units n (c :: (C1 ++ C2))) (om V)) = sc n (ct (units n (C1 ++ c :: C2)) (om V))
  rw [e,this]
  show s * sc n (ct (unit n c :: units n (C1 ++ C2)) (om V)) = _
  rw [hu]
 ·have hcn':=hC c' hc'
  rw [gV _ hcn']
  have hm:c' ∈ C1 ++ C2:=by
   simp only [List.mem_append,List.mem_cons] at hc' ⊢
   rcases hc' with h | h | h
   ·exact .inl h
   ·exact absurd h hne
   ·exact .inr h
  have:jU n (units n (c' :: (C1 ++ C2))) V = 0:=MB (ru n c') (units n (C1 ++ C2)) (om V) (yB n _) (List.mem_map.2 ⟨c',hm,rfl⟩)
  rw [this,Int.mul_zero]
theorem aD5 {n:Nat} {f g:Nat → Int} (h:∀ k,k < n → f k = g k):vec n f = vec n g:=yx (dO ..) (dO ..) fun k hk => by rw [gV _ hk,gV _ hk,h k hk]
theorem aD6 {n:Nat} {v:List Int} (h:v.length = n):vec n (fun k => v.getD k 0) = v:=yx (dO ..) h fun k hk => gV _ hk
theorem Sp.Gg {n:Nat} {V:List (List Int)} {f g h:Nat → Int} (a b:Int) (hf:Sp n V (vec n f)) (hg:Sp n V (vec n g)) (e:∀ k,k < n → h k = a * f k + b * g k):Sp n V (vec n h) :=
 Sp.comb a b hf hg (dO ..) fun k => by
  by_cases hk:k < n
  ·rw [gV _ hk,gV _ hk,gV _ hk,e k hk]
  ·rw [jA (by rw [dO]; omega),jA (by rw [dO]; omega),jA (by rw [dO]; omega)]; simp
theorem Sp.self {n:Nat} {V:List (List Int)} {v:List Int} (h:Sp n V v):Sp n V (vec n fun k => v.getD k 0):=by rw [aD6 h.1]; exact h
theorem Sp.aL8 {n:Nat} {V:List (List Int)} {v:List Int} (hv:v.length = n) (h:Sp n V (vec n fun k => v.getD k 0)):Sp n V v:=by rwa [aD6 hv] at h
section
variable {n c:Nat} {C:List Nat} {V:List (List Int)} {p:List Int}
theorem QM (hV:ku n V) (hp:p.length = n):ku n (p :: V):=fun v hv => by
 rcases List.mem_cons.1 hv with rfl | h
 ·exact hp
 ·exact hV v h
theorem YU (hc:c < n) (hV:ku n V) (hp:p.length = n):zC n (c :: C) (p :: V) c (jQ n C V p):=by
 have hP:=Ai (C:=C) hV hp
 refine ⟨hP.len,?_,?_,fun c' hc' hne => ?_⟩
 ·refine Sp.aL8 hP.len (Sp.Gg 1 (jU n (units n C) V) (Sp.cons hP.sp hp) (Sp.mem (QM hV hp) List.mem_cons_self).self fun k _ => by grind)
 ·rw [Qe hc]
 ·rcases List.mem_cons.1 hc' with h | h
  ·exact absurd h hne
  ·exact hP.col c' h
theorem aDe (hC:∀ k ∈ C,k < n) (hc:c < n) (hV:ku n V) (hp:p.length = n) (hd':(jQ n C V p).getD c 0 ≠ 0) {x:List Int} (hx:x.length = n) (k:Nat) (hk:k < n) :
  jU n (units n C) V * (jQ n (c :: C) (p :: V) x).getD k 0 = (jQ n C V p).getD c 0 * (jQ n C V x).getD k 0 - (jQ n C V x).getD c 0 * (jQ n C V p).getD k 0:=by
 have hA:=Ai (C:=C) hV hx
 have hP:=Ai (C:=C) hV hp
 have hV':=QM hV hp
 have hA':=Ai (C:=c :: C) hV' hx
 have hB:=YU (C:=C) hc hV hp
 have hd:=Qe (C:=C) (V:=V) (p:=p) hc
 have hC':∀ k ∈ c :: C,k < n:=fun k hk => by
  rcases List.mem_cons.1 hk with rfl | h
  ·exact hc
  ·exact hC k h
 have hs:=hA'.sp
 rw [hd] at hs
 have key:=YK (a:=vec n fun k => jU n (units n C) V * (jQ n (c :: C) (p :: V) x).getD k 0) (b:=vec n fun k => (jQ n C V p).getD c 0 * (jQ n C V x).getD k 0 - (jQ n C V x).getD c 0 * (jQ n C V p).getD k 0)
  (n:=n) (C:=c :: C) (V:=p :: V) hC' (by rw [hd]; exact hd') (dO ..) (dO ..) (by
   refine Sp.Gg 1 1 (Sp.Gg (h:=fun k => jU n (units n C) V * (jQ n (c :: C) (p :: V) x).getD k 0 - (jQ n C V p).getD c 0 * (jQ n C V x).getD k 0) (jU n (units n C) V) (-(jQ n C V p).getD c 0) hs (Sp.cons hA.sp hp) fun k _ => by grind)
    (Sp.Gg (h:=fun k => (jQ n C V x).getD c 0 * (jQ n C V p).getD k 0) ((jQ n C V x).getD c 0) 0 hB.sp.self hB.sp.self fun k _ => by grind) fun k hk => ?_
   rw [gV _ hk,gV _ hk]
   grind) (fun c' hc' => by
   have hcn:=hC' c' hc'
   rw [gV _ hcn,gV _ hcn,hA'.col c' hc']
   rcases List.mem_cons.1 hc' with rfl | h
   ·grind
   ·rw [hA.col c' h,hP.col c' h]; grind)
 have:=congrArg (fun v => v.getD k 0) key
 simpa only [gV _ hk] using this
theorem aLQ (hC:∀ k ∈ C,k < n) (hc:c < n) (hcC:c ∉ C) (hV:ku n V) (hp:p.length = n) (hd':(jQ n C V p).getD c 0 ≠ 0) {c0:Nat} (hc0:c0 ∈ C) {b b':List Int} (hb:zC n C V c0 b) (hb':zC n (c :: C) (p :: V) c0 b') (k:Nat) (hk:k < n) :
  jU n (units n C) V * b'.getD k 0 = (jQ n C V p).getD c 0 * b.getD k 0 - b.getD c 0 * (jQ n C V p).getD k 0:=by
 have hP:=Ai (C:=C) hV hp
 have hB:=YU (C:=C) hc hV hp
 have hd:=Qe (C:=C) (V:=V) (p:=p) hc
 have hC':∀ k ∈ c :: C,k < n:=fun k hk => by
  rcases List.mem_cons.1 hk with rfl | h
  ·exact hc
  ·exact hC k h
 have aHZ:c ≠ c0:=fun e => hcC (e ▸ hc0)
 have key:=YK (a:=vec n fun k => jU n (units n C) V * b'.getD k 0) (b:=vec n fun k => (jQ n C V p).getD c 0 * b.getD k 0 - b.getD c 0 * (jQ n C V p).getD k 0)
  (n:=n) (C:=c :: C) (V:=p :: V) hC' (by rw [hd]; exact hd') (dO ..) (dO ..) (by
   refine Sp.Gg 1 1 (Sp.Gg (h:=fun k => jU n (units n C) V * b'.getD k 0 - (jQ n C V p).getD c 0 * b.getD k 0) (jU n (units n C) V) (-(jQ n C V p).getD c 0) hb'.sp.self (Sp.cons hb.sp hp).self fun k _ => by grind)
    (Sp.Gg (h:=fun k => b.getD c 0 * (jQ n C V p).getD k 0) (b.getD c 0) 0 hB.sp.self hB.sp.self fun k _ => by grind) fun k hk => ?_
   rw [gV _ hk,gV _ hk]
   grind) (fun c' hc' => by
   have hcn:=hC' c' hc'
   rw [gV _ hcn,gV _ hcn]
   rcases List.mem_cons.1 hc' with rfl | h
   ·rw [hb'.col c' List.mem_cons_self aHZ]; grind
   ·by_cases e:c' = c0
    ·subst e
     rw [hb'.piv,hb.piv,hP.col c' h,hd]; grind
    ·rw [hb'.col c' hc' e,hb.col c' h e,hP.col c' h]; grind)
 have:=congrArg (fun v => v.getD k 0) key
 simpa only [gV _ hk] using this
end
theorem X5 {n:Nat}:∀ (C:List Nat),(∀ c ∈ C,c < n) → rZ (units n C) = 1
 | [],_ => rfl
 | c :: C,h => by
  show dot (unit n c) (unit n c) * rZ (units n C) = 1
  rw [aGN (h c List.mem_cons_self),X5 C fun k hk => h k (List.mem_cons_of_mem _ hk)]
  rfl
theorem aGH {n:Nat} {C:List Nat} {V:List (List Int)} (hC:∀ c ∈ C,c < n) (hV:ku n V):jU n (units n C) V * jU n (units n C) V ≤ rZ V:=by
 have:=aAt n (units n C) V (yB n C) hV
 rw [X5 C hC,Int.one_mul] at this
 exact this
end
abbrev fM:=List (List Int)
def at2 (a:fM) (i k:Nat):Int:=(a.getD i []).getD k 0
def zl (a:fM) (r c:Nat):Option Nat:=(List.range' r (a.length - r)).find? fun p => at2 a p c != 0
def fQ (a:fM) (r p:Nat):fM:=(a.set r (a.getD p [])).set p (a.getD r [])
def elim (n:Nat) (d f last:Int) (row piv:List Int):List Int:=vec n fun k => Int.tdiv (d * row.getD k 0 - f * piv.getD k 0) last
structure BS where
 a:fM
 piv:List Nat
 last:Int
def xJ (n c:Nat) (s:BS):BS :=
 if s.piv.length < s.a.length then
  match zl s.a s.piv.length c with
  | none => s
  | some p =>
   let a:=fQ s.a s.piv.length p
   let d:=at2 a s.piv.length c
   ⟨a.mapIdx fun i row => if i = s.piv.length then row else elim n d (row.getD c 0) s.last row (a.getD s.piv.length []),s.piv ++ [c],d⟩
 else s
def iE (n:Nat) (M:fM):Nat → BS
 | 0 => ⟨M,[],1⟩
 | c + 1 => xJ n c (iE n M c)
theorem TK {a:fM} {r c p:Nat} (h:zl a r c = some p):r ≤ p ∧ p < a.length ∧ at2 a p c ≠ 0 ∧ ∀ j,r ≤ j → j < p → at2 a j c = 0:=by
 unfold zl at h
 obtain ⟨h1,l1,l2,h2,h3⟩:=List.find?_eq_some_iff_append.1 h
 have hm:p ∈ List.range' r (a.length - r):=by rw [h2]; simp
 have hm':=List.mem_range'_1.1 hm
 refine ⟨hm'.1,by omega,by simpa using h1,fun j hj hjp => ?_⟩
 have hlen:l1.length = p - r:=by
  have:(List.range' r (a.length - r))[l1.length]? = some p:=by rw [h2]; simp
  have hl:=congrArg List.length h2
  simp at hl
  rw [List.getElem?_range' (by omega)] at this
  injection this with this; omega
 have hj1:l1[j - r]? = some j:=by
  have:(List.range' r (a.length - r))[j - r]? = some j:=by
   rw [List.getElem?_range' (by omega)]; congr 1; omega
  rw [h2,List.getElem?_append_left (by omega)] at this
  exact this
 have:=h3 j (List.mem_of_getElem? hj1)
 simpa using this
theorem aCm {a:fM} {r c:Nat} (h:zl a r c = none):∀ j,r ≤ j → j < a.length → at2 a j c = 0:=fun j h1 h2 => by
 unfold zl at h
 have:=List.find?_eq_none.1 h j (List.mem_range'_1.2 ⟨h1,by omega⟩)
 simpa using this
theorem oD {α:Type} {l:List α} {i j:Nat} {x d:α} (hi:i < l.length):(l.set i x).getD j d = if i = j then x else l.getD j d:=by
 simp only [List.getD_eq_getElem?_getD,List.getElem?_set]
 by_cases h:i = j
 ·subst h; simp [hi]
 ·simp [h]
theorem EF (a:fM) (r p:Nat):(fQ a r p).length = a.length:=by simp [fQ]
theorem AL {a:fM} {r p:Nat} (hr:r < a.length) (hp:p < a.length) (j:Nat):(fQ a r p).getD j [] = if j = p then a.getD r [] else if j = r then a.getD p [] else a.getD j []:=by
 unfold fQ
 rw [oD (by simpa using hp),oD hr]
 by_cases h1:p = j
 ·subst h1; simp
 ·rw [if_neg h1,if_neg (Ne.symm h1)]
  by_cases h2:r = j
  ·subst h2; simp
  ·rw [if_neg h2,if_neg (Ne.symm h2)]
structure zG (M M':fM):Prop where
 ex:∃ f:Nat → Nat,(∀ i,i < M.length → f i < M.length) ∧ (∀ i j,i < M.length → j < M.length → f i = f j → i = j) ∧ ∀ i,i < M.length → M'.getD i [] = M.getD (f i) []
 len:M'.length = M.length
theorem zG.refl (M:fM):zG M M:=⟨⟨id,fun i h => h,fun i j _ _ h => h,fun i _ => rfl⟩,rfl⟩
theorem zG.swap {M M':fM} (h:zG M M') {r p:Nat} (hr:r < M.length) (hp:p < M.length):zG M (fQ M' r p):=by
 obtain ⟨⟨f,h1,h2,h3⟩,hl⟩:=h
 refine ⟨⟨fun i => f (if i = p then r else if i = r then p else i),fun i hi => h1 _ (by split; exact hr; split; exact hp; exact hi),fun i j hi hj he => ?_,fun i hi => ?_⟩,by rw [EF,hl]⟩
 ·have:=h2 _ _ (by split; exact hr; split; exact hp; exact hi) (by split; exact hr; split; exact hp; exact hj) he
  split at this <;> split at this <;> (try split at this) <;> (try split at this) <;> omega
 ·rw [AL (by omega) (by omega)]
  show _ = M.getD (f (if i = p then r else if i = r then p else i)) []
  by_cases e1:i = p
  ·rw [if_pos e1,if_pos e1]; exact h3 r hr
  ·rw [if_neg e1,if_neg e1]
   by_cases e2:i = r
   ·rw [if_pos e2,if_pos e2]; exact h3 p hp
   ·rw [if_neg e2,if_neg e2]; exact h3 i hi
def jv (M:fM):Nat → fM
 | 0 => []
 | r + 1 => M.getD r [] :: jv M r
theorem YF (M:fM):∀ r,(jv M r).length = r
 | 0 => rfl
 | r + 1 => by simp [jv,YF M r]
theorem YE {M M':fM}:∀ r,(∀ i,i < r → M.getD i [] = M'.getD i []) → jv M r = jv M' r
 | 0,_ => rfl
 | r + 1,h => by
  unfold jv
  rw [h r (by omega),YE r fun i hi => h i (by omega)]
theorem Ti {M:fM} {v:List Int}:∀ {r:Nat},v ∈ jv M r → ∃ i,i < r ∧ v = M.getD i []
 | 0,h => by cases h
 | r + 1,h => by
  rcases List.mem_cons.1 h with h | h
  ·exact ⟨r,by omega,h⟩
  ·obtain ⟨i,h1,h2⟩:=Ti h
   exact ⟨i,by omega,h2⟩
def kT (n:Nat) (M:fM):Prop:=∀ i,i < M.length → (M.getD i []).length = n
theorem zG.rows {M M':fM} {n:Nat} (h:zG M M') (hn:kT n M):kT n M':=fun i hi => by
 obtain ⟨⟨f,h1,h2,h3⟩,hl⟩:=h
 rw [h3 i (by omega)]
 exact hn _ (h1 i (by omega))
theorem Kt {M:fM} {n r:Nat} (hn:kT n M) (hr:r ≤ M.length):ku n (jv M r):=fun v hv => by
 obtain ⟨i,h1,rfl⟩:=Ti hv
 exact hn i (by omega)
structure BInv (n:Nat) (M:fM) (c:Nat) (s:BS) (M':fM):Prop where
 re:zG M M'
 len:s.a.length = M.length
 rl:s.piv.length ≤ M.length
 pc:∀ k ∈ s.piv,k < c
 nd:s.piv.Nodup
 last:jU n (units n s.piv.reverse) (jv M' s.piv.length) = s.last
 nz:s.last ≠ 0
 lo:∀ i,s.piv.length ≤ i → i < M.length → s.a.getD i [] = jQ n s.piv.reverse (jv M' s.piv.length) (M'.getD i [])
 hi:∀ i (h:i < s.piv.length),zC n s.piv.reverse (jv M' s.piv.length) s.piv[i] (s.a.getD i [])
 zero:∀ i,s.piv.length ≤ i → i < M.length → ∀ k,k < c → at2 s.a i k = 0
theorem aFD {n:Nat} {x:List Int} (hx:x.length = n):jQ n [] [] x = x:=yx (dO ..) hx fun k hk => by
 rw [jQ,gV _ hk,VO hx (ru ..),vI hx hk]
 have h1:jU n (units n []) [] = 1:=by
  show one (List.replicate n false) = 1
  simp [one]
 have h2:sc n (ct (units n []) (wed x (con (unit n k) (om [])))) = 0:=Pv n x _
 rw [h1,h2]
 omega
theorem BInv.init {n:Nat} {M:fM} (hn:kT n M):BInv n M 0 (iE n M 0) M:=by
 refine ⟨.refl M,rfl,Nat.zero_le _,fun k hk => (by cases hk),List.nodup_nil,?_,(by show (1:Int) ≠ 0; decide),fun i _ hi => ?_,fun i h => (by cases h),fun i _ _ k hk => (by omega)⟩
 ·show one (List.replicate n false) = 1
  simp [one]
 ·exact (aFD (hn i hi)).symm
theorem aLg {a b c:Int} (ha:a ≠ 0) (h:a * b = c):Int.tdiv c a = b:=by
 rw [← h]
 exact Int.mul_tdiv_cancel_left b ha
theorem Xe {f:Nat → List Int → List Int} {a:fM} {i:Nat} (h:i < a.length):(a.mapIdx f).getD i [] = f i (a.getD i []):=by
 simp [List.getD_eq_getElem?_getD,List.getElem?_mapIdx,List.getElem?_eq_getElem h]
theorem VL {n:Nat} {d f last:Int} {row piv b:List Int} (hl:last ≠ 0) (hb:b.length = n) (h:∀ k,k < n → last * b.getD k 0 = d * row.getD k 0 - f * piv.getD k 0):elim n d f last row piv = b :=
 yx (dO ..) hb fun k hk => by
  rw [elim,gV _ hk]
  exact aLg hl (h k hk)
def Exact (n c:Nat) (s:BS):Prop:=∀ p,zl s.a s.piv.length c = some p → s.piv.length < s.a.length → ∀ i,i < s.a.length → i ≠ s.piv.length → ∀ k,k < n →
 s.last * (elim n (at2 (fQ s.a s.piv.length p) s.piv.length c) (((fQ s.a s.piv.length p).getD i []).getD c 0) s.last ((fQ s.a s.piv.length p).getD i []) ((fQ s.a s.piv.length p).getD s.piv.length [])).getD k 0 =
  at2 (fQ s.a s.piv.length p) s.piv.length c * ((fQ s.a s.piv.length p).getD i []).getD k 0 - ((fQ s.a s.piv.length p).getD i []).getD c 0 * ((fQ s.a s.piv.length p).getD s.piv.length []).getD k 0
theorem aAR {n:Nat} {d f last:Int} {row piv b:List Int} (hl:last ≠ 0) (hb:b.length = n) (h:∀ k,k < n → last * b.getD k 0 = d * row.getD k 0 - f * piv.getD k 0) (k:Nat) (hk:k < n):last * (elim n d f last row piv).getD k 0 = d * row.getD k 0 - f * piv.getD k 0:=by
 rw [VL hl hb h]
 exact h k hk
theorem BInv.step {n:Nat} {M:fM} {c:Nat} {s:BS} {M':fM} (hn:kT n M) (hc:c < n) (h:BInv n M c s M'):(∃ M'',BInv n M (c + 1) (xJ n c s) M'') ∧ Exact n c s:=by
 unfold xJ
 split
 ·rename_i hlt
  rw [h.len] at hlt
  split
  ·rename_i hp
   refine ⟨⟨M',h.re,h.len,h.rl,fun k hk => by have:=h.pc k hk; omega,h.nd,h.last,h.nz,h.lo,h.hi,fun i h1 h2 k hk => ?_⟩,fun p hp' => by rw [hp] at hp'; cases hp'⟩
   by_cases e:k = c
   ·subst e; exact aCm hp i h1 (by rw [h.len]; exact h2)
   ·exact h.zero i h1 h2 k (by omega)
  ·rename_i p hp
   obtain ⟨p1,p2,p3,p4⟩:=TK hp
   rw [h.len] at p2
   -- names
   have hre:=h.re.swap hlt p2
   have hn':=h.re.rows hn
   have WH:=hre.rows hn
   have hml:M'.length = M.length:=h.re.len
   generalize hV:jv M' s.piv.length = V at *
   have hV2:jv (fQ M' s.piv.length p) s.piv.length = V:=by
    rw [← hV]
    exact YE _ fun i hi => by rw [AL (by omega) (by omega),if_neg (by omega),if_neg (by omega)]
   have Ar:ku n V:=by rw [← hV]; exact Kt hn' (by omega)
   have hC:∀ k ∈ s.piv.reverse,k < n:=fun k hk => by have:=h.pc k (by simpa using hk); omega
   have hcC:c ∉ s.piv.reverse:=fun hk => by have:=h.pc c (by simpa using hk); omega
   have hd:=h.last
   have hnz:=h.nz
   have hlo:=h.lo
   have hhi:=h.hi
   rw [hV] at hd
   simp only [hV] at hlo hhi
   -- the pivot's row
   generalize hP:M'.getD p [] = P
   have hPl:P.length = n:=by rw [← hP]; exact hn' p (by omega)
   have hap:s.a.getD p [] = jQ n s.piv.reverse V P:=by rw [← hP]; exact hlo p p1 p2
   have hsw:∀ i,i < M.length → (fQ s.a s.piv.length p).getD i [] = if i = p then s.a.getD s.piv.length [] else if i = s.piv.length then s.a.getD p [] else s.a.getD i []:=fun i hi => AL (by rw [h.len]; exact hlt) (by rw [h.len]; exact p2) i
   have Wn:∀ i,(fQ M' s.piv.length p).getD i [] = if i = p then M'.getD s.piv.length [] else if i = s.piv.length then M'.getD p [] else M'.getD i []:=fun i => AL (by omega) (by omega) i
   have hlow:∀ i,s.piv.length ≤ i → i < M.length → (fQ s.a s.piv.length p).getD i [] = jQ n s.piv.reverse V ((fQ M' s.piv.length p).getD i []):=fun i h1 h2 => by
    rw [hsw i h2,Wn i]
    split
    ·exact hlo s.piv.length (Nat.le_refl _) hlt
    ·split
     ·exact hlo p p1 p2
     ·exact hlo i h1 h2
   have har:(fQ s.a s.piv.length p).getD s.piv.length [] = jQ n s.piv.reverse V P:=by
    rw [hlow s.piv.length (Nat.le_refl _) hlt,Wn s.piv.length,← hP]
    by_cases e:s.piv.length = p
    ·rw [if_pos e,e]
    ·rw [if_neg e,if_pos rfl]
   have hMr:(fQ M' s.piv.length p).getD s.piv.length [] = P:=by
    rw [Wn s.piv.length,← hP]
    by_cases e:s.piv.length = p
    ·rw [if_pos e,e]
    ·rw [if_neg e,if_pos rfl]
   have hdv:at2 (fQ s.a s.piv.length p) s.piv.length c = (jQ n s.piv.reverse V P).getD c 0:=by unfold at2; rw [har]
   have hdn:(jQ n s.piv.reverse V P).getD c 0 ≠ 0:=by
    have:at2 s.a p c ≠ 0:=p3
    unfold at2 at this
    rwa [hap] at this
   have Vl:jv (fQ M' s.piv.length p) (s.piv ++ [c]).length = P :: V:=by
    rw [List.length_append,List.length_singleton]
    show (fQ M' s.piv.length p).getD s.piv.length [] :: jv (fQ M' s.piv.length p) s.piv.length = _
    rw [hMr,hV2]
   have Ve:(s.piv ++ [c]).reverse = c :: s.piv.reverse:=by simp
   have hlen':(s.piv ++ [c]).length = s.piv.length + 1:=by simp
   have hget:∀ i,i < M.length → ((fQ s.a s.piv.length p).mapIdx fun i row => if i = s.piv.length then row else elim n (at2 (fQ s.a s.piv.length p) s.piv.length c) (row.getD c 0) s.last row ((fQ s.a s.piv.length p).getD s.piv.length [])).getD i [] =
     if i = s.piv.length then (fQ s.a s.piv.length p).getD i [] else elim n (at2 (fQ s.a s.piv.length p) s.piv.length c) (((fQ s.a s.piv.length p).getD i []).getD c 0) s.last ((fQ s.a s.piv.length p).getD i []) ((fQ s.a s.piv.length p).getD s.piv.length []):=fun i hi => Xe (by rw [EF,h.len]; exact hi)
   have aHa:jU n (units n (c :: s.piv.reverse)) (P :: V) = at2 (fQ s.a s.piv.length p) s.piv.length c:=by rw [Qe hc,hdv]
   have aA2:∀ i,s.piv.length + 1 ≤ i → i < M.length → elim n (at2 (fQ s.a s.piv.length p) s.piv.length c) (((fQ s.a s.piv.length p).getD i []).getD c 0) s.last ((fQ s.a s.piv.length p).getD i []) ((fQ s.a s.piv.length p).getD s.piv.length []) = jQ n (c :: s.piv.reverse) (P :: V) ((fQ M' s.piv.length p).getD i []):=fun i h1 h2 => by
    refine VL hnz (dO ..) fun k hk => ?_
    rw [hlow i (by omega) h2,har,hdv,← hd]
    exact aDe hC hc Ar hPl hdn (WH i (by rw [EF]; omega)) k hk
   have aAx:∀ i (hir:i < s.piv.length),∃ b,zC n (c :: s.piv.reverse) (P :: V) s.piv[i] b ∧ ∀ k,k < n → s.last * b.getD k 0 = at2 (fQ s.a s.piv.length p) s.piv.length c * (s.a.getD i []).getD k 0 - (s.a.getD i []).getD c 0 * ((fQ s.a s.piv.length p).getD s.piv.length []).getD k 0:=fun i hir => by
    have hb:=hhi i hir
    -- the row of the pivot in the next stage
    obtain ⟨C1,C2,hsp⟩:∃ C1 C2,c :: s.piv.reverse = C1 ++ s.piv[i] :: C2:=by
     have:s.piv[i] ∈ c :: s.piv.reverse:=List.mem_cons_of_mem _ (by simp)
     exact List.append_of_mem this
    have hC':∀ k ∈ c :: s.piv.reverse,k < n:=fun k hk => by
     rcases List.mem_cons.1 hk with rfl | hk
     ·exact hc
     ·exact hC k hk
    have hnd':(c :: s.piv.reverse).Nodup:=List.nodup_cons.2 ⟨hcC,List.pairwise_reverse.2 (h.nd.imp fun h => h.symm)⟩
    obtain ⟨sg,_,hbr⟩:=ZU (V:=P :: V) (n:=n) (C1:=C1) (C2:=C2) (c:=s.piv[i]) (by rw [← hsp]; exact hC') (by rw [← hsp]; exact hnd') (QM Ar hPl)
    rw [← hsp] at hbr
    refine ⟨_,hbr,fun k hk => ?_⟩
    rw [har,hdv,← hd]
    exact aLQ hC hc hcC Ar hPl hdn (by simp) hb hbr k hk
   have hai:∀ i,i < s.piv.length → (fQ s.a s.piv.length p).getD i [] = s.a.getD i []:=fun i hir => by rw [hsw i (by omega),if_neg (by omega),if_neg (by omega)]
   refine ⟨?_,fun p' hp' _ i hi hne k hk => ?_⟩
   rotate_left
   ·have:p' = p:=by rw [hp] at hp'; injection hp' with hp'; exact hp'.symm
    subst this
    rw [h.len] at hi
    by_cases hir:i < s.piv.length
    ·obtain ⟨b,hb1,hb2⟩:=aAx i hir
     rw [hai i hir]
     exact aAR hnz hb1.len hb2 k hk
    ·refine aAR hnz (dO n fun k => ent n (units n (c :: s.piv.reverse)) (P :: V) ((fQ M' s.piv.length p').getD i []) (unit n k)) (fun k hk => ?_) k hk
     rw [hlow i (by omega) hi,har,hdv,← hd]
     exact aDe hC hc Ar hPl hdn (WH i (by rw [EF]; omega)) k hk
   refine ⟨fQ M' s.piv.length p,hre,by rw [List.length_mapIdx,EF,h.len],by rw [hlen']; omega,fun k hk => ?_,?_,?_,?_,fun i h1 h2 => ?_,fun i hi => ?_,fun i h1 h2 k hk => ?_⟩
   ·rcases List.mem_append.1 hk with hk | hk
    ·have:=h.pc k hk; omega
    ·have:k = c:=by simpa using hk
     omega
   ·refine List.nodup_append.2 ⟨h.nd,by simp,fun a ha b hb => ?_⟩
    have:b = c:=by simpa using hb
    subst this
    have:=h.pc a ha
    omega
   ·show jU n (units n (s.piv ++ [c]).reverse) (jv (fQ M' s.piv.length p) (s.piv ++ [c]).length) = _
    rw [Vl,Ve,aHa]
   ·show at2 (fQ s.a s.piv.length p) s.piv.length c ≠ 0
    rw [hdv]; exact hdn
   ·rw [hlen'] at h1
    show ((fQ s.a s.piv.length p).mapIdx _).getD i [] = jQ n (s.piv ++ [c]).reverse (jv (fQ M' s.piv.length p) (s.piv ++ [c]).length) _
    rw [Vl,Ve,hget i h2,if_neg (by omega)]
    exact aA2 i h1 h2
   ·show zC n (s.piv ++ [c]).reverse (jv (fQ M' s.piv.length p) (s.piv ++ [c]).length) (s.piv ++ [c])[i] (((fQ s.a s.piv.length p).mapIdx _).getD i [])
    rw [Vl,Ve]
    have hi':i < s.piv.length + 1:=by rw [← hlen']; exact hi
    rw [hget i (by omega)]
    by_cases e:i = s.piv.length
    ·subst e
     have:(s.piv ++ [c])[s.piv.length] = c:=by simp
     rw [this,if_pos rfl,har]
     exact YU hc Ar hPl
    ·have hir:i < s.piv.length:=by omega
     have Q8:i < s.piv.length:=by omega
     have e1:(s.piv ++ [c])[i] = s.piv[i]:=List.getElem_append_left Q8
     rw [e1,if_neg e]
     obtain ⟨b,hb1,hb2⟩:=aAx i hir
     rw [hai i hir,VL hnz hb1.len hb2]
     exact hb1
   ·rw [hlen'] at h1
    show (((fQ s.a s.piv.length p).mapIdx _).getD i []).getD k 0 = 0
    rw [hget i h2,if_neg (by omega)]
    by_cases e:k = c
    ·subst e
     rw [aA2 i h1 h2]
     exact (Ai (C:=k :: s.piv.reverse) (QM Ar hPl) (WH i (by rw [EF]; omega))).col k List.mem_cons_self
    ·have hz:∀ j,s.piv.length ≤ j → j < M.length → ((fQ s.a s.piv.length p).getD j []).getD k 0 = 0:=fun j j1 j2 => by
      rw [hsw j j2]
      split
      ·exact h.zero s.piv.length (by omega) hlt k (by omega)
      ·split
       ·exact h.zero p (by omega) p2 k (by omega)
       ·exact h.zero j (by omega) j2 k (by omega)
     rw [elim,gV _ (by omega),hz i (by omega) h2,hz s.piv.length (Nat.le_refl _) hlt]
     simp
 ·rename_i hlt
  rw [h.len] at hlt
  refine ⟨⟨M',h.re,h.len,h.rl,fun k hk => by have:=h.pc k hk; omega,h.nd,h.last,h.nz,h.lo,h.hi,fun i h1 h2 k hk => by omega⟩,fun p _ hl => absurd (by rw [h.len] at hl; exact hl) hlt⟩
theorem yM {n:Nat} {M:fM} (hn:kT n M):∀ c,c ≤ n → ∃ M',BInv n M c (iE n M c) M'
 | 0,_ => ⟨M,BInv.init hn⟩
 | c + 1,hc => by
  obtain ⟨M',h⟩:=yM hn c (by omega)
  exact (h.step hn (by omega)).1
theorem aFH {n:Nat} {M:fM} (hn:kT n M) {c:Nat} (hc:c < n):Exact n c (iE n M c):=by
 obtain ⟨M',h⟩:=yM hn c (by omega)
 exact (h.step hn hc).2
theorem dot_comm:∀ u v:List Int,dot u v = dot v u
 | [],[] => rfl
 | [],_ :: _ => rfl
 | _ :: _,[] => rfl
 | a :: u,b :: v => by
  show a * b + dot u v = b * a + dot v u
  rw [dot_comm u v,Int.mul_comm]
theorem zL:∀ (u y:List Int) (i:Nat) (x:Int),i < u.length → u.length ≤ y.length → dot (u.set i x) y = dot u y + (x - u.getD i 0) * y.getD i 0
 | [],_,_,_,h,_ => by cases h
 | _ :: _,[],_,_,_,h => by simp at h
 | a :: u,b :: y,0,x,_,_ => by
  show x * b + dot u y = a * b + dot u y + (x - a) * b
  grind
 | a :: u,b :: y,i + 1,x,h1,h2 => by
  have:=zL u y i x (by simpa using h1) (by simpa using h2)
  show a * b + dot (u.set i x) y = a * b + dot u y + (x - u.getD i 0) * y.getD i 0
  rw [this]
  omega
theorem VI:∀ (n:Nat) (y:List Int),dot (List.replicate n 0) y = 0
 | 0,_ => by cases ‹List Int› <;> rfl
 | n + 1,[] => rfl
 | n + 1,b :: y => by
  show 0 * b + dot (List.replicate n 0) y = 0
  rw [VI n y]; omega
theorem HY (a b:Int):∀ (u v y x:List Int),u.length = y.length → v.length = y.length → (∀ k:Nat,y.getD k 0 = a * u.getD k 0 + b * v.getD k 0) → dot y x = a * dot u x + b * dot v x
 | [],[],[],x,_,_,_ => by cases x <;> simp [dot]
 | t :: u,s :: v,r :: y,[],_,_,_ => by simp [dot]
 | t :: u,s :: v,r :: y,c :: x,h1,h2,h3 => by
  have ih:=HY a b u v y x (by simpa using h1) (by simpa using h2) fun k => by simpa using h3 (k + 1)
  have h0:r = a * t + b * s:=by simpa using h3 0
  show r * c + dot y x = a * (t * c + dot u x) + b * (s * c + dot v x)
  rw [ih,h0]
  grind
 | [],_ :: _,[],_,_,h,_ => by cases h
 | _ :: _,[],[],_,h,_,_ => by cases h
 | _ :: _,_ :: _,[],_,h,_,_ => by cases h
 | [],_,_ :: _,_,h,_,_ => by cases h
 | _ :: _,[],_ :: _,_,_,h,_ => by cases h
theorem Qb (a b:Int):∀ (u v y:List Int) (x:Ext) (m:List Bool),u.length = y.length → v.length = y.length → (∀ k:Nat,y.getD k 0 = a * u.getD k 0 + b * v.getD k 0) → con y x m = a * con u x m + b * con v x m
 | [],[],[],x,m,_,_,_ => by simp [con]
 | t :: u,s :: v,r :: y,x,[],_,_,_ => by simp [con]
 | t :: u,s :: v,r :: y,x,false :: m,h1,h2,h3 => by
  have ih:=Qb a b u v y (fun m => x (false :: m)) m (by simpa using h1) (by simpa using h2) fun k => by simpa using h3 (k + 1)
  have h0:r = a * t + b * s:=by simpa using h3 0
  show con y (fun m => x (false :: m)) m + r * x (true :: m) = a * (con u (fun m => x (false :: m)) m + t * x (true :: m)) + b * (con v (fun m => x (false :: m)) m + s * x (true :: m))
  rw [ih,h0]
  grind
 | t :: u,s :: v,r :: y,x,true :: m,h1,h2,h3 => by
  have ih:=Qb a b u v y (fun m => x (true :: m)) m (by simpa using h1) (by simpa using h2) fun k => by simpa using h3 (k + 1)
  show - con y (fun m => x (true :: m)) m = a * (- con u (fun m => x (true :: m)) m) + b * (- con v (fun m => x (true :: m)) m)
  rw [ih]
  grind
 | [],_ :: _,[],_,_,_,h,_ => by cases h
 | _ :: _,[],[],_,_,h,_,_ => by cases h
 | _ :: _,_ :: _,[],_,_,h,_,_ => by cases h
 | [],_,_ :: _,_,_,h,_,_ => by cases h
 | _ :: _,[],_ :: _,_,_,_,h,_ => by cases h
def alt {β:Type}:List Int → List β → (List β → Int) → Int
 | d :: ds,v :: V,f => d * f V - alt ds V fun W => f (v :: W)
 | _,_,_ => 0
theorem Us {β γ:Type} (g:β → γ):∀ (ds:List Int) (Z:List β) (f:List γ → Int),alt ds (Z.map g) f = alt ds Z fun W => f (W.map g)
 | [],[],f => rfl
 | [],_ :: _,f => rfl
 | _ :: _,[],f => rfl
 | d :: ds,z :: Z,f => by
  show d * f (Z.map g) - alt ds (Z.map g) (fun W => f (g z :: W)) = d * f (Z.map g) - alt ds Z (fun W => f (g z :: W.map g))
  rw [Us g ds Z]
theorem ZC {β:Type}:∀ (ds:List Int) (Z:List β) (f f':List β → Int),(∀ W,(∀ z ∈ W,z ∈ Z) → f W = f' W) → alt ds Z f = alt ds Z f'
 | [],[],f,f',_ => rfl
 | [],_ :: _,f,f',_ => rfl
 | _ :: _,[],f,f',_ => rfl
 | d :: ds,z :: Z,f,f',h => by
  show d * f Z - alt ds Z (fun W => f (z :: W)) = d * f' Z - alt ds Z (fun W => f' (z :: W))
  rw [h Z fun x hx => List.mem_cons_of_mem _ hx,ZC ds Z _ _ fun W hW => h (z :: W) fun x hx => by
   rcases List.mem_cons.1 hx with rfl | hx
   ·exact List.mem_cons_self
   ·exact List.mem_cons_of_mem _ (hW x hx)]
theorem VD {n:Nat} {u:List Int} (hu:u.length = n):∀ (V:List (List Int)) (F:Ext → Int),ku n V → kK n F → F (con u (om V)) = alt (V.map (dot u)) V fun W => F (om W)
 | [],F,_,hF => hF.zero _ fun m _ => Qa u m
 | v :: V,F,hV,hF => by
  have ih:=VD hu V (fun x => F (wed v x)) hV.tail (hF.wed v)
  have e:=hF.congr (con u (om (v :: V))) (fun m => dot u v * om V m - wed v (con u (om V)) m) fun m hm => by
   have:=Ap u v (om V) m (by omega) (by rw [hV.head,hm])
   show con u (wed v (om V)) m = _
   omega
  rw [e,hF.sub,ih]
  rfl
theorem aAr {n N:Nat}:∀ (UU VV:List (List Int × List Int)),(∀ u ∈ UU,u.1.length = n ∧ u.2.length = N) → (∀ v ∈ VV,v.1.length = n ∧ v.2.length = N) → (∀ u ∈ UU,∀ v ∈ VV,dot u.1 v.1 = dot u.2 v.2) →
  jU n (UU.map (·.1)) (VV.map (·.1)) = jU N (UU.map (·.2)) (VV.map (·.2))
 | [],[],_,_,_ => by
  show one (List.replicate n false) = one (List.replicate N false)
  simp [one]
 | [],v :: VV,_,_,_ => by
  show wed v.1 (om (VV.map (·.1))) (List.replicate n false) = wed v.2 (om (VV.map (·.2))) (List.replicate N false)
  rw [Pv,Pv]
 | u :: UU,VV,hU,hV,h => by
  have h1:=VD (hU u List.mem_cons_self).1 (VV.map (·.1)) (fun x => sc n (ct (UU.map (·.1)) x)) (fun v hv => by
   obtain ⟨z,hz,rfl⟩:=List.mem_map.1 hv
   exact (hV z hz).1) ((kK.sc n).ct _)
  have h2:=VD (hU u List.mem_cons_self).2 (VV.map (·.2)) (fun x => sc N (ct (UU.map (·.2)) x)) (fun v hv => by
   obtain ⟨z,hz,rfl⟩:=List.mem_map.1 hv
   exact (hV z hz).2) ((kK.sc N).ct _)
  show sc n (ct (UU.map (·.1)) (con u.1 (om (VV.map (·.1))))) = sc N (ct (UU.map (·.2)) (con u.2 (om (VV.map (·.2)))))
  rw [h1,h2,Us,Us]
  have e:(VV.map (·.1)).map (dot u.1) = (VV.map (·.2)).map (dot u.2):=by
   rw [List.map_map,List.map_map]
   exact List.map_congr_left fun v hv => h u List.mem_cons_self v hv
  rw [e]
  exact ZC _ _ _ _ fun W hW => aAr UU W (fun x hx => hU x (List.mem_cons_of_mem _ hx)) (fun v hv => hV v (hW v hv)) fun x hx v hv => h x (List.mem_cons_of_mem _ hx) v (hW v hv)
theorem aAJ {n:Nat} {y:List Int} (hy:y.length = n):∀ (V:List (List Int)),ku n V → (∀ v ∈ V,dot y v = 0) → ∀ m:List Bool,m.length = n → con y (om V) m = 0
 | [],_,_,m,_ => Qa y m
 | v :: V,hV,h,m,hm => by
  have ih:=aAJ hy V hV.tail fun v hv => h v (List.mem_cons_of_mem _ hv)
  have h1:=Ap y v (om V) m (by omega) (by rw [hV.head,hm])
  rw [h v List.mem_cons_self,QB v (con y (om V)) m fun k hk => ih k (by omega)] at h1
  show con y (wed v (om V)) m = 0
  omega
def On (y:List Int) (L:List Nat):Prop:=∀ k,k ∉ L → y.getD k 0 = 0
theorem On.split {n c:Nat} {y:List Int} {L:List Nat} (hy:y.length = n) (hc:c < n) (h:On y (c :: L)):On (y.set c 0) L ∧ ∀ k:Nat,y.getD k 0 = y.getD c 0 * (unit n c).getD k 0 + 1 * (y.set c 0).getD k 0:=by
 have hu:∀ k,(unit n c).getD k 0 = if k = c then 1 else 0:=fun k => by
  by_cases hk:k < n
  ·rw [show unit n c = vec n fun i => if i = c then 1 else 0 from rfl,gV _ hk]
  ·rw [jA (by rw [ru]; omega),if_neg (by omega)]
 refine ⟨fun k hk => ?_,fun k => ?_⟩
 ·rw [oD (by omega)]
  by_cases e:c = k
  ·rw [if_pos e]
  ·rw [if_neg e]
   exact h k (by simp [hk,Ne.symm e])
 ·rw [hu,oD (by omega)]
  by_cases e:k = c
  ·subst e; simp
  ·rw [if_neg e,if_neg (Ne.symm e)]; omega
theorem On.nil {y:List Int} (h:On y []) (k:Nat):y.getD k 0 = 0:=h k (by simp)
theorem On.sp {n:Nat} {V:List (List Int)} (hV:ku n V):∀ (L:List Nat) (y:List Int),y.length = n → (∀ c ∈ L,c < n ∧ unit n c ∈ V) → On y L → Sp n V y
 | [],y,hy,_,h => ⟨hy,fun m _ => by
  rw [AX 0 0 y y y (om V) m rfl rfl fun k => by rw [h.nil k]; rfl]
  simp⟩
 | c :: L,y,hy,hL,h => by
  obtain ⟨h1,h2⟩:=h.split hy (hL c List.mem_cons_self).1
  have ih:=On.sp hV L (y.set c 0) (by simpa using hy) (fun k hk => hL k (List.mem_cons_of_mem _ hk)) h1
  exact Sp.comb (y.getD c 0) 1 (Sp.mem hV (hL c List.mem_cons_self).2) ih hy h2
theorem On.ct {n:Nat} {U:List (List Int)} (hU:ku n U):∀ (L:List Nat) (y:List Int),y.length = n → (∀ c ∈ L,c < n ∧ unit n c ∈ U) → On y L → ∀ z:Ext,sc n (ct U (con y z)) = 0
 | [],y,hy,_,h,z => ((kK.sc n).ct U).zero _ fun m _ => by
  rw [Qb 0 0 y y y z m rfl rfl fun k => by rw [h.nil k]; rfl]
  simp
 | c :: L,y,hy,hL,h,z => by
  obtain ⟨h1,h2⟩:=h.split hy (hL c List.mem_cons_self).1
  have ih:=On.ct hU L (y.set c 0) (by simpa using hy) (fun k hk => hL k (List.mem_cons_of_mem _ hk)) h1 z
  have hF:=(kK.sc n).ct U
  have e:=hF.congr (con y z) (fun m => y.getD c 0 * con (unit n c) z m + 1 * con (y.set c 0) z m) fun m _ => Qb (y.getD c 0) 1 (unit n c) (y.set c 0) y z m (by rw [ru,hy]) (by simp) h2
  have h3:sc n (Mx.ct U (con (unit n c) z)) = 0:=MB (ru n c) U z hU (hL c List.mem_cons_self).2
  refine e.trans ((hF.lin _ _ _ _).trans ?_)
  show y.getD c 0 * sc n (Mx.ct U (con (unit n c) z)) + 1 * sc n (Mx.ct U (con (y.set c 0) z)) = 0
  rw [h3,ih]; simp
theorem aGI {n:Nat} {C:List Nat} {V:List (List Int)} {y:List Int} (hC:∀ c ∈ C,c < n) (hV:ku n V) (hy:y.length = n) (hon:On y C) (h:∀ v ∈ V,dot y v = 0) {k:Nat} (hk:y.getD k 0 ≠ 0):jU n (units n C) V = 0:=by
 have hkn:k < n:=Nat.lt_of_not_le fun hle => hk (jA (by omega))
 have h1:=On.ct (yB n C) C y hy (fun c hc => ⟨hC c hc,List.mem_map.2 ⟨c,hc,rfl⟩⟩) hon (wed (unit n k) (om V))
 have hF:=(kK.sc n).ct (units n C)
 have e:=hF.congr (con y (wed (unit n k) (om V))) (fun m => dot y (unit n k) * om V m - wed (unit n k) (con y (om V)) m) fun m hm => by
  have:=Ap y (unit n k) (om V) m (by omega) (by rw [ru,hm])
  omega
 have h2:sc n (ct (units n C) (wed (unit n k) (con y (om V)))) = 0:=hF.zero _ fun m hm => QB _ _ m fun j hj => aAJ hy V hV h j (by omega)
 have h3:dot y (unit n k) * jU n (units n C) V - sc n (ct (units n C) (wed (unit n k) (con y (om V)))) = 0:=((e.trans (hF.sub _ _ _)).symm.trans h1)
 rw [h2,dot_comm,vI hy hkn] at h3
 rcases Int.mul_eq_zero.1 (by omega:y.getD k 0 * jU n (units n C) V = 0) with e | e
 ·exact absurd e hk
 ·exact e
theorem aGJ {n:Nat} {I:List Nat} {U:List (List Int)} {y:List Int} (hI:∀ c ∈ I,c < n) (hU:ku n U) (hy:y.length = n) (hon:On y I) (h:∀ u ∈ U,dot u y = 0) {k:Nat} (hk:y.getD k 0 ≠ 0):jU n U (units n I) = 0:=by
 have hkn:k < n:=Nat.lt_of_not_le fun hle => hk (jA (by omega))
 have hs:=On.sp (yB n I) I y hy (fun c hc => ⟨hI c hc,List.mem_map.2 ⟨c,hc,rfl⟩⟩) hon
 have h1:=uniq (u:=unit n k) hs hU (ru ..) h
 rw [vI hy hkn] at h1
 rcases Int.mul_eq_zero.1 h1 with e | e
 ·exact absurd e hk
 ·exact e
theorem aDz (a1 b1 c1 a2 b2 c2:Int):∃ x y z:Int,(x ≠ 0 ∨ y ≠ 0 ∨ z ≠ 0) ∧ a1 * x + b1 * y + c1 * z = 0 ∧ a2 * x + b2 * y + c2 * z = 0:=by
 by_cases h:b1 * c2 - c1 * b2 ≠ 0 ∨ c1 * a2 - a1 * c2 ≠ 0 ∨ a1 * b2 - b1 * a2 ≠ 0
 ·exact ⟨b1 * c2 - c1 * b2,c1 * a2 - a1 * c2,a1 * b2 - b1 * a2,h,by grind,by grind⟩
 ·have h1:b1 * c2 - c1 * b2 = 0:=Classical.byContradiction fun e => h (.inl e)
  have h2:c1 * a2 - a1 * c2 = 0:=Classical.byContradiction fun e => h (.inr (.inl e))
  have h3:a1 * b2 - b1 * a2 = 0:=Classical.byContradiction fun e => h (.inr (.inr e))
  by_cases e1:a1 = 0 ∧ b1 = 0
  ·obtain ⟨rfl,rfl⟩:=e1
   by_cases e2:c1 = 0
   ·subst e2
    by_cases e3:a2 = 0 ∧ b2 = 0
    ·obtain ⟨rfl,rfl⟩:=e3
     exact ⟨1,0,0,.inl (by decide),by omega,by omega⟩
    ·refine ⟨b2,-a2,0,?_,by omega,by grind⟩
     by_cases e4:b2 = 0
     ·exact .inr (.inl fun e => e3 ⟨by omega,e4⟩)
     ·exact .inl e4
   ·have ha2:a2 = 0:=by
     rcases Int.mul_eq_zero.1 (by omega:c1 * a2 = 0) with e | e
     ·exact absurd e e2
     ·exact e
    exact ⟨1,0,0,.inl (by decide),by omega,by rw [ha2]; omega⟩
  ·refine ⟨b1,-a1,0,?_,by grind,by grind⟩
   by_cases e4:b1 = 0
   ·exact .inr (.inl fun e => e1 ⟨by omega,e4⟩)
   ·exact .inl e4
def QH (n:Nat) (M:fM) (B:Nat):Prop:=∀ (M':fM) (C:List Nat),zG M M' → C.length ≤ M.length → C.Nodup → (∀ c ∈ C,c < n) → (jU n (units n C) (jv M' C.length)).natAbs ≤ B
theorem aFE {a:fM} {i k:Nat} (h:a.length ≤ i):at2 a i k = 0:=by
 unfold at2
 rw [List.getD_eq_getElem?_getD (l:=a),List.getElem?_eq_none h]
 rfl
theorem aLN {n B:Nat} {M M':fM} {c:Nat} {s:BS} (hn:kT n M) (hc:c ≤ n) (hm:QH n M B) (h:BInv n M c s M'):(∀ i k:Nat,(at2 s.a i k).natAbs ≤ B) ∧ s.last.natAbs ≤ B:=by
 have hC:∀ k ∈ s.piv.reverse,k < n:=fun k hk => by have:=h.pc k (by simpa using hk); omega
 have hnd:s.piv.reverse.Nodup:=List.pairwise_reverse.2 (h.nd.imp fun h => h.symm)
 have hrl:=h.rl
 have aNS:=h.re.len
 have hn':=h.re.rows hn
 refine ⟨fun i k => ?_,?_⟩
 ·by_cases hi:i < M.length
  ·by_cases hlo:s.piv.length ≤ i
   ·unfold at2
    rw [h.lo i hlo hi]
    by_cases hk:k < n
    ·by_cases NC:k ∈ s.piv.reverse
     ·rw [(Ai (C:=s.piv.reverse) (Kt hn' (by omega)) (hn' i (by omega))).col k NC]
      exact Nat.zero_le _
     ·rw [jQ,gV _ hk]
      have hre:=h.re.swap (r:=s.piv.length) (p:=i) (by omega) hi
      have:=hm (fQ M' s.piv.length i) (k :: s.piv.reverse) hre (by simp; omega) (List.nodup_cons.2 ⟨NC,hnd⟩) fun x hx => by
       rcases List.mem_cons.1 hx with rfl | hx
       ·exact hk
       ·exact hC x hx
      have e:jv (fQ M' s.piv.length i) (k :: s.piv.reverse).length = M'.getD i [] :: jv M' s.piv.length:=by
       rw [List.length_cons,List.length_reverse]
       show (fQ M' s.piv.length i).getD s.piv.length [] :: jv (fQ M' s.piv.length i) s.piv.length = _
       congr 1
       ·rw [AL (by omega) (by omega)]
        by_cases e:s.piv.length = i
        ·rw [if_pos e,e]
        ·rw [if_neg e,if_pos rfl]
       ·exact YE _ fun j hj => by rw [AL (by omega) (by omega),if_neg (by omega),if_neg (by omega)]
      rw [e] at this
      exact this
    ·rw [jA (by rw [jQ,dO]; omega)]; exact Nat.zero_le _
   ·have Q8:i < s.piv.length:=by omega
    have hb:=h.hi i Q8
    by_cases hk:k < n
    ·obtain ⟨C1,C2,hsp⟩:∃ C1 C2,s.piv.reverse = C1 ++ s.piv[i] :: C2:=List.append_of_mem (List.mem_reverse.2 (List.getElem_mem Q8))
     obtain ⟨sg,hsg,hbr⟩:=ZU (V:=jv M' s.piv.length) (n:=n) (C1:=C1) (C2:=C2) (c:=s.piv[i]) (by rw [← hsp]; exact hC) (by rw [← hsp]; exact hnd) (Kt hn' (by omega))
     rw [← hsp] at hbr
     have e:=hb.eq hC (by rw [h.last]; exact h.nz) hbr
     unfold at2
     rw [e,gV _ hk]
     have hsa:sg.natAbs = 1:=by
      have:=congrArg Int.natAbs hsg
      rw [Int.natAbs_mul] at this
      exact Nat.eq_one_of_mul_eq_one_right this
     rw [Int.natAbs_mul,hsa,Nat.one_mul]
     have aA3:=hnd
     rw [hsp] at aA3
     have hC2:∀ x ∈ C1 ++ C2,x < n:=fun x hx => hC x (by
      rw [hsp]
      rcases List.mem_append.1 hx with h | h
      ·exact List.mem_append_left _ h
      ·exact List.mem_append_right _ (List.mem_cons_of_mem _ h))
     by_cases NC:k ∈ C1 ++ C2
     ·have:jU n (units n (k :: (C1 ++ C2))) (jv M' s.piv.length) = 0:=MB (ru n k) (units n (C1 ++ C2)) _ (yB n _) (List.mem_map.2 ⟨k,NC,rfl⟩)
      rw [this]; exact Nat.zero_le _
     ·have hlen:(k :: (C1 ++ C2)).length = s.piv.length:=by
       have:=congrArg List.length hsp
       simp at this ⊢
       omega
      have:=hm M' (k :: (C1 ++ C2)) h.re (by omega) (List.nodup_cons.2 ⟨NC,by
       have:=List.nodup_append.1 aA3
       refine List.nodup_append.2 ⟨this.1,(List.nodup_cons.1 this.2.1).2,fun a ha b hb => this.2.2 a ha b (List.mem_cons_of_mem _ hb)⟩⟩) fun x hx => by
       rcases List.mem_cons.1 hx with rfl | hx
       ·exact hk
       ·exact hC2 x hx
      rw [hlen] at this
      exact this
    ·unfold at2
     rw [jA (by rw [hb.len]; omega)]; exact Nat.zero_le _
  ·rw [aFE (by rw [h.len]; omega)]; exact Nat.zero_le _
 ·rw [← h.last]
  have:=hm M' s.piv.reverse h.re (by simpa using hrl) hnd hC
  rw [List.length_reverse] at this
  exact this
section
theorem F6:∀ (N:Nat) (l:List Nat),l.Nodup → (∀ x ∈ l,x < N) → l.length ≤ N
 | 0,[],_,_ => Nat.le_refl _
 | 0,x :: l,_,h => by have:=h x List.mem_cons_self; omega
 | N + 1,l,hn,h => by
  have h1:(l.erase N).Nodup:=hn.erase N
  have ih:=F6 N (l.erase N) h1 fun x hx => by
   have:=(hn.mem_erase_iff).1 hx
   have:=h x this.2
   omega
  by_cases hm:N ∈ l
  ·rw [List.length_erase_of_mem hm] at ih; omega
  ·rw [List.erase_of_not_mem hm] at ih; omega
theorem aCZ {N:Nat} {l:List Nat} (hn:l.Nodup) (h:∀ x ∈ l,x < N) (hl:N ≤ l.length + 1):∃ k0,∀ k,k < N → k ∉ l → k = k0:=by
 by_cases hx:∃ k0,k0 < N ∧ k0 ∉ l
 ·obtain ⟨k0,h1,h2⟩:=hx
  refine ⟨k0,fun k hk hkl => ?_⟩
  by_cases e:k = k0
  ·exact e
  ·have:=F6 N (k :: k0 :: l) (List.nodup_cons.2 ⟨by simp [e,hkl],List.nodup_cons.2 ⟨h2,hn⟩⟩) fun x hx => by
    rcases List.mem_cons.1 hx with rfl | hx
    ·exact hk
    ·rcases List.mem_cons.1 hx with rfl | hx
     ·exact h1
     ·exact h x hx
   simp at this
   omega
 ·exact ⟨0,fun k hk hkl => absurd ⟨k,hk,hkl⟩ hx⟩
theorem Y5 {a:Int} {B:Nat} (h:a * a ≤ (B:Int) * B):a.natAbs ≤ B:=by
 refine Nat.le_of_not_lt fun hlt => ?_
 have h1:(B + 1) * (B + 1) ≤ a.natAbs * a.natAbs:=Nat.mul_le_mul hlt hlt
 have h2:((a.natAbs * a.natAbs:Nat):Int) = a * a:=by rw [← Int.natAbs_mul]; have:=sq_nonneg a; omega
 have h3:((B + 1) * (B + 1):Nat) = B * B + 2 * B + 1:=by grind
 have h4:((B * B:Nat):Int) = (B:Int) * B:=Int.natCast_mul ..
 omega
theorem aCu {c:Int} (hc:0 ≤ c):∀ (V:List (List Int)),(∀ v ∈ V,dot v v ≤ c) → rZ V ≤ c ^ V.length
 | [],_ => by show (1:Int) ≤ c ^ 0; simp
 | v :: V,h => by
  have ih:=aCu hc V fun v hv => h v (List.mem_cons_of_mem _ hv)
  show dot v v * rZ V ≤ c ^ (V.length + 1)
  rw [Int.pow_succ,Int.mul_comm]
  exact Int.mul_le_mul ih (h v List.mem_cons_self) (Qh v) (Int.le_trans (Pg V) ih)
theorem aKY {r:Nat} (h:r ≤ 10):(64:Int) ^ r ≤ 1073741824 * 1073741824:=by
 have h1:(64:Nat) ^ r ≤ 64 ^ 10:=Nat.pow_le_pow_right (by decide) h
 have h2:((64:Nat) ^ 10:Nat) = 1073741824 * 1073741824:=by decide
 have h3:(((64:Nat) ^ r:Nat):Int) = (64:Int) ^ r:=by simp
 omega
def yv (N:Nat) (X Y:Nat → Int) (a b g:Int):List Int:=vec N fun k => if k % 2 = 0 then a - g * Y (k / 2) else b + g * X (k / 2)
structure Gw (N:Nat) (B:fM) (X Y:Nat → Int):Prop where
 len:∀ v ∈ B,v.length = N
 sq:∀ v ∈ B,dot v v ≤ 64
 kill:∀ v ∈ B,∀ a b g,dot v (yv N X Y a b g) = 0
 nz:B ≠ [] → ∀ a b g:Int,(a ≠ 0 ∨ b ≠ 0 ∨ g ≠ 0) → ∃ k,(yv N X Y a b g).getD k 0 ≠ 0
 n12:N ≤ 12
section
variable {N:Nat} {B:fM} {X Y:Nat → Int}
theorem aEr (k:Nat):∃ p q r:Int,∀ a b g,p * a + q * b + r * g = 0 → (yv N X Y a b g).getD k 0 = 0:=by
 by_cases hk:k < N
 ·by_cases h:k % 2 = 0
  ·exact ⟨1,0,- Y (k / 2),fun a b g e => by rw [yv,gV _ hk,if_pos h]; grind⟩
  ·exact ⟨0,1,X (k / 2),fun a b g e => by rw [yv,gV _ hk,if_neg h]; grind⟩
 ·exact ⟨0,0,0,fun a b g _ => jA (by rw [yv,dO]; omega)⟩
theorem aNM (w:List Int) (hw:w.length = N):∃ p q r:Int,∀ a b g,dot w (yv N X Y a b g) = p * a + q * b + r * g:=by
 refine ⟨dot w (yv N X Y 1 0 0),dot w (yv N X Y 0 1 0),dot w (yv N X Y 0 0 1),fun a b g => ?_⟩
 have h1:=HY b g (yv N X Y 0 1 0) (yv N X Y 0 0 1) (yv N X Y 0 b g) w (by simp [yv,dO]) (by simp [yv,dO]) fun k => by
  by_cases hk:k < N
  ·simp only [yv,gV _ hk]; split <;> grind
  ·rw [jA (v:=yv N X Y 0 b g) (by rw [yv,dO]; omega),jA (v:=yv N X Y 0 1 0) (by rw [yv,dO]; omega),jA (v:=yv N X Y 0 0 1) (by rw [yv,dO]; omega)]; simp
 have h2:=HY a 1 (yv N X Y 1 0 0) (yv N X Y 0 b g) (yv N X Y a b g) w (by simp [yv,dO]) (by simp [yv,dO]) fun k => by
  by_cases hk:k < N
  ·simp only [yv,gV _ hk]; split <;> grind
  ·rw [jA (v:=yv N X Y a b g) (by rw [yv,dO]; omega),jA (v:=yv N X Y 1 0 0) (by rw [yv,dO]; omega),jA (v:=yv N X Y 0 b g) (by rw [yv,dO]; omega)]; simp
 rw [dot_comm,h2,h1,dot_comm w,dot_comm w,dot_comm w]
 grind
theorem Gw.minors (h:Gw N B X Y):QH N B 2000000000:=fun M' C hre Ef hnd hC => by
 have hrows:kT N B:=fun i hi => h.len _ (by rw [List.getD_eq_getElem?_getD,List.getElem?_eq_getElem hi]; exact List.getElem_mem hi)
 have hmem:∀ v ∈ jv M' C.length,v ∈ B:=fun v hv => by
  obtain ⟨i,hi,rfl⟩:=Ti hv
  obtain ⟨⟨f,f1,f2,f3⟩,hl⟩:=hre
  rw [f3 i (by omega),List.getD_eq_getElem?_getD,List.getElem?_eq_getElem (f1 i (by omega))]
  exact List.getElem_mem _
 have Ar:ku N (jv M' C.length):=fun v hv => h.len v (hmem v hv)
 by_cases h10:C.length ≤ 10
 ·have h1:=aGH hC Ar
  have h2:=aCu (c:=64) (by decide) _ fun v hv => h.sq v (hmem v hv)
  rw [YF] at h2
  have h3:=aKY h10
  exact Nat.le_trans (Y5 (B:=1073741824) (Int.le_trans h1 (Int.le_trans h2 h3))) (by decide)
 ·have hCN:=F6 N C hnd hC
  have NE:=h.n12
  obtain ⟨k0,hk0⟩:=aCZ hnd hC (by omega)
  obtain ⟨p,q,r,hy⟩:=aEr (N:=N) (X:=X) (Y:=Y) k0
  obtain ⟨a,b,g,hne,e1,_⟩:=aDz p q r 0 0 0
  have hB:B ≠ []:=fun e => by
   have:C.length ≤ 0:=by rw [e] at Ef; exact Ef
   omega
  obtain ⟨k,hk⟩:=h.nz hB a b g hne
  have:=aGI (y:=yv N X Y a b g) hC Ar (dO ..) (fun j hj => by
   by_cases hjN:j < N
   ·rw [hk0 j hjN hj]; exact hy a b g e1
   ·exact jA (by rw [yv,dO]; omega)) (fun v hv => by rw [dot_comm]; exact h.kill v (hmem v hv) a b g) hk
  rw [this]
  exact Nat.zero_le _
def mY (B:fM) (ld:List Int) (j:Nat):List Int:=if j < B.length then B.getD j [] else ld
def yw (N n:Nat) (B:fM) (ld:List Int):fM:=(List.range N).map fun i => vec n fun j => (mY B ld j).getD i 0
theorem aDu {n i:Nat} {ld:List Int} (h:i < N):(yw N n B ld).getD i [] = vec n fun j => (mY B ld j).getD i 0:=by
 simp [yw,List.getD_eq_getElem?_getD,h]
theorem aDv {n:Nat} {ld:List Int}:(yw N n B ld).length = N:=by simp [yw]
theorem aDt {n:Nat} {ld:List Int} (hc:∀ j,j < n → (mY B ld j).length = N) {M':fM} {C:List Nat} (hre:zG (yw N n B ld) M') (Ef:C.length ≤ N) (hC:∀ c ∈ C,c < n) :
  ∃ I:List Nat,I.Nodup ∧ (∀ i ∈ I,i < N) ∧ I.length = C.length ∧ jU n (units n C) (jv M' C.length) = jU N (C.map (mY B ld)) (units N I):=by
 obtain ⟨⟨f,f1,f2,f3⟩,hl⟩:=hre
 rw [aDv] at f1 f2 f3
 have hI:∀ r,r ≤ N → ∃ I:List Nat,I.Nodup ∧ (∀ i ∈ I,i < N ∧ ∃ j,j < r ∧ i = f j) ∧ I.length = r ∧ jv M' r = I.map fun i => (yw N n B ld).getD i []:=fun r => by
  induction r with
  | zero => exact fun _ => ⟨[],List.nodup_nil,fun i hi => (by cases hi),rfl,rfl⟩
  | succ r ih =>
   intro hr
   obtain ⟨I,i1,i2,i3,i4⟩:=ih (by omega)
   refine ⟨f r :: I,List.nodup_cons.2 ⟨fun hm => ?_,i1⟩,fun i hi => ?_,by simp [i3],?_⟩
   ·obtain ⟨_,j,hj,e⟩:=i2 _ hm
    have:=f2 r j (by omega) (by omega) e
    omega
   ·rcases List.mem_cons.1 hi with rfl | hi
    ·exact ⟨f1 r (by omega),r,by omega,rfl⟩
    ·obtain ⟨a,j,hj,e⟩:=i2 i hi
     exact ⟨a,j,by omega,e⟩
   ·show M'.getD r [] :: jv M' r = _
    rw [f3 r (by omega),i4]
    rfl
 obtain ⟨I,i1,i2,i3,i4⟩:=hI C.length Ef
 refine ⟨I,i1,fun i hi => (i2 i hi).1,i3,?_⟩
 rw [i4]
 have:=aAr (n:=n) (N:=N) (C.map fun c => (unit n c,mY B ld c)) (I.map fun i => ((yw N n B ld).getD i [],unit N i)) (fun u hu => by
  obtain ⟨c,hcC,rfl⟩:=List.mem_map.1 hu
  exact ⟨ru ..,hc c (hC c hcC)⟩) (fun v hv => by
  obtain ⟨i,hi,rfl⟩:=List.mem_map.1 hv
  exact ⟨by rw [aDu (i2 i hi).1,dO],ru ..⟩) (fun u hu v hv => by
  obtain ⟨c,hcC,rfl⟩:=List.mem_map.1 hu
  obtain ⟨i,hi,rfl⟩:=List.mem_map.1 hv
  have hiN:=(i2 i hi).1
  have hcn:=hC c hcC
  show dot (unit n c) ((yw N n B ld).getD i []) = dot (mY B ld c) (unit N i)
  rw [aDu hiN,vI (dO ..) hcn,gV _ hcn,dot_comm,vI (hc c hcn) hiN])
 rw [List.map_map,List.map_map,List.map_map,List.map_map] at this
 exact this
theorem aCt {ld:List Int} {L:Int} (h:Gw N B X Y) (hL:64 ≤ L) (hld:dot ld ld ≤ L):∀ (C:List Nat),C.Nodup → (∀ c ∈ C,c ≤ B.length) → (B.length ∉ C → rZ (C.map (mY B ld)) ≤ 64 ^ C.length) ∧ rZ (C.map (mY B ld)) ≤ L * 64 ^ (C.length - 1)
 | [],_,_ => ⟨fun _ => Int.le_refl _,by show 1 ≤ L * 1; omega⟩
 | c :: C,hn,hC => by
  have hn':=List.nodup_cons.1 hn
  obtain ⟨h1,h2⟩:=aCt h hL hld C hn'.2 fun x hx => hC x (List.mem_cons_of_mem _ hx)
  have hcc:=hC c List.mem_cons_self
  have hp:=Pg (C.map (mY B ld))
  have hbar:c < B.length → dot (mY B ld c) (mY B ld c) ≤ 64:=fun hlt => by
   unfold mY
   rw [if_pos hlt]
   exact h.sq _ (by rw [List.getD_eq_getElem?_getD,List.getElem?_eq_getElem hlt]; exact List.getElem_mem hlt)
  have aA7:(0:Int) ≤ 64 ^ C.length:=Int.pow_nonneg (by decide)
  have e:rZ ((c :: C).map (mY B ld)) = dot (mY B ld c) (mY B ld c) * rZ (C.map (mY B ld)):=rfl
  rw [e,List.length_cons,Nat.add_sub_cancel]
  refine ⟨fun hm => ?_,?_⟩
  ·have hlt:c < B.length:=by
    have:c ≠ B.length:=fun e => hm (by rw [e]; exact List.mem_cons_self)
    omega
   rw [Int.pow_succ,Int.mul_comm]
   exact Int.mul_le_mul (h1 fun hx => hm (List.mem_cons_of_mem _ hx)) (hbar hlt) (Qh _) aA7
  ·by_cases hlt:c < B.length
   ·by_cases hm:B.length ∈ C
    ·have hC1:1 ≤ C.length:=List.length_pos_of_mem hm
     have e2:L * 64 ^ C.length = 64 * (L * 64 ^ (C.length - 1)):=by
      conv => lhs; rw [show C.length = (C.length - 1) + 1 by omega,Int.pow_succ]
      grind
     rw [e2]
     exact Int.mul_le_mul (hbar hlt) h2 hp (by decide)
    ·have:=Int.mul_le_mul (hbar hlt) (h1 hm) hp (by decide)
     exact Int.le_trans this (Int.mul_le_mul_of_nonneg_right hL aA7)
   ·have hce:c = B.length:=by omega
    have hm:B.length ∉ C:=by rw [← hce]; exact hn'.1
    have hdl:dot (mY B ld c) (mY B ld c) ≤ L:=by unfold mY; rw [if_neg hlt]; exact hld
    exact Int.mul_le_mul hdl (h1 hm) hp (by omega)
theorem aKZ {r:Nat} (h:r ≤ 9):(64:Int) ^ r ≤ 18014398509481984:=by
 have h1:(64:Nat) ^ r ≤ 64 ^ 9:=Nat.pow_le_pow_right (by decide) h
 have h2:((64:Nat) ^ 9:Nat) = 18014398509481984:=by decide
 have h3:(((64:Nat) ^ r:Nat):Int) = (64:Int) ^ r:=by simp
 omega
theorem Gw.turned (h:Gw N B X Y) {n:Nat} {ld:List Int} (hn:n ≤ B.length + 1) (hl:n = B.length + 1 → ld.length = N) (hld:dot ld ld ≤ 192):QH n (yw N n B ld) 2000000000:=fun M' C hre Ef hnd hC => by
 rw [aDv] at Ef
 have hcl:∀ j,j < n → (mY B ld j).length = N:=fun j hj => by
  unfold mY
  split
  ·rename_i hlt
   exact h.len _ (by rw [List.getD_eq_getElem?_getD,List.getElem?_eq_getElem hlt]; exact List.getElem_mem hlt)
  ·exact hl (by omega)
 obtain ⟨I,i1,i2,i3,i4⟩:=aDt hcl hre Ef hC
 rw [i4]
 have hU:ku N (C.map (mY B ld)):=fun u hu => by
  obtain ⟨c,hcC,rfl⟩:=List.mem_map.1 hu
  exact hcl c (hC c hcC)
 by_cases h10:C.length ≤ 10
 ·have h1:=aAt N (C.map (mY B ld)) (units N I) hU (yB N I)
  rw [X5 I i2,Int.mul_one] at h1
  have h2:=(aCt h (L:=192) (by decide) hld C hnd fun c hcC => by have:=hC c hcC; omega).2
  have h3:=aKZ (show C.length - 1 ≤ 9 by omega)
  have h4:(192:Int) * 64 ^ (C.length - 1) ≤ 192 * 18014398509481984:=Int.mul_le_mul_of_nonneg_left h3 (by decide)
  exact Y5 (Int.le_trans h1 (Int.le_trans h2 (Int.le_trans h4 (by decide))))
 ·have hIN:=F6 N I i1 i2
  have NE:=h.n12
  obtain ⟨k0,hk0⟩:=aCZ i1 i2 (by omega)
  obtain ⟨p,q,r,hy⟩:=aEr (N:=N) (X:=X) (Y:=Y) k0
  obtain ⟨p2,q2,r2,hy2⟩:∃ p q r:Int,∀ a b g,p * a + q * b + r * g = 0 → n = B.length + 1 → dot ld (yv N X Y a b g) = 0:=by
   by_cases e:n = B.length + 1
   ·obtain ⟨p,q,r,hh⟩:=aNM (X:=X) (Y:=Y) ld (hl e)
    exact ⟨p,q,r,fun a b g e _ => by rw [hh,e]⟩
   ·exact ⟨0,0,0,fun a b g _ e' => absurd e' e⟩
  obtain ⟨a,b,g,hne,e1,e2⟩:=aDz p q r p2 q2 r2
  have hB:B ≠ []:=fun e => by
   have:=F6 n C hnd hC
   rw [e] at hn
   simp at hn
   omega
  obtain ⟨k,hk⟩:=h.nz hB a b g hne
  have:=aGJ (y:=yv N X Y a b g) i2 hU (dO ..) (fun j hj => by
   by_cases hjN:j < N
   ·rw [hk0 j hjN hj]; exact hy a b g e1
   ·exact jA (by rw [yv,dO]; omega)) (fun u hu => by
   obtain ⟨c,hcC,rfl⟩:=List.mem_map.1 hu
   have hcn:=hC c hcC
   unfold mY
   split
   ·rename_i hlt
    exact h.kill _ (by rw [List.getD_eq_getElem?_getD,List.getElem?_eq_getElem hlt]; exact List.getElem_mem hlt) a b g
   ·exact hy2 a b g e2 (by omega)) hk
  rw [this]
  exact Nat.zero_le _
end
def sQ (N i j:Nat) (dx dy:Int):List Int:=((((List.replicate N 0).set i dx).set (i + 1) dy).set j (-dx)).set (j + 1) (-dy)
theorem aDG (N i j:Nat) (dx dy:Int):(sQ N i j dx dy).length = N:=by simp [sQ]
theorem aDE {N i j:Nat} {dx dy:Int} {y:List Int} (hy:y.length = N) (h1:i + 1 < j) (h2:j + 1 < N):dot (sQ N i j dx dy) y = dx * y.getD i 0 + dy * y.getD (i + 1) 0 - dx * y.getD j 0 - dy * y.getD (j + 1) 0:=by
 have g0:∀ k,(List.replicate N (0:Int)).getD k 0 = 0:=fun k => by
  simp only [List.getD_eq_getElem?_getD,List.getElem?_replicate]
  split <;> rfl
 unfold sQ
 rw [zL _ _ _ _ (by simp; omega) (by simp; omega),zL _ _ _ _ (by simp; omega) (by simp; omega),zL _ _ _ _ (by simp; omega) (by simp; omega),zL _ _ _ _ (by simp; omega) (by simp; omega),VI,
  oD (by simp; omega),if_neg (by omega),oD (by simp; omega),if_neg (by omega),oD (by simp; omega),if_neg (by omega),g0,oD (by simp; omega),if_neg (by omega),oD (by simp; omega),if_neg (by omega),g0,
  oD (by simp; omega),if_neg (by omega),g0,g0]
 grind
theorem aDF {N i j:Nat} {dx dy:Int} (h1:i + 1 < j) (h2:j + 1 < N):(sQ N i j dx dy).getD i 0 = dx ∧ (sQ N i j dx dy).getD (i + 1) 0 = dy ∧ (sQ N i j dx dy).getD j 0 = -dx ∧ (sQ N i j dx dy).getD (j + 1) 0 = -dy:=by
 unfold sQ
 refine ⟨?_,?_,?_,?_⟩
 ·rw [oD (by simp; omega),if_neg (by omega),oD (by simp; omega),if_neg (by omega),oD (by simp; omega),if_neg (by omega),oD (by simp; omega),if_pos rfl]
 ·rw [oD (by simp; omega),if_neg (by omega),oD (by simp; omega),if_neg (by omega),oD (by simp; omega),if_pos rfl]
 ·rw [oD (by simp; omega),if_neg (by omega),oD (by simp; omega),if_pos rfl]
 ·rw [oD (by simp; omega),if_pos rfl]
theorem aKq {N i j:Nat} {dx dy:Int} (h1:i + 1 < j) (h2:j + 1 < N):dot (sQ N i j dx dy) (sQ N i j dx dy) = 2 * (dx * dx + dy * dy):=by
 obtain ⟨a,b,c,d⟩:=aDF (N:=N) (dx:=dx) (dy:=dy) h1 h2
 rw [aDE (aDG ..) h1 h2,a,b,c,d]
 grind
end
def Zo (n:Nat) (V:List (List Int)):Prop:=∀ m:List Bool,m.length = n → om V m = 0
theorem aM8 {n:Nat} {p:List Int} (hp:p.length = n) (x:Ext) (m:List Bool) (hm:m.length = n):wed p (wed p x) m = 0:=by
 have:=CU p p x m (by omega) (by omega)
 omega
theorem Zo.cons {n:Nat} {p:List Int} {V:List (List Int)} (h:Zo n V):Zo n (p :: V):=fun m hm => QB p _ m fun k hk => h k (by omega)
theorem aCX {n:Nat} {p:List Int} (hp:p.length = n):∀ (V1 V2:List (List Int)),(∀ v ∈ V1,v.length = n) → ∃ s:Int,s * s = 1 ∧ ∀ m:List Bool,m.length = n → om (V1 ++ p :: V2) m = s * om (p :: (V1 ++ V2)) m
 | [],V2,_ => ⟨1,rfl,fun m _ => by rw [Int.one_mul]; rfl⟩
 | q :: V1,V2,h => by
  obtain ⟨s,hs,he⟩:=aCX hp V1 V2 fun v hv => h v (List.mem_cons_of_mem _ hv)
  refine ⟨-s,by rw [Int.neg_mul_neg]; exact hs,fun m hm => ?_⟩
  have hq:q.length = n:=h q List.mem_cons_self
  show wed q (om (V1 ++ p :: V2)) m = -s * wed p (wed q (om (V1 ++ V2))) m
  rw [AQ q _ (fun m => s * wed p (om (V1 ++ V2)) m + 0 * om V2 m) m fun k hk => by rw [he k (by omega),Int.zero_mul,Int.add_zero]; rfl,AU,CU q p _ m (by omega) (by omega),Int.zero_mul,Int.add_zero,Int.mul_neg,Int.neg_mul]
theorem Zo.front {n:Nat} {p:List Int} (hp:p.length = n) {V1 V2:List (List Int)} (h1:∀ v ∈ V1,v.length = n) (h:Zo n (p :: (V1 ++ V2))):Zo n (V1 ++ p :: V2):=fun m hm => by
 obtain ⟨s,_,he⟩:=aCX hp V1 V2 h1
 rw [he m hm,h m hm,Int.mul_zero]
def zy (n c:Nat) (p v:List Int):List Int:=vec n fun k => p.getD c 0 * v.getD k 0 + (- v.getD c 0) * p.getD k 0
theorem YD {n c:Nat} {p v:List Int} (hp:p.length = n) (hv:v.length = n) (k:Nat):(zy n c p v).getD k 0 = p.getD c 0 * v.getD k 0 + (- v.getD c 0) * p.getD k 0:=by
 by_cases hk:k < n
 ·exact gV _ hk
 ·rw [jA (by unfold zy; rw [dO]; omega),jA (v:=v) (k:=k) (by omega),jA (v:=p) (k:=k) (by omega)]
  simp
theorem aCY {n c:Nat} {p:List Int} (hp:p.length = n):∀ (V:List (List Int)),(∀ v ∈ V,v.length = n) → ∀ m:List Bool,m.length = n → om (p :: V.map (zy n c p)) m = (p.getD c 0) ^ V.length * om (p :: V) m
 | [],_,m,_ => by
  simp
 | v :: V,h,m,hm => by
  have hv:v.length = n:=h v List.mem_cons_self
  have ih:=aCY (c:=c) hp V fun u hu => h u (List.mem_cons_of_mem _ hu)
  have hr:(zy n c p v).length = n:=dO ..
  show wed p (wed (zy n c p v) (om (V.map (zy n c p)))) m = _ * wed p (wed v (om V)) m
  have ih:∀ m:List Bool,m.length = n → wed p (om (V.map (zy n c p))) m = p.getD c 0 ^ V.length * wed p (om V) m:=ih
  generalize om (V.map (zy n c p)) = X at ih
  rw [AQ p _ (fun m => p.getD c 0 * wed v X m + (- v.getD c 0) * wed p X m) m fun k hk => AX _ _ v p _ X k (by omega) (by omega) (YD hp hv),AU,aM8 hp X m hm,Int.mul_zero,Int.add_zero,CU p v X m (by omega) (by omega)]
  have e:wed v (wed p X) m = (p.getD c 0) ^ V.length * wed v (wed p (om V)) m:=by
   rw [AQ v _ (fun m => (p.getD c 0) ^ V.length * wed p (om V) m + 0 * om V m) m fun k hk => by
    rw [ih k (by omega),Int.zero_mul,Int.add_zero],AU,Int.zero_mul,Int.add_zero]
  rw [e,CU v p (om V) m (by omega) (by omega),List.length_cons,Int.pow_succ]
  grind
theorem TA {n:Nat}:∀ (C:List Nat) (S:List Int → Prop),(∀ y,S y → y.length = n) → (∀ u v y (a b:Int),S u → S v → y.length = n → (∀ k:Nat,y.getD k 0 = a * u.getD k 0 + b * v.getD k 0) → S y) → (∀ y,S y → (∀ c ∈ C,y.getD c 0 = 0) → ∀ k:Nat,y.getD k 0 = 0) → ∀ V:List (List Int),(∀ v ∈ V,S v) → C.length < V.length → Zo n V
 | [],S,hl,hc,hd,[],_,h => absurd h (Nat.lt_irrefl _)
 | [],S,hl,hc,hd,v :: V,hV,_ => fun m hm => by
  have hv:=hV v List.mem_cons_self
  have h0:=hd v hv fun c h => by cases h
  show wed v (om V) m = 0
  rw [AX 0 0 v v v (om V) m rfl rfl fun k => by rw [h0 k]; omega]
  omega
 | c :: C,S,hl,hc,hd,V,hV,h => by
  by_cases h0:∀ v ∈ V,v.getD c 0 = 0
  ·refine TA C (fun y => S y ∧ y.getD c 0 = 0) (fun y hy => hl y hy.1) (fun u v y a b hu hv hy e => ⟨hc u v y a b hu.1 hv.1 hy e,by rw [e c,hu.2,hv.2]; omega⟩) (fun y hy h1 => hd y hy.1 fun k hk => ?_) V (fun v hv => ⟨hV v hv,h0 v hv⟩) (by rw [List.length_cons] at h; omega)
   rcases List.mem_cons.1 hk with rfl | hk
   ·exact hy.2
   ·exact h1 k hk
  ·obtain ⟨p,hp⟩:=Classical.not_forall.1 h0
   obtain ⟨WJ,hpc⟩:=Classical.not_imp.1 hp
   obtain ⟨V1,V2,rfl⟩:=List.append_of_mem WJ
   have hpl:=hl p (hV p WJ)
   have hin:∀ v ∈ V1 ++ V2,S v:=fun v hv => hV v (by
    rcases List.mem_append.1 hv with hv | hv
    ·exact List.mem_append_left _ hv
    ·exact List.mem_append_right _ (List.mem_cons_of_mem _ hv))
   have hz:=TA C (fun y => S y ∧ y.getD c 0 = 0) (fun y hy => hl y hy.1) (fun u v y a b hu hv hy e => ⟨hc u v y a b hu.1 hv.1 hy e,by rw [e c,hu.2,hv.2]; omega⟩) (fun y hy h1 => hd y hy.1 fun k hk => by
    rcases List.mem_cons.1 hk with rfl | hk
    ·exact hy.2
    ·exact h1 k hk) ((V1 ++ V2).map (zy n c p)) (fun v hv => by
     obtain ⟨u,hu,rfl⟩:=List.mem_map.1 hv
     have tK:=hl u (hin u hu)
     refine ⟨hc u p _ _ _ (hin u hu) (hV p WJ) (dO ..) (YD hpl tK),?_⟩
     rw [YD hpl tK,Int.neg_mul,Int.mul_comm]
     omega) (by rw [List.length_map,List.length_append]; rw [List.length_append,List.length_cons,List.length_cons] at h; omega)
   refine Zo.front hpl (fun v hv => hl v (hin v (List.mem_append_left _ hv))) fun m hm => ?_
   have e:=aCY (c:=c) hpl (V1 ++ V2) (fun v hv => hl v (hin v hv)) m hm
   rw [show om (p :: (V1 ++ V2).map (zy n c p)) m = 0 from Zo.cons hz m hm] at e
   rcases Int.mul_eq_zero.1 e.symm with e | e
   ·exact absurd e (Int.pow_ne_zero hpc)
   ·exact e
theorem Zo.jU {n:Nat} {U V:List (List Int)} (h:Zo n V):jU n U V = 0:=(kK.ct (kK.sc n) U).zero _ h
structure EN (n:Nat) (M:fM) (r:Nat) (V:List (List Int)):Prop where
 len:V.length = r
 ind:¬ Zo n V
 mem:∀ v ∈ V,v ∈ M
 all:ku n V
 cols:∃ C:List Nat,C.length = r ∧ ∀ y,Sp n V y → (∀ c ∈ C,y.getD c 0 = 0) → ∀ k:Nat,y.getD k 0 = 0
 span:∀ x ∈ M,Sp n V x
theorem VY {M:fM} {i:Nat} (h:i < M.length):M.getD i [] ∈ M:=by
 rw [List.getD_eq_getElem?_getD,List.getElem?_eq_getElem h]
 exact List.getElem_mem h
theorem aBi {N:Nat} {f:Nat → Nat} (h1:∀ i,i < N → f i < N) (h2:∀ i j,i < N → j < N → f i = f j → i = j) {j:Nat} (hj:j < N):∃ i,i < N ∧ f i = j:=by
 apply Classical.byContradiction
 intro hn
 have hnd:(j :: (List.range N).map f).Nodup:=by
  refine List.nodup_cons.2 ⟨fun h => ?_,?_⟩
  ·obtain ⟨i,hi,e⟩:=List.mem_map.1 h
   exact hn ⟨i,List.mem_range.1 hi,e⟩
  ·refine List.pairwise_map.2 (List.nodup_range.imp_of_mem fun {a b} ha hb hab e => hab ?_)
   exact h2 a b (List.mem_range.1 ha) (List.mem_range.1 hb) e
 have:=F6 N _ hnd fun x hx => by
  rcases List.mem_cons.1 hx with rfl | hx
  ·exact hj
  ·obtain ⟨i,hi,rfl⟩:=List.mem_map.1 hx
   exact h1 i (List.mem_range.1 hi)
 rw [List.length_cons,List.length_map,List.length_range] at this
 omega
theorem QS {n:Nat} {M:fM} (hrows:kT n M):∃ V,EN n M (iE n M n).piv.length V:=by
 obtain ⟨M',h⟩:=yM hrows n (Nat.le_refl _)
 generalize iE n M n = s at h
 have Ey:=h.re.rows hrows
 obtain ⟨⟨f,f1,f2,f3⟩,hl⟩:=h.re
 have hall:=Kt Ey (show s.piv.length ≤ M'.length by rw [hl]; exact h.rl)
 have hd:jU n (units n s.piv.reverse) (jv M' s.piv.length) ≠ 0:=by rw [h.last]; exact h.nz
 refine ⟨jv M' s.piv.length,YF ..,fun hz => hd hz.jU,fun v hv => ?_,hall,⟨s.piv,rfl,fun y hy hc k => ?_⟩,fun x hx => ?_⟩
 ·obtain ⟨i,hi,rfl⟩:=Ti hv
  have hi':i < M.length:=by have:=h.rl; omega
  rw [f3 i hi']
  exact VY (f1 i hi')
 ·by_cases hk:k < n
  ·have:=uniq (u:=unit n k) hy (yB n s.piv.reverse) (ru ..) fun w hw => by
    obtain ⟨c,hcm,rfl⟩:=List.mem_map.1 hw
    have hcp:c ∈ s.piv:=by simpa using hcm
    rw [vI hy.1 (h.pc c hcp)]
    exact hc c hcp
   rw [vI hy.1 hk] at this
   rcases Int.mul_eq_zero.1 this with e | e
   ·exact e
   ·exact absurd e hd
  ·exact jA (by rw [hy.1]; omega)
 ·obtain ⟨j,hj,rfl⟩:=List.getElem_of_mem hx
  obtain ⟨i,hi,e⟩:=aBi f1 f2 hj
  have e2:M[j] = M'.getD i []:=by
   rw [f3 i hi,e,List.getD_eq_getElem?_getD,List.getElem?_eq_getElem hj]
   rfl
  rw [e2]
  have hxl:(M'.getD i []).length = n:=Ey i (by omega)
  by_cases hir:i < s.piv.length
  ·refine Sp.mem hall ?_
   have:∀ r,i < r → M'.getD i [] ∈ jv M' r:=by
    intro r
    induction r with
    | zero => intro h; omega
    | succ r ih =>
     intro h
     show M'.getD i [] ∈ M'.getD r [] :: jv M' r
     by_cases e:i = r
     ·rw [e]; exact List.mem_cons_self
     ·exact List.mem_cons_of_mem _ (ih (by omega))
   exact this _ hir
  ·have h0:∀ k:Nat,(jQ n s.piv.reverse (jv M' s.piv.length) (M'.getD i [])).getD k 0 = 0:=fun k => by
    by_cases hk:k < n
    ·rw [← h.lo i (by omega) hi]
     exact h.zero i (by omega) hi k hk
    ·exact jA (by rw [jQ,dO]; omega)
   have hs:=(Ai (C:=s.piv.reverse) hall hxl).sp
   refine ⟨hxl,fun m hm => ?_⟩
   have h1:=hs.2 m hm
   rw [AX (- jU n (units n s.piv.reverse) (jv M' s.piv.length)) 0 (M'.getD i []) (M'.getD i []) _ _ m (by rw [dO]; exact hxl) (by rw [dO]; exact hxl) fun k => by
    by_cases hk:k < n
    ·rw [gV _ hk,h0 k,Int.neg_mul]; omega
    ·rw [jA (by rw [dO]; omega),jA (v:=M'.getD i []) (by omega)]; omega] at h1
   rw [Int.zero_mul,Int.add_zero] at h1
   rcases Int.mul_eq_zero.1 h1 with e | e
   ·exact absurd (Int.neg_eq_zero.1 e) hd
   ·exact e
theorem Sp.lin {n:Nat} {V:List (List Int)}:∀ u v y (a b:Int),Sp n V u → Sp n V v → y.length = n → (∀ k:Nat,y.getD k 0 = a * u.getD k 0 + b * v.getD k 0) → Sp n V y:=fun u v y a b hu hv hy e => Sp.comb a b hu hv hy e
theorem EN.le {n r r2:Nat} {M M2:fM} {V V2:List (List Int)} (h:EN n M r V) (h2:EN n M2 r2 V2) {W:List (List Int)} (hi:¬ Zo n W) (hw:∀ v ∈ W,Sp n V2 v):W.length ≤ r2:=by
 apply Classical.byContradiction
 intro hn
 obtain ⟨C,c1,c2⟩:=h2.cols
 exact hi (TA C (Sp n V2) (fun y hy => hy.1) Sp.lin c2 W hw (by omega))
end Go.Mx
end
section
namespace Go.Fw
section
def lk {α:Type}:List (Nat × α) → Nat → Option α
 | [],_ => none
 | (k,v) :: r,t => bif Nat.beq k t then some v else lk r t
structure Ctx where
 w0:World
 U0:Nat → Prop
 R0:Nat → Prop
 g0:Nat → GS
 N:Nat
 pn:List Nat
structure St (P:Program) (C:Ctx) (σ:Slots) (m:Mem) (R B:Nat → Prop) (g:Nat → GS) (a:Act) (w:World):Prop where
 wf:WF R B g w
 nd:a.defers = []
 sz:a.tmps.size = C.N
 sl:∀ t v,lk σ t = some v → RA P w R B g v (a.tmps.getD t undef)
 ob:∀ n o,lk m n = some o → RO P w R B g n o
 ow:∀ n o b,lk m n = some o → (g n).has b → C.w0.heap.size ≤ b ∨ C.U0 b
 perm:∀ b,R b → C.R0 b ∨ C.w0.heap.size ≤ b
 r0:∀ b,C.R0 b → R b
 os:w.os = C.w0.os
 tape:w.tape = C.w0.tape
 output:w.output = C.w0.output
 size:C.w0.heap.size ≤ w.heap.size
 heap:∀ b,b < C.w0.heap.size → ¬ C.U0 b → w.heap[b]? = C.w0.heap[b]?
 pin:∀ n ∈ C.pn,g n = C.g0 n
 shp:∀ n ∈ C.pn,∀ b cur e,(C.g0 n).has b → C.w0.heap[b]? = some (.cells cur e (0,0)) → ∃ cur',w.heap[b]? = some (.cells cur' e (0,0)) ∧ cur'.size = cur.size
def LT (P:Program) (o:Oper) (ins:List (Operand × AV)) (us:Mem) (v:AV) (df:Mem) (W X:List Nat):Prop :=
 ∀ (R B:Nat → Prop) (g:Nat → GS) (w:World) (a:Act),WF R B g w → (∀ p ∈ ins,RA P w R B g p.2 (a.eval p.1)) → (∀ p ∈ us,RO P w R B g p.1 p.2) →
  ∀ (K:Act → World → Prop) (Q:Exit → Act → World → Prop),
   (∀ u R' B' g' w',iR R B g w W X R' B' g' w' → (∀ b,R' b → R b ∨ w.heap.size ≤ b) → (o.dst.isSome = true → RA P w' R' B' g' v u) → (∀ p ∈ df,RO P w' R' B' g' p.1 p.2) → K (a.put o.dst u) w') → o.wp P a w K Q
def fD (σ:Slots):Operand → AV → Prop
 | .tmp t,v => lk σ t = some v
 | .const c,v => v = .s (.c (.pv (.sc c))) ∧ c.oneCell' = true
 | .func f,v => v = .s (.c (.fn f []))
 | .global _,_ => False
def EvL (σ:Slots):List (Operand × AV) → Prop
 | [] => True
 | (x,v) :: r => fD σ x v ∧ EvL σ r
def pF (m:Mem):Mem → Prop
 | [] => True
 | (n,o) :: r => lk m n = some o ∧ pF m r
def fO (σ:Slots) (d:Option Tmp) (v:AV):Slots:=match d with
 | some t => (t,v) :: σ
 | none => σ
def iF (N:Nat) (d:Option Tmp):Bool:=match d with
 | some t => Nat.blt t N
 | none => true
section
variable {P:Program} {C:Ctx} {σ σ':Slots} {m m':Mem} {R B:Nat → Prop} {g:Nat → GS} {a:Act} {w:World}
theorem fD.ra (hs:St P C σ m R B g a w) {x:Operand} {v:AV} (h:fD σ x v):RA P w R B g v (a.eval x):=by
 cases x with
 | tmp t => exact hs.sl t v h
 | const c =>
  obtain ⟨rfl,h1⟩:=h
  exact ⟨h1,.sc h1⟩
 | func f =>
  subst h
  exact ⟨rfl,[],rfl,rfl,fun k n hk => by simp at hk⟩
 | global n => exact h.elim
theorem EvL.ra (hs:St P C σ m R B g a w):∀ {ins:List (Operand × AV)},EvL σ ins → ∀ p ∈ ins,RA P w R B g p.2 (a.eval p.1)
 | [],_,p,hp => by cases hp
 | (x,v) :: r,h,p,hp => by
  cases hp with
  | head => exact fD.ra hs h.1
  | tail _ hp => exact EvL.ra hs h.2 p hp
theorem pF.ro (hs:St P C σ m R B g a w):∀ {us:Mem},pF m us → ∀ p ∈ us,RO P w R B g p.1 p.2 ∧ lk m p.1 = some p.2
 | [],_,p,hp => by cases hp
 | (n,o) :: r,h,p,hp => by
  cases hp with
  | head => exact ⟨hs.ob n o h.1,h.1⟩
  | tail _ hp => exact pF.ro hs h.2 p hp
theorem IQ (X:List Nat):∀ (σ:Slots) (t:Nat),lk (kM X σ) t = (lk σ t).map (qB X)
 | [],_ => rfl
 | (k,v) :: r,t => by
  show (bif Nat.beq k t then some (qB X v) else lk (kM X r) t) = Option.map (qB X) (bif Nat.beq k t then some v else lk r t)
  cases Nat.beq k t
  ·exact IQ X r t
  ·rfl
theorem IL (X:List Nat):∀ (m:Mem) (n:Nat) (o:Ob),lk (jK X m) n = some o → n ∉ X ∧ ∃ o0,lk m n = some o0 ∧ o = nK X o0
 | [],_,_,h => by cases h
 | (k,v) :: r,n,o,h => by
  unfold jK at h
  cases hk:X.elem k with
  | true =>
   rw [hk,cond_true] at h
   obtain ⟨h1,o0,h2,h3⟩:=IL X r n o h
   refine ⟨h1,o0,?_,h3⟩
   show (bif Nat.beq k n then some v else lk r n) = some o0
   cases hb:Nat.beq k n with
   | false => exact h2
   | true =>
    have:=Nat.eq_of_beq_eq_true hb
    subst this
    exact absurd (List.mem_of_elem_eq_true hk) h1
  | false =>
   rw [hk,cond_false] at h
   change (bif Nat.beq k n then some (nK X v) else lk (jK X r) n) = some o at h
   show n ∉ X ∧ ∃ o0,(bif Nat.beq k n then some v else lk r n) = some o0 ∧ o = nK X o0
   cases hb:Nat.beq k n with
   | false =>
    rw [hb] at h
    exact IL X r n o h
   | true =>
    rw [hb,cond_true] at h
    have:=Nat.eq_of_beq_eq_true hb
    subst this
    injection h with h
    exact ⟨mM hk,v,rfl,h.symm⟩
theorem Xb {α:Type}:∀ (x y:List (Nat × α)) (n:Nat) (o:α),lk (x ++ y) n = some o → (∃ p ∈ x,p.1 = n ∧ p.2 = o) ∨ (n ∉ x.map (·.1) ∧ lk y n = some o)
 | [],_,_,_,h => .inr ⟨by simp,h⟩
 | (k,v) :: r,y,n,o,h => by
  change (bif Nat.beq k n then some v else lk (r ++ y) n) = some o at h
  cases hb:Nat.beq k n with
  | true =>
   rw [hb,cond_true] at h
   injection h with h
   exact .inl ⟨(k,v),List.mem_cons_self,Nat.eq_of_beq_eq_true hb,h⟩
  | false =>
   rw [hb,cond_false] at h
   rcases Xb r y n o h with ⟨p,hp,h1,h2⟩ | ⟨h0,h1⟩
   ·exact .inl ⟨p,List.mem_cons_of_mem _ hp,h1,h2⟩
   ·refine .inr ⟨fun hm => ?_,h1⟩
    cases hm with
    | head => exact Nat.ne_of_beq_eq_false hb rfl
    | tail _ hm => exact h0 hm
theorem VZ (a:Act) (d t:Nat) (u:Value) (hd:d < a.tmps.size):(a.put (some d) u).tmps.getD t undef = if d = t then u else a.tmps.getD t undef:=by
 show (a.tmps.setIfInBounds d u).getD t undef = _
 simp only [Array.getD_eq_getD_getElem?,Array.getElem?_setIfInBounds]
 split
 ·subst_vars; simp [hd]
 ·rfl
theorem X7 (a:Act) (d:Option Tmp) (u:Value):(a.put d u).tmps.size = a.tmps.size:=by cases d <;> simp [Act.put]
theorem X6 (a:Act) (d:Option Tmp) (u:Value):(a.put d u).defers = a.defers:=by cases d <;> rfl
theorem St.step (hs:St P C σ m R B g a w) {us df:Mem} {W X:List Nat} {d:Option Tmp} {v:AV} {u:Value} {R' B':Nat → Prop} {g':Nat → GS} {w':World}
  (hus:pF m us) (hW:∀ n ∈ W,(n ∈ X ∨ n ∈ df.map (·.1)) ∧ ∃ o,(n,o) ∈ us) (hdf:∀ p ∈ df,p.1 ∈ X ∨ p.1 ∈ W) (hd:iF C.N d = true) (hpn:∀ n ∈ X,n ∉ C.pn)
  (had:iR R B g w W X R' B' g' w') (hR:∀ b,R' b → R b ∨ w.heap.size ≤ b) (hv:d.isSome = true → RA P w' R' B' g' v u) (hob:∀ p ∈ df,RO P w' R' B' g' p.1 p.2) :
  St P C (fO (kM X σ) d v) (df ++ jK X m) R' B' g' (a.put d u) w':=by
 have Vm:∀ n ∈ W,∀ b,(g n).has b → C.w0.heap.size ≤ b ∨ C.U0 b:=fun n hn b hb => by
  obtain ⟨_,o,ho⟩:=hW n hn
  exact hs.ow n o b (pF.ro hs hus (n,o) ho).2 hb
 refine ⟨had.wf,(X6 a d u).trans hs.nd,(X7 a d u).trans hs.sz,fun t v' ht => ?_,fun n o hn => ?_,fun n o b hn hb => ?_,fun b hb => ?_,fun b hb => had.r b (hs.r0 b hb),had.os.trans hs.os,had.tape.trans hs.tape,
  had.output.trans hs.output,Nat.le_trans hs.size had.size,fun b hb hu => ?_,fun n hn => (had.names n fun h => hpn n h hn).trans (hs.pin n hn),fun n hn b cur e hg hh => ?_⟩
 ·have base:∀ t v',lk (kM X σ) t = some v' → RA P w' R' B' g' v' (a.tmps.getD t undef):=fun t v' ht => by
   rw [IQ] at ht
   cases hl:lk σ t with
   | none => rw [hl] at ht; cases ht
   | some v0 =>
    rw [hl] at ht
    injection ht with ht
    subst ht
    exact had.ra hs.wf (hs.sl t v0 hl)
  cases d with
  | none => exact base t v' ht
  | some d =>
   have hlt:d < a.tmps.size:=by rw [hs.sz]; exact Nat.le_of_ble_eq_true hd
   rw [VZ a d t u hlt]
   change (bif Nat.beq d t then some v else lk (kM X σ) t) = some v' at ht
   cases hb:Nat.beq d t with
   | true =>
    rw [hb,cond_true] at ht
    injection ht with ht
    subst ht
    rw [if_pos (Nat.eq_of_beq_eq_true hb)]
    exact hv rfl
   | false =>
    rw [hb,cond_false] at ht
    rw [if_neg (Nat.ne_of_beq_eq_false hb)]
    exact base t v' ht
 ·rcases Xb _ _ _ _ hn with ⟨p,hp,h1,h2⟩ | ⟨hnd,h1⟩
  ·subst h1; subst h2; exact hob p hp
  ·obtain ⟨h2,o0,h3,h4⟩:=IL X m n o h1
   subst h4
   exact had.ro hs.wf h2 (fun nI => by
    rcases (hW n nI).1 with h5 | h5
    ·exact h2 h5
    ·exact hnd h5) (hs.ob n o0 h3)
 ·rcases Xb _ _ _ _ hn with ⟨p,hp,h1,h2⟩ | ⟨hnd,h1⟩
  ·subst h1
   by_cases hX:p.1 ∈ X
   ·rcases had.fresh p.1 hX b hb with h3 | ⟨k,hk,h3⟩
    ·exact .inl (Nat.le_trans hs.size h3)
    ·exact Vm k hk b h3
   ·rw [had.names p.1 hX] at hb
    exact Vm p.1 ((hdf p hp).resolve_left hX) b hb
  ·obtain ⟨h2,o0,h3,_⟩:=IL X m n o h1
   rw [had.names n h2] at hb
   exact hs.ow n o0 b h3 hb
 ·rcases hR b hb with h1 | h1
  ·exact hs.perm b h1
  ·exact .inr (Nat.le_trans hs.size h1)
 ·rw [had.heap b (Nat.lt_of_lt_of_le hb hs.size) fun n hn he => by
   rcases Vm n hn b he with h1 | h1
   ·omega
   ·exact hu h1]
  exact hs.heap b hb hu
 ·obtain ⟨c1,h1,h2⟩:=hs.shp n hn b cur e hg hh
  obtain ⟨c2,h3,h4⟩:=had.PX hs.wf (fun h => hpn n h hn) (by rw [hs.pin n hn]; exact hg) h1
  exact ⟨c2,h3,h4.trans h2⟩
theorem St.weak (hs:St P C σ m R B g a w) (h1:∀ t v,lk σ' t = some v → lk σ t = some v) (h2:∀ n o,lk m' n = some o → lk m n = some o):St P C σ' m' R B g a w :=
 { hs with sl:=fun t v h => hs.sl t v (h1 t v h),ob:=fun n o h => hs.ob n o (h2 n o h),ow:=fun n o b h => hs.ow n o b (h2 n o h) }
end
inductive It where
 | code (c:Code)
 | blk (id:Nat)
abbrev Post:=Exit → Slots → Mem → Prop
def lift (P:Program) (C:Ctx) (Q:Post) (e:Exit) (a:Act) (w:World):Prop:=∃ σ m R B g,St P C σ m R B g a w ∧ Q e σ m
def kI (P:Program) (Q:Exit → Act → World → Prop):List It → Exit → Act → World → Prop
 | [],e,a,w => Q e a w
 | .code c :: is,e,a,w => match e with
  | .normal => c.wp P (kI P Q is) a w
  | e => kI P Q is e a w
 | .blk id :: is,e,a,w => match e with
  | .exit id' => if id' = id then kI P Q is .normal a w else kI P Q is (.exit id') a w
  | e => kI P Q is e a w
def jB (P:Program) (C:Ctx) (is:List It) (e:Exit) (σ:Slots) (m:Mem) (Q:Post):Prop :=
 ∀ R B g a w,St P C σ m R B g a w → kI P (lift P C Q) is e a w
abbrev jd (P:Program) (C:Ctx) (is:List It) (σ:Slots) (m:Mem) (Q:Post):Prop:=jB P C is .normal σ m Q
def wB (P:Program) (C:Ctx) (ops:Array Oper) (rest:List Oper) (is:List It) (σ:Slots) (m:Mem) (Q:Post):Prop :=
 ∀ R B g a w,St P C σ m R B g a w → wpList P ops (kI P (lift P C Q) is) rest a w
def aQ (P:Program) (C:Ctx) (σ:Slots) (m:Mem) (σ':Slots) (m':Mem):Prop :=
 ∀ R B g a w,St P C σ m R B g a w → ∃ R' B' g',St P C σ' m' R' B' g' a w
def aA {τ:Type} (P:Program) (C:Ctx) (is:List It) (σ:Slots) (m:Mem) (M:Option τ) (K:τ → Post):Prop:=∀ t,M = some t → jd P C is σ m (K t)
def aEv {τ:Type} (P:Program) (C:Ctx) (is:List It) (e:Exit) (σ:Slots) (m:Mem) (M:Option τ) (K:τ → Post):Prop:=∀ t,M = some t → jB P C is e σ m (K t)
def aO {τ:Type} (P:Program) (C:Ctx) (ops:Array Oper) (rest:List Oper) (is:List It) (σ:Slots) (m:Mem) (M:Option τ) (K:τ → Post):Prop:=∀ t,M = some t → wB P C ops rest is σ m (K t)
def bG {σ τ:Type} (b:σ → Option (σ ⊕ τ)):Nat → σ → Option τ
 | 0,_ => none
 | n + 1,s => match b s with
  | none => none
  | some (.inl s') => bG b n s'
  | some (.inr t) => some t
section
variable {P:Program} {C:Ctx} {σ σ':Slots} {m m':Mem} {is:List It} {Q:Post} {ops:Array Oper} {rest:List Oper} {τ υ:Type} {M:Option τ} {K:τ → Post}
theorem jB.ent {e:Exit} (h:aQ P C σ m σ' m') (k:jB P C is e σ' m' Q):jB P C is e σ m Q:=fun R B g a w hs => by
 obtain ⟨R',B',g',hs'⟩:=h R B g a w hs
 exact k _ _ _ _ _ hs'
theorem jd.nil (h:Q .normal σ m):jd P C [] σ m Q:=fun R B g a w hs => ⟨σ,m,R,B,g,hs,h⟩
theorem jd.skip (h:jd P C is σ m Q):jd P C (.code .skip :: is) σ m Q:=fun R B g a w hs => wp_skip (h R B g a w hs)
theorem jd.blk {id:Nat} (h:jd P C is σ m Q):jd P C (.blk id :: is) σ m Q:=fun R B g a w hs => h R B g a w hs
theorem jd.seq {x y:Code} (h:jd P C (.code x :: .code y :: is) σ m Q):jd P C (.code (.seq x y) :: is) σ m Q:=fun R B g a w hs =>
 wp_seq (wp_mono (h R B g a w hs) fun e a w he => by cases e <;> exact he)
theorem jd.block {id:Nat} {c:Code} (h:jd P C (.code c :: .blk id :: is) σ m Q):jd P C (.code (.block id c) :: is) σ m Q:=fun R B g a w hs =>
 wp_block (wp_mono (h R B g a w hs) fun e a w he => by
  cases e with
  | exit id' =>
   exact he
  | _ => exact he)
theorem jd.exit {id:Nat} (h:jB P C is (.exit id) σ m Q):jd P C (.code (.exit id) :: is) σ m Q:=fun R B g a w hs => wp_exit (h R B g a w hs)
theorem jd.ret (h:jB P C is .ret σ m Q):jd P C (.code .ret :: is) σ m Q:=fun R B g a w hs => wp_ret (h R B g a w hs)
theorem jB.nil {e:Exit} (h:Q e σ m):jB P C [] e σ m Q:=fun R B g a w hs => ⟨σ,m,R,B,g,hs,h⟩
theorem jB.aGa {id:Nat} (h:jd P C is σ m Q):jB P C (.blk id :: is) (.exit id) σ m Q:=fun R B g a w hs => by
 show (if id = id then _ else _)
 rw [if_pos rfl]
 exact h R B g a w hs
theorem jB.aAe {id id':Nat} (hne:id' ≠ id) (h:jB P C is (.exit id') σ m Q):jB P C (.blk id :: is) (.exit id') σ m Q:=fun R B g a w hs => by
 show (if id' = id then _ else _)
 rw [if_neg hne]
 exact h R B g a w hs
theorem jB.aAd {id:Nat} {c:Code} (h:jB P C is (.exit id) σ m Q):jB P C (.code c :: is) (.exit id) σ m Q:=fun R B g a w hs => h R B g a w hs
theorem jB.aKk {id:Nat} (h:jB P C is .ret σ m Q):jB P C (.blk id :: is) .ret σ m Q:=fun R B g a w hs => h R B g a w hs
theorem jB.aKl {c:Code} (h:jB P C is .ret σ m Q):jB P C (.code c :: is) .ret σ m Q:=fun R B g a w hs => h R B g a w hs
def EZ (id:Nat):List It → List It
 | [] => []
 | .code _ :: is => EZ id is
 | .blk i :: is => bif Nat.beq i id then is else EZ id is
def yQ (id:Nat):List It → Bool
 | [] => false
 | .code _ :: is => yQ id is
 | .blk i :: is => Nat.beq i id || yQ id is
theorem jB.MJ {id:Nat}:∀ {is:List It},yQ id is = true → jd P C (EZ id is) σ m Q → jB P C is (.exit id) σ m Q
 | [],h,_ => by cases h
 | .code c :: is,h,k => jB.aAd (jB.MJ (is:=is) h k)
 | .blk i :: is,h,k => by
  unfold yQ at h
  unfold EZ at k
  cases hb:Nat.beq i id with
  | true =>
   rw [hb,cond_true] at k
   have:=Nat.eq_of_beq_eq_true hb
   subst this
   exact jB.aGa k
  | false =>
   rw [hb,cond_false] at k
   rw [hb,Bool.false_or] at h
   exact jB.aAe (Ne.symm (Nat.ne_of_beq_eq_false hb)) (jB.MJ (is:=is) h k)
theorem jB.Td:∀ {is:List It},Q .ret σ m → jB P C is .ret σ m Q
 | [],h => jB.nil h
 | .code _ :: is,h => jB.aKl (jB.Td (is:=is) h)
 | .blk _ :: is,h => jB.aKk (jB.Td (is:=is) h)
theorem jd.cond {c:Operand} {x y:Code} {b:Bool} (hc:fD σ c (.s (.c (.pv (.sc (.bool b)))))) (ht:b = true → jd P C (.code x :: is) σ m Q) (hf:b = false → jd P C (.code y :: is) σ m Q) :
  jd P C (.code (.cond c x y) :: is) σ m Q:=fun R B g a w hs => by
 have hv:=fD.ra hs hc
 have he:a.eval c = .bool b:=by
  obtain ⟨_,h2⟩:=hv
  generalize a.eval c = v at h2
  cases h2
  rfl
 refine wp_cond_split he (fun h => ?_) (fun h => ?_)
 ·exact ht h R B g a w hs
 ·exact hf h R B g a w hs
theorem jd.region {id:Nat} {l:List Oper} (h:wB P C l.toArray l is σ m Q):jd P C (.code (.region id l.toArray false) :: is) σ m Q:=fun R B g a w hs => wp_region_lit (h R B g a w hs)
theorem wB.nil (h:jd P C is σ m Q):wB P C ops [] is σ m Q:=fun R B g a w hs => wpList_nil (h R B g a w hs)
def fG (W X:List Nat):Bool:=W.all X.elem
def mP (X Y:List Nat):Bool:=X.all fun n => !Y.elem n
theorem Qg {X Y:List Nat} (h:mP X Y = true):∀ n ∈ X,n ∉ Y:=fun n hn => by
 have:=List.all_eq_true.1 h n hn
 exact mM (by simpa using this)
def keys {α:Type} (l:List (Nat × α)):List Nat:=l.map (·.1)
theorem xG {W X:List Nat} (h:fG W X = true):∀ n ∈ W,n ∈ X:=fun n hn => List.mem_of_elem_eq_true (List.all_eq_true.1 h n hn)
theorem mem_keys {α:Type} {l:List (Nat × α)} {n:Nat} (h:n ∈ keys l):∃ o,(n,o) ∈ l:=by
 obtain ⟨p,hp,rfl⟩:=List.mem_map.1 h
 exact ⟨p.2,hp⟩
def iJ (ops:Array Oper) (σ:Slots) (o:Oper) (b:Bool):Prop:=match o.guard with
 | none => b = true
 | some (j,want) => ∃ d,(ops[j]?).bind (·.dst) = some d ∧ ((∃ c,lk σ d = some (.s (.c (.pv (.sc (.bool c))))) ∧ b = (c == want)) ∨ (lk σ d = some (.dM []) ∧ b = false))
theorem iJ.wanted {o:Oper} {b:Bool} {R B:Nat → Prop} {g:Nat → GS} {a:Act} {w:World} (hs:St P C σ m R B g a w) (h:iJ ops σ o b):Region.wanted o (yielded ops a.tmps) = b:=by
 unfold iJ at h
 unfold Region.wanted
 split at h
 ·rename_i hg; rw [hg]; exact h.symm
 ·rename_i j want hg
  obtain ⟨d,h1,⟨c,h2,h3⟩ | ⟨h2,h3⟩⟩:=h
  ·rw [hg]
   have hv:=hs.sl d _ h2
   have he:a.tmps.getD d undef = .bool c:=by
    obtain ⟨_,hv⟩:=hv
    generalize a.tmps.getD d undef = v at hv
    cases hv
    rfl
   have he':a.tmps[d]? = some (.bool c):=by
    rw [Array.getD_eq_getD_getElem?] at he
    cases hx:a.tmps[d]? with
    | none => rw [hx] at he; simp [undef] at he
    | some v => rw [hx] at he; simpa using he
   have hy:yielded ops a.tmps j = some c:=by
    unfold yielded
    rw [h1]
    simp [he']
   simp only [hy]
   rw [h3]
   cases c <;> cases want <;> rfl
  ·rw [hg]
   obtain ⟨vs,hv,hl,_⟩:=hs.sl d _ h2
   have hvs:vs = []:=List.eq_nil_of_length_eq_zero hl
   subst hvs
   have hy:yielded ops a.tmps j = none:=by
    unfold yielded
    rw [h1]
    simp only [Option.bind_some]
    rw [Array.getD_eq_getD_getElem?] at hv
    cases hx:a.tmps[d]? with
    | none => rfl
    | some v =>
     rw [hx] at hv
     have:v = .tuple #[]:=by simpa using hv
     subst this
     rfl
   simp only [hy]
   rw [h3]
   rfl
theorem wB.step {o:Oper} {ins:List (Operand × AV)} {us df:Mem} {v:AV} {W X:List Nat} (hlt:LT P o ins us v df W X) (hi:EvL σ ins) (hu:pF m us) (hg:iJ ops σ o true)
  (hside:(iF C.N o.dst && fG W (X ++ keys df) && fG W (keys us) && fG (keys df) (X ++ W) && mP X C.pn) = true) (h:wB P C ops rest is (fO (kM X σ) o.dst v) (df ++ jK X m) Q):wB P C ops (o :: rest) is σ m Q:=fun R B g a w hs => by
 simp only [Bool.and_eq_true] at hside
 obtain ⟨⟨⟨⟨h1,h2⟩,h3⟩,h4⟩,h5⟩:=hside
 refine wpList_step fun K' hK' => ?_
 rw [if_pos (hg.wanted hs)]
 refine hlt R B g w a hs.wf (EvL.ra hs hi) (fun p hp => (pF.ro hs hu p hp).1) K' _ fun u R' B' g' w' had hR hv hob => ?_
 exact hK' _ _ (h _ _ _ _ _ (hs.step hu (fun n hn => ⟨List.mem_append.1 (xG h2 n hn),mem_keys (xG h3 n hn)⟩) (fun p hp => List.mem_append.1 (xG h4 p.1 (List.mem_map.2 ⟨p,hp,rfl⟩))) h1 (Qg h5) had hR hv hob))
theorem wB.skip {o:Oper} (hg:iJ ops σ o false) (hd:iF C.N o.dst = true) (h:wB P C ops rest is (fO σ o.dst (.dM [])) m Q):wB P C ops (o :: rest) is σ m Q:=fun R B g a w hs => by
 refine wpList_step fun K' hK' => ?_
 rw [if_neg (by rw [hg.wanted hs]; exact Bool.false_ne_true)]
 refine hK' _ _ (h R B g _ w ?_)
 refine { hs with nd:=(X6 a _ _).trans hs.nd,sz:=(X7 a _ _).trans hs.sz,sl:=fun t v ht => ?_ }
 cases hdst:o.dst with
 | none => rw [hdst] at ht; exact hs.sl t v ht
 | some d =>
  rw [hdst] at ht hd
  have hlt:d < a.tmps.size:=by rw [hs.sz]; exact Nat.le_of_ble_eq_true hd
  rw [VZ a d t undef hlt]
  change (bif Nat.beq d t then some (AV.dM []) else lk σ t) = some v at ht
  cases hb:Nat.beq d t with
  | true =>
   rw [hb,cond_true] at ht
   injection ht with ht
   subst ht
   rw [if_pos (Nat.eq_of_beq_eq_true hb)]
   exact ⟨[],rfl,rfl,fun k x hk => by simp at hk⟩
  | false =>
   rw [hb,cond_false] at ht
   rw [if_neg (Nat.ne_of_beq_eq_false hb)]
   exact hs.sl t v ht
theorem aA.seq {x y:Code} (h:aA P C (.code x :: .code y :: is) σ m M K):aA P C (.code (.seq x y) :: is) σ m M K:=fun t ht => jd.seq (h t ht)
theorem aA.skip (h:aA P C is σ m M K):aA P C (.code .skip :: is) σ m M K:=fun t ht => jd.skip (h t ht)
theorem aA.blk {id:Nat} (h:aA P C is σ m M K):aA P C (.blk id :: is) σ m M K:=fun t ht => jd.blk (h t ht)
theorem aA.block {id:Nat} {c:Code} (h:aA P C (.code c :: .blk id :: is) σ m M K):aA P C (.code (.block id c) :: is) σ m M K:=fun t ht => jd.block (h t ht)
theorem aA.exit {id:Nat} (hb:yQ id is = true) (h:aA P C (EZ id is) σ m M K):aA P C (.code (.exit id) :: is) σ m M K:=fun t ht => jd.exit (jB.MJ hb (h t ht))
theorem aA.aGb {id:Nat} {t:τ} (h:jB P C is (.exit id) σ m (K t)):aA P C (.code (.exit id) :: is) σ m (some t) K:=fun t' ht => by
 injection ht with ht
 subst ht
 exact jd.exit h
theorem aA.ret {t:τ} (h:K t .ret σ m):aA P C (.code .ret :: is) σ m (some t) K:=fun t' ht => by
 injection ht with ht
 subst ht
 exact jd.ret (jB.Td h)
theorem aA.nil {t:τ} (h:K t .normal σ m):aA P C [] σ m (some t) K:=fun t' ht => by
 injection ht with ht
 subst ht
 exact jd.nil h
theorem aA.region {id:Nat} {l:List Oper} (h:aO P C l.toArray l is σ m M K):aA P C (.code (.region id l.toArray false) :: is) σ m M K:=fun t ht => jd.region (h t ht)
theorem aA.ent (h:aQ P C σ m σ' m') (k:aA P C is σ' m' M K):aA P C is σ m M K:=fun t ht => jB.ent h (k t ht)
theorem aA.cond {c:Operand} {x y:Code} {b:Bool} {M1 M2:Option τ} (hc:fD σ c (.s (.c (.pv (.sc (.bool b)))))) (ht:b = true → aA P C (.code x :: is) σ m M1 K)
  (hf:b = false → aA P C (.code y :: is) σ m M2 K):aA P C (.code (.cond c x y) :: is) σ m (bif b then M1 else M2) K:=fun t h => by
 refine jd.cond hc (fun hb => ?_) (fun hb => ?_)
 ·subst hb; exact ht rfl t h
 ·subst hb; exact hf rfl t h
theorem aA.none:aA P C is σ m (none:Option τ) K:=fun t h => by cases h
theorem aO.nil (h:aA P C is σ m M K):aO P C ops [] is σ m M K:=fun t ht => wB.nil (h t ht)
theorem aO.bind {x:Option υ} {f:υ → Option τ} (h:∀ u,x = some u → aO P C ops rest is σ m (f u) K):aO P C ops rest is σ m (x.bind f) K:=fun t ht => by
 obtain ⟨u,hu,hf⟩:=Option.bind_eq_some_iff.1 ht
 exact h u hu t hf
theorem aO.split {b:Bool} {M1 M2:Option τ} (ht:b = true → aO P C ops rest is σ m M1 K) (hf:b = false → aO P C ops rest is σ m M2 K):aO P C ops rest is σ m (bif b then M1 else M2) K:=fun t h => by
 cases hb:b with
 | true => rw [hb] at h; exact ht hb t h
 | false => rw [hb] at h; exact hf hb t h
theorem aO.step {o:Oper} {ins:List (Operand × AV)} {us df:Mem} {v:AV} {W X:List Nat} (hlt:LT P o ins us v df W X) (hi:EvL σ ins) (hu:pF m us) (hg:iJ ops σ o true)
  (hside:(iF C.N o.dst && fG W (X ++ keys df) && fG W (keys us) && fG (keys df) (X ++ W) && mP X C.pn) = true) (h:aO P C ops rest is (fO (kM X σ) o.dst v) (df ++ jK X m) M K):aO P C ops (o :: rest) is σ m M K :=
 fun t ht => wB.step hlt hi hu hg hside (h t ht)
theorem aO.skip {o:Oper} (hg:iJ ops σ o false) (hd:iF C.N o.dst = true) (h:aO P C ops rest is (fO σ o.dst (.dM [])) m M K):aO P C ops (o :: rest) is σ m M K :=
 fun t ht => wB.skip hg hd (h t ht)
theorem ZF:∀ l:List Nat,l.any (List.elem · []) = false
 | [] => rfl
 | _ :: r => ZF r
theorem SG (x:CV):bY [] x = x:=by
 cases x with
 | fn f caps => show (bif caps.any (List.elem · []) then CV.junk else CV.fn f caps) = _; rw [ZF]; rfl
 | _ => rfl
theorem aBo (x:SV):rY [] x = x:=by
 cases x with
 | c x => simp [rY,SG]
 | agg cs => simp [rY,List.map_congr_left (fun x _ => SG x)]
theorem aJc (x:AV):qB [] x = x:=by
 cases x with
 | s x => simp [qB,aBo]
 | dM xs => simp [qB,List.map_congr_left (fun x _ => aBo x)]
theorem aJf (x:Ob):nK [] x = x:=by
 cases x with
 | row e els => simp [nK,List.map_congr_left (fun x _ => SG x)]
 | dF e els => rfl
 | mp es => rfl
 | pool e rows => rfl
 | bZ e p lens => rfl
 | unk => rfl
theorem Ns (σ:Slots):kM [] σ = σ:=by
 unfold kM
 rw [List.map_congr_left (g:=id) fun p _ => by rw [aJc]; rfl,List.map_id]
theorem II:∀ m:Mem,jK [] m = m
 | [] => rfl
 | (n,o) :: r => by simp [jK,List.elem,aJf,II r]
theorem aO.pure {o:Oper} {ins:List (Operand × AV)} {us:Mem} {v:AV} (hlt:LT P o ins us v [] [] []) (hi:EvL σ ins) (hu:pF m us) (hg:iJ ops σ o true)
  (hd:iF C.N o.dst = true) (h:aO P C ops rest is (fO σ o.dst v) m M K):aO P C ops (o :: rest) is σ m M K :=
 aO.step hlt hi hu hg (by rw [hd]; rfl) (by rw [Ns,II]; exact h)
theorem aA.join {c:Code} {M1:Option υ} {f:υ → Option τ} (S:υ → Slots × Mem) (h1:aA P C [.code c] σ m M1 fun t e σ' m' => e = .normal ∧ aQ P C σ' m' (S t).1 (S t).2)
  (h2:∀ t,M1 = some t → aA P C is (S t).1 (S t).2 (f t) K):aA P C (.code c :: is) σ m (M1.bind f) K:=fun t ht R B g a w hs => by
 obtain ⟨u,hu,hf⟩:=Option.bind_eq_some_iff.1 ht
 refine wp_mono (h1 u hu R B g a w hs) fun e a w he => ?_
 obtain ⟨σ',m',R',B',g',hs',rfl,hent⟩:=he
 obtain ⟨R2,B2,g2,hs2⟩:=hent _ _ _ _ _ hs'
 exact h2 u hu t hf _ _ _ _ _ hs2
theorem jd.loop {σs:Type} {body:Code} (bm:σs → Option (σs ⊕ τ)) (S:σs → Slots × Mem) (Lv:τ → Post)
  (hb:∀ s,aA P C [.code body] (S s).1 (S s).2 (bm s) fun o e σ m => match o with
   | .inl s' => e = .normal ∧ aQ P C σ m (S s').1 (S s').2
   | .inr t => e ≠ .normal ∧ Lv t e σ m)
  (t:τ) (hl:∀ e σ m,Lv t e σ m → jB P C is e σ m Q):∀ (n:Nat) (s:σs),bG bm n s = some t → jd P C (.code (.loop body) :: is) (S s).1 (S s).2 Q:=by
 intro n s hM R B g a w hs
 refine wp_loop_rounds n ?_
 induction n generalizing s R B g a w with
 | zero => cases hM
 | succ n ih =>
  rw [rounds_succ]
  unfold bG at hM
  cases hbs:bm s with
  | none => rw [hbs] at hM; cases hM
  | some o =>
   rw [hbs] at hM
   refine wp_mono (hb s o hbs R B g a w hs) fun e a' w' he => ?_
   obtain ⟨σ',m',R',B',g',hs',hp⟩:=he
   cases o with
   | inl s' =>
    obtain ⟨rfl,hent⟩:=hp
    obtain ⟨R2,B2,g2,hs2⟩:=hent _ _ _ _ _ hs'
    exact ih s' hM _ _ _ _ _ hs2
   | inr t' =>
    obtain ⟨hne,hlv⟩:=hp
    change some t' = some t at hM
    injection hM with hM
    subst hM
    have hk:=hl e σ' m' hlv _ _ _ _ _ hs'
    cases e with
    | normal => exact absurd rfl hne
    | _ => exact hk
theorem aA.loop {σs:Type} {body:Code} (bm:σs → Option (σs ⊕ υ)) (S:σs → Slots × Mem) (Lv:υ → Post) {f:υ → Option τ} {n:Nat} {s:σs}
  (hb:∀ s,aA P C [.code body] (S s).1 (S s).2 (bm s) fun o e σ m => match o with
   | .inl s' => e = .normal ∧ aQ P C σ m (S s').1 (S s').2
   | .inr t => e ≠ .normal ∧ Lv t e σ m)
  (h0:aQ P C σ m (S s).1 (S s).2) (hl:∀ u e σ m,bG bm n s = some u → Lv u e σ m → aEv P C is e σ m (f u) K):aA P C (.code (.loop body) :: is) σ m ((bG bm n s).bind f) K:=fun t ht => by
 obtain ⟨u,hu,hf⟩:=Option.bind_eq_some_iff.1 ht
 exact jB.ent h0 (jd.loop bm S Lv hb u (fun e σ m hlv => hl u e σ m hu hlv t hf) n s hu)
end
end
section
abbrev iC (n:Int):CV:=.pv (.sc (.int .i64 n))
abbrev bC (b:Bool):CV:=.pv (.sc (.bool b))
abbrev sC (v:Value):CV:=.pv (.sc v)
abbrev Cc (x:CV):AV:=.s (.c x)
abbrev Ag (cs:List CV):AV:=.s (.agg cs)
abbrev Iv (n:Int):AV:=.s (.c (.pv (.sc (.int .i64 n))))
abbrev Bv (b:Bool):AV:=.s (.c (.pv (.sc (.bool b))))
abbrev Sv (v:Value):AV:=.s (.c (.pv (.sc v)))
abbrev aJ:Value:=.slice none 0 0
def aB (n:Int):Int:=IntKind.i64.wrap n
theorem vk {n:Int} (h1:-9223372036854775808 ≤ n) (h2:n ≤ 9223372036854775807):aB n = n:=by
 unfold aB; rw [IntKind.wrap_i64]; omega
theorem oW {P:Program} {w:World} {R B:Nat → Prop} {g:Nat → GS} {c v:Value} (h:RA P w R B g (.s (.c (.pv (.sc c)))) v):v = c:=by
 obtain ⟨_,h2⟩:=h
 cases h2
 rfl
theorem vW {P:Program} {w:World} {R B:Nat → Prop} {g:Nat → GS} {c:Value} (h:c.oneCell' = true):RA P w R B g (.s (.c (.pv (.sc c)))) c:=⟨h,.sc h⟩
theorem iR.refl {R B:Nat → Prop} {g:Nat → GS} {w:World} (h:WF R B g w):iR R B g w [] [] R B g w :=
 ⟨h,fun _ h => h,fun _ h => h,rfl,rfl,rfl,Nat.le_refl _,fun _ _ _ => rfl,fun _ _ => rfl,fun n hn => (by cases hn),fun n hn => (by cases hn)⟩
section
variable {P:Program} {o:Oper} {us:Mem}
theorem LT.calm {ins:List (Operand × AV)} {v:AV}
  (h:∀ R B g w (a:Act),WF R B g w → (∀ p ∈ ins,RA P w R B g p.2 (a.eval p.1)) → (∀ p ∈ us,RO P w R B g p.1 p.2) → ∃ u,(execOp a.eval o).run P w = .ok (.value u) w ∧ RA P w R B g v u):LT P o ins us v [] [] []:=by
 intro R B g w a hw hi hu K Q hK
 obtain ⟨u,hr,hv⟩:=h R B g w a hw hi hu
 unfold Oper.wp
 rw [hr]
 exact hK u R B g w (.refl hw) (fun b hb => .inl hb) (fun _ => hv) (fun p hp => by cases hp)
theorem in1 {P:Program} {w:World} {R B:Nat → Prop} {g:Nat → GS} {a:Act} {x:Operand} {v:AV} {r:List (Operand × AV)} (h:∀ p ∈ (x,v) :: r,RA P w R B g p.2 (a.eval p.1)):RA P w R B g v (a.eval x):=h (x,v) List.mem_cons_self
theorem in2 {P:Program} {w:World} {R B:Nat → Prop} {g:Nat → GS} {a:Act} {x y:Operand} {v u:AV} {r:List (Operand × AV)} (h:∀ p ∈ (x,v) :: (y,u) :: r,RA P w R B g p.2 (a.eval p.1)):RA P w R B g u (a.eval y):=h (y,u) (List.mem_cons_of_mem _ List.mem_cons_self)
theorem in3 {P:Program} {w:World} {R B:Nat → Prop} {g:Nat → GS} {a:Act} {x y z:Operand} {v u t:AV} {r:List (Operand × AV)} (h:∀ p ∈ (x,v) :: (y,u) :: (z,t) :: r,RA P w R B g p.2 (a.eval p.1)):RA P w R B g t (a.eval z):=h (z,t) (List.mem_cons_of_mem _ (List.mem_cons_of_mem _ List.mem_cons_self))
theorem uq {P:Program} {w:World} {R B:Nat → Prop} {g:Nat → GS} {n:Nat} {ob:Ob} {r:Mem} (h:∀ p ∈ (n,ob) :: r,RO P w R B g p.1 p.2):RO P w R B g n ob:=h (n,ob) List.mem_cons_self
theorem us2 {P:Program} {w:World} {R B:Nat → Prop} {g:Nat → GS} {n k:Nat} {ob oc:Ob} {r:Mem} (h:∀ p ∈ (n,ob) :: (k,oc) :: r,RO P w R B g p.1 p.2):RO P w R B g k oc:=h (k,oc) (List.mem_cons_of_mem _ List.mem_cons_self)
theorem LT.move {x:Operand} {v:AV} (ho:o.op = .move x):LT P o [(x,v)] [] v [] [] []:=.calm fun R B g w a _ hi _ => ⟨a.eval x,by simp [execOp,ho],in1 hi⟩
theorem LT.assign {x:Operand} {v:AV} (ho:o.op = .assign x):LT P o [(x,v)] [] v [] [] []:=.calm fun R B g w a _ hi _ => ⟨a.eval x,by simp [execOp,ho],in1 hi⟩
theorem LT.qR {c x y:Operand} {v:AV} {b:Bool} (ho:o.op = .pick c x y) (hb:b = true):LT P o [(c,Bv b),(x,v)] [] v [] [] []:=.calm fun R B g w a _ hi _ =>
 ⟨a.eval x,by simp [execOp,ho,oW (in1 hi),hb,asBool],in2 hi⟩
theorem LT.rC {c x y:Operand} {v:AV} {b:Bool} (ho:o.op = .pick c x y) (hb:b = false):LT P o [(c,Bv b),(y,v)] [] v [] [] []:=.calm fun R B g w a _ hi _ =>
 ⟨a.eval y,by simp [execOp,ho,oW (in1 hi),hb,asBool],in2 hi⟩
theorem LT.bin {op:BinOp} {t t':TypeId} {x y:Operand} {k k':IntKind} {m n:Int} {r:Value} (ho:o.op = .binOp op t x y t') (hr:r.oneCell' = true) (h:binOp op t (.int k m) (.int k' n) = pure r) :
  LT P o [(x,Sv (.int k m)),(y,Sv (.int k' n))] [] (Sv r) [] [] []:=.calm fun R B g w a _ hi _ =>
 ⟨r,by simp [execOp,ho,oW (in1 hi),oW (in2 hi),eqGuard_at_int,h],vW hr⟩
section
variable {t t':TypeId} {x y:Operand} {k:IntKind} {m n:Int}
theorem LT.add (ho:o.op = .binOp .add t x y t'):LT P o [(x,Iv m),(y,Iv n)] [] (Iv (aB (m + n))) [] [] []:=.bin ho rfl (by rw [binOp_add]; rfl)
theorem LT.sub (ho:o.op = .binOp .sub t x y t'):LT P o [(x,Iv m),(y,Iv n)] [] (Iv (aB (m - n))) [] [] []:=.bin ho rfl (by rw [binOp_sub]; rfl)
theorem LT.mul (ho:o.op = .binOp .mul t x y t'):LT P o [(x,Iv m),(y,Iv n)] [] (Iv (aB (m * n))) [] [] []:=.bin ho rfl (by rw [binOp_mul]; rfl)
theorem LT.quo (ho:o.op = .binOp .quo t x y t') (hn:n ≠ 0):LT P o [(x,Iv m),(y,Iv n)] [] (Iv (aB (m.tdiv n))) [] [] []:=.bin ho rfl (by rw [binOp_quo]; simp [Op.intDiv,hn]; rfl)
theorem LT.rem (ho:o.op = .binOp .rem t x y t') (hn:n ≠ 0):LT P o [(x,Iv m),(y,Iv n)] [] (Iv (m.tmod n)) [] [] []:=.bin ho rfl (by rw [binOp_rem]; simp [Op.intDiv,hn])
theorem LT.lss (ho:o.op = .binOp .lss t x y t'):LT P o [(x,Sv (.int k m)),(y,Sv (.int k n))] [] (Bv (decide (m < n))) [] [] []:=.bin ho rfl (binOp_lss ..)
theorem LT.leq (ho:o.op = .binOp .leq t x y t'):LT P o [(x,Sv (.int k m)),(y,Sv (.int k n))] [] (Bv (decide (m ≤ n))) [] [] []:=.bin ho rfl (binOp_leq ..)
theorem LT.gtr (ho:o.op = .binOp .gtr t x y t'):LT P o [(x,Sv (.int k m)),(y,Sv (.int k n))] [] (Bv (decide (n < m))) [] [] []:=.bin ho rfl (binOp_gtr ..)
theorem LT.geq (ho:o.op = .binOp .geq t x y t'):LT P o [(x,Sv (.int k m)),(y,Sv (.int k n))] [] (Bv (decide (n ≤ m))) [] [] []:=.bin ho rfl (binOp_geq ..)
theorem LT.eql (ho:o.op = .binOp .eql t x y t'):LT P o [(x,Sv (.int k m)),(y,Sv (.int k n))] [] (Bv (m == n)) [] [] []:=.bin ho rfl (binOp_eql ..)
theorem LT.neq (ho:o.op = .binOp .neq t x y t'):LT P o [(x,Sv (.int k m)),(y,Sv (.int k n))] [] (Bv (m != n)) [] [] []:=.bin ho rfl (binOp_neq ..)
theorem LT.and (ho:o.op = .binOp .and t x y t'):LT P o [(x,Sv (.int k m)),(y,Sv (.int k n))] [] (Sv (.int k (bits .and k m n))) [] [] []:=.bin ho rfl (by rw [binOp_and]; rfl)
theorem LT.xor (ho:o.op = .binOp .xor t x y t'):LT P o [(x,Sv (.int k m)),(y,Sv (.int k n))] [] (Sv (.int k (bits .xor k m n))) [] [] []:=.bin ho rfl (by rw [binOp_xor]; rfl)
def rF (m n:Int):Int:=m.fdiv (2 ^ (min n.toNat 64))
theorem LT.shr {k':IntKind} (ho:o.op = .binOp .shr t x y t') (hn:0 ≤ n):LT P o [(x,Iv m),(y,Sv (.int k' n))] [] (Iv (rF m n)) [] [] []:=.bin ho rfl (by
 rw [binOp_shr]; simp [Op.shift,rF,IntKind.bits]; omega)
theorem LT.neg (ho:o.op = .unOp .neg t x):LT P o [(x,Iv m)] [] (Iv (aB (-m))) [] [] []:=.calm fun R B g w a _ hi _ =>
 ⟨.int .i64 (aB (-m)),by simp [execOp,ho,oW (in1 hi),Op.unary,Op.intArith,aB],vW rfl⟩
theorem LT.not {b:Bool} (ho:o.op = .unOp .not t x):LT P o [(x,Bv b)] [] (Bv (!b)) [] [] []:=.calm fun R B g w a _ hi _ =>
 ⟨.bool (!b),by simp [execOp,ho,oW (in1 hi),Op.unary],vW rfl⟩
theorem LT.aAK {k':IntKind} {s d:TypeId} (ho:o.op = .convert s d x) (hs:(P.underlying s).isSome = true) (hd:P.underlying d = some (.int k')):LT P o [(x,Sv (.int k m))] [] (Sv (.int k' (k'.wrap m))) [] [] []:=.calm fun R B g w a _ hi _ =>
 ⟨.int k' (k'.wrap m),by
  obtain ⟨ds,hds⟩:=Option.isSome_iff_exists.mp hs
  simp [execOp,ho,oW (in1 hi),convert,run_underlying hds,run_underlying hd,Conv.intToInt],vW rfl⟩
end
theorem run_equal_bool {P:Program} {t:TypeId} (ht:P.underlying t = some .bool) (b c:Bool) (w:World):(Op.equal t (.bool b) (.bool c)).run P w = .ok (b == c) w:=by
 have h:∀ d:Nat,(Op.equalIn (d + 1) t (.bool b) (.bool c)).run P w = .ok (b == c) w:=fun d => by simp [Op.equalIn,run_underlying ht]
 exact h 9999
theorem LT.aGY {t t':TypeId} {x y:Operand} {b c:Bool} (ho:o.op = .binOp .eql t x y t') (ht:P.underlying t = some .bool):LT P o [(x,Bv b),(y,Bv c)] [] (Bv (b == c)) [] [] []:=.calm fun R B g w a _ hi _ =>
 ⟨.bool (b == c),by simp [execOp,ho,oW (in1 hi),oW (in2 hi),eqGuard_at_bool,binOp,run_equal_bool ht],vW rfl⟩
theorem LT.Xi {t t':TypeId} {x y:Operand} {b c:Bool} (ho:o.op = .binOp .neq t x y t') (ht:P.underlying t = some .bool):LT P o [(x,Bv b),(y,Bv c)] [] (Bv (b != c)) [] [] []:=.calm fun R B g w a _ hi _ =>
 ⟨.bool (b != c),by simp [execOp,ho,oW (in1 hi),oW (in2 hi),eqGuard_at_bool,binOp,run_equal_bool ht,bne],vW rfl⟩
theorem LT.aJn {x:Operand} {t e:TypeId} {q:Bool} {els:List (List PV)} (ho:o.op = .call { callee:=.builtin .len,args:=#[x],argTypes:=#[t] }) (ht:P.underlying t = some (.slice e)) :
  LT P o [(x,Cc (.pv (.xs q els)))] [] (Iv els.length) [] [] []:=.calm fun R B g w a _ hi _ => by
 obtain ⟨_,h⟩:=in1 hi
 generalize hx:a.eval x = v at h
 cases h with
 | emp => exact ⟨.int .i64 0,by simp [execOp,ho,resolve,invoke,builtin,hx,Builtin.len_,run_underlying ht,goInt],vW rfl⟩
 | xs val hn hq hc hs hv hr => subst hn; exact ⟨.int .i64 els.length,by simp [execOp,ho,resolve,invoke,builtin,hx,Builtin.len_,run_underlying ht,goInt],vW rfl⟩
theorem LT.lG {x:Operand} {t e:TypeId} {n off len:Nat} (ho:o.op = .call { callee:=.builtin .len,args:=#[x],argTypes:=#[t] }) (ht:P.underlying t = some (.slice e)) :
  LT P o [(x,Cc (.loc n off len))] [] (Iv len) [] [] []:=.calm fun R B g w a _ hi _ => by
 obtain ⟨_,h⟩:=in1 hi
 refine ⟨.int .i64 len,?_,vW rfl⟩
 rcases h with ⟨_,_,rfl,h⟩ | ⟨rfl,_,_,_,h⟩ | ⟨b,cap,cur,e',_,_,_,_,_,h⟩ <;> simp [execOp,ho,resolve,invoke,builtin,h,Builtin.len_,run_underlying ht,goInt]
theorem LT.min {x y:Operand} {ts:Array TypeId} {m n:Int} (ho:o.op = .call { callee:=.builtin .min,args:=#[x,y],argTypes:=ts }):LT P o [(x,Iv m),(y,Iv n)] [] (Iv (if n < m then n else m)) [] [] []:=.calm fun R B g w a _ hi _ =>
 ⟨.int .i64 (if n < m then n else m),by simp [execOp,ho,resolve,invoke,builtin,oW (in1 hi),oW (in2 hi),Builtin.min_,Builtin.min2],vW rfl⟩
theorem LT.max {x y:Operand} {ts:Array TypeId} {m n:Int} (ho:o.op = .call { callee:=.builtin .max,args:=#[x,y],argTypes:=ts }):LT P o [(x,Iv m),(y,Iv n)] [] (Iv (if m < n then n else m)) [] [] []:=.calm fun R B g w a _ hi _ =>
 ⟨.int .i64 (if m < n then n else m),by simp [execOp,ho,resolve,invoke,builtin,oW (in1 hi),oW (in2 hi),Builtin.max_,Builtin.max2],vW rfl⟩
theorem LT.extract {x:Operand} {k:Nat} {vs:List SV} {v:SV} (ho:o.op = .extract x k) (hk:vs[k]? = some v):LT P o [(x,.dM vs)] [] (.s v) [] [] []:=.calm fun R B g w a _ hi _ => by
 obtain ⟨us,hx,hl,h⟩:=in1 hi
 obtain ⟨u,hu,hr⟩:=h k v hk
 exact ⟨u,by simp [execOp,ho,hx,Instr.extract,hu],hr⟩
theorem LT.o6 {x:Operand} {n off:Nat} (ho:o.op = .nilCheck x):LT P o [(x,Cc (.pl n off))] [] (Cc (.pl n off)) [] [] []:=.calm fun R B g w a _ hi _ => by
 obtain ⟨h1,b,h2,h3⟩:=in1 hi
 exact ⟨a.eval x,by simp [execOp,ho,h3],h1,b,h2,h3⟩
def qO (P:Program) (t:TypeId) (i:Nat):Option Nat :=
 match P.underlying t with
 | some (.struct fs) => match fs[i]? with
  | some f => match P.info? f.type with
   | some j => if j.size = 0 then none else some f.offset
   | none => none
  | none => none
 | _ => none
theorem aDN {t:TypeId} {i off:Nat} (h:qO P t i = some off) (a:Addr) (w:World):(Instr.fieldAt t (.pointer (some a)) i).run P w = .ok (.pointer (some (a.add off))) w:=by
 unfold qO at h
 split at h
 ·rename_i fs hf
  split at h
  ·rename_i f hfi
   split at h
   ·rename_i j hj
    split at h
    ·cases h
    ·rename_i h0
     injection h with h
     subst h
     simp [Instr.fieldAt,run_underlying hf,hfi,Instr.sureAddr,fieldPlace,sizeOf,typeInfo,hj,h0]
   ·cases h
  ·cases h
 ·cases h
theorem add_lit (b i n:Nat):(⟨b,i,none⟩:Addr).add n = ⟨b,i + n,none⟩:=Addr.add_lit b i n
theorem add_add (a:Addr) (i j:Nat):(a.add i).add j = a.add (i + j):=by
 unfold Addr.add
 by_cases hi:i = 0 <;> by_cases hj:j = 0 <;> simp [hi,hj,Nat.add_assoc]
theorem LT.gU {x:Operand} {t:TypeId} {i n off d:Nat} (ho:o.op = .fieldAddr t x i) (h:qO P t i = some d):LT P o [(x,Cc (.pl n off))] [] (Cc (.pl n (off + d))) [] [] []:=.calm fun R B g w a _ hi _ => by
 obtain ⟨_,b,h2,h3⟩:=in1 hi
 exact ⟨.pointer (some ⟨b,off + d,none⟩),by simp [execOp,ho,h3,aDN h,add_lit],rfl,b,h2,rfl⟩
theorem LT.zN {x:Operand} {t:TypeId} {i d:Nat} {q:Bool} {cs:List PV} (ho:o.op = .fieldAddr t x i) (h:qO P t i = some d):LT P o [(x,Cc (.px q cs))] [] (Cc (.px q (cs.drop d))) [] [] []:=.calm fun R B g w a _ hi _ => by
 obtain ⟨_,ad,h2,h3,h4⟩:=in1 hi
 refine ⟨.pointer (some (ad.add d)),by simp [execOp,ho,h2,aDN h],rfl,ad.add d,rfl,by rw [add_block]; exact h3,fun k p hk => ?_⟩
 rw [List.getElem?_drop] at hk
 rw [add_add]
 exact h4 _ p hk
theorem YX {e:TypeId} {i:TypeInfo} (h:P.info? e = some i):cO P e = i.size:=by simp [cO,h]
theorem run_sizeOf {e:TypeId} {i:TypeInfo} (h:P.info? e = some i) (w:World):(sizeOf e).run P w = .ok (cO P e) w:=by simp [sizeOf,typeInfo,h,YX h]
def uK (P:Program) (t:TypeId):Option TypeId :=
 match P.underlying t with
 | some (.slice e) => if (P.info? e).isSome then some e else none
 | _ => none
theorem aGV {t e:TypeId} (h:uK P t = some e):P.underlying t = some (.slice e) ∧ ∃ i,P.info? e = some i:=by
 unfold uK at h
 split at h
 ·rename_i e' he
  split at h
  ·rename_i hi
   injection h with h
   subst h
   exact ⟨he,Option.isSome_iff_exists.1 hi⟩
  ·cases h
 ·cases h
theorem run_indexAt {t e:TypeId} (h:uK P t = some e) (a:Addr) (len cap:Nat) (k:IntKind) (i:Int) (h0:0 ≤ i) (h1:i < len) (w:World) :
  (Instr.indexAt t (.slice (some a) len cap) (.int k i)).run P w = .ok (.pointer (some (a.add (i.toNat * cO P e)))) w:=by
 obtain ⟨h2,j,h3⟩:=aGV h
 simp [Instr.indexAt,run_underlying h2,asIntOf,h0,h1,run_sizeOf h3]
theorem LT.aJP {x y:Operand} {t e:TypeId} {i:Int} {q:Bool} {els:List (List PV)} {cs:List PV} (ho:o.op = .indexAddr t x y) (h:uK P t = some e) (h0:0 ≤ i) (hc:els[i.toNat]? = some cs) (hs:cs.length = cO P e) :
  LT P o [(x,Cc (.pv (.xs q els))),(y,Iv i)] [] (Cc (.px q cs)) [] [] []:=.calm fun R B g w a _ hi _ => by
 have hy:=oW (in2 hi)
 obtain ⟨_,h⟩:=in1 hi
 generalize hx:a.eval x = v at h
 cases h with
 | emp => cases hc
 | @xs _ _ ad c s n val hn hq hl hs' hv hr =>
  have hlt:i.toNat < els.length:=(List.getElem?_eq_some_iff.1 hc).1
  have hsz:s = cO P e:=by rw [← hs]; exact (hs' cs (List.mem_of_getElem? hc)).symm
  subst hn
  refine ⟨.pointer (some (ad.add (i.toNat * cO P e))),by simp [execOp,ho,hx,hy,run_indexAt h ad els.length c .i64 i h0 (by omega)],rfl,_,rfl,by rw [add_block]; exact hq,fun k p hk => ?_⟩
  rw [add_add,← hsz]
  exact ⟨_,hv _ _ _ _ hc hk,hr _ _ _ _ hc hk⟩
theorem LT.XP {x y:Operand} {t e:TypeId} {i:Int} {n len:Nat} {els:List (List CV)} (ho:o.op = .indexAddr t x y) (h:uK P t = some e) (h0:0 ≤ i) (h1:i < len) :
  LT P o [(x,Cc (.loc n 0 len)),(y,Iv i)] [(n,.row e els)] (Cc (.pl n (i.toNat * cO P e))) [] [] []:=.calm fun R B g w a _ hi hu => by
 have hy:=oW (in2 hi)
 obtain ⟨_,h2⟩:=in1 hi
 rcases h2 with ⟨_,_,rfl,_⟩ | ⟨rfl,_⟩ | ⟨b,cap,cur,e',k1,k2,k3,k4,k5,k6⟩
 ·omega
 ·omega
 ·have he:e' = e:=by
   rcases uq hu with ⟨h5,_⟩ | ⟨b',cur',h5,h6,_⟩
   ·rw [k1] at h5; cases h5
   ·rw [k1] at h5
    injection h5 with h5
    subst h5
    rw [k2] at h6
    injection h6 with h6
    injection h6
  subst he
  simp only [Nat.zero_mul] at k6
  exact ⟨.pointer (some ⟨b,i.toNat * cO P e',none⟩),by simp [execOp,ho,k6,hy,run_indexAt h ⟨b,0,none⟩ len cap .i64 i h0 h1,add_lit],rfl,b,k1,rfl⟩
def lV (P:Program) (t:TypeId):Option Bool :=
 match P.underlying t with
 | some (.struct _) | some (.array ..) => some true
 | some _ => some false
 | none => none
theorem YI {t:TypeId} {b:Bool} (h:lV P t = some b) (w:World):(isAgg t).run P w = .ok b w:=by
 unfold lV at h
 split at h
 ·rename_i fs hf; injection h with h; subst h; simp [isAgg,run_underlying hf]
 ·rename_i n e hf; injection h with h; subst h; simp [isAgg,run_underlying hf]
 ·rename_i d h1 h2 hd
  injection h with h
  subst h
  simp only [isAgg,Sem.run_bind,run_underlying hd,Result.andThen_ok]
  rfl
 ·cases h
theorem YJ {t:TypeId} (h:lV P t = some false) {a:Addr} {w:World} {v:Value} (hc:w.cell? a = some v):(Instr.loadAt t (.pointer (some a))).run P w = .ok v w:=by
 simp [Instr.loadAt,Instr.sureAddr,loadVar,YI h,hc]
theorem aDO {t:TypeId} (h:lV P t = some true) {i:TypeInfo} (hi:P.info? t = some i) {a:Addr} {w:World} {cs:List Value} (hl:cs.length = cO P t) (hc:∀ j v,cs[j]? = some v → w.cell? (a.add j) = some v) :
  (Instr.loadAt t (.pointer (some a))).run P w = .ok (.agg cs.toArray) w:=by
 simp [Instr.loadAt,Instr.sureAddr,loadVar,YI h,run_sizeOf hi,← hl,run_loadCells_list w a cs hc]
theorem LT.iw {x:Operand} {t:TypeId} {q:Bool} {p:PV} {cs:List PV} (ho:o.op = .load t x) (h:lV P t = some false):LT P o [(x,Cc (.px q (p :: cs)))] [] (Cc (.pv p)) [] [] []:=.calm fun R B g w a _ hi _ => by
 obtain ⟨_,ad,h2,h3,h4⟩:=in1 hi
 obtain ⟨u,hu,hr⟩:=h4 0 p rfl
 have h0:ad.add 0 = ad:=Addr.add_zero' ad
 rw [h0] at hu
 exact ⟨u,by simp [execOp,ho,h2,YJ h hu],hr.oneCell,hr⟩
theorem QZ {α:Type} {T:Value → Nat → Prop} {Rl:α → Value → Prop}:∀ (cs:List α) (off:Nat),(∀ k x,cs[k]? = some x → ∃ u,T u (off + k) ∧ Rl x u) → ∃ us:List Value,us.length = cs.length ∧ (∀ (k:Nat) u,us[k]? = some u → T u (off + k)) ∧ ∀ (k:Nat) x,cs[k]? = some x → ∃ u,us[k]? = some u ∧ Rl x u
 | [],_,_ => ⟨[],rfl,fun k u h => by simp at h,fun k x h => by simp at h⟩
 | c :: cs,off,h => by
  obtain ⟨u,hu,hr⟩:=h 0 c rfl
  obtain ⟨us,h1,h2,h3⟩:=QZ cs (off + 1) fun k x hk => by
   have:=h (k + 1) x hk
   rwa [show off + (k + 1) = off + 1 + k by omega] at this
  refine ⟨u :: us,by simp [h1],fun k v hk => ?_,fun k x hk => ?_⟩
  ·cases k with
   | zero => simp at hk; subst hk; exact hu
   | succ k =>
    have:=h2 k v (by simpa using hk)
    rwa [show off + 1 + k = off + (k + 1) by omega] at this
  ·cases k with
   | zero => simp at hk; subst hk; exact ⟨u,rfl,hr⟩
   | succ k => exact h3 k x (by simpa using hk)
theorem LT.aJq {x:Operand} {t:TypeId} {q:Bool} {cs:List PV} (ho:o.op = .load t x) (h:lV P t = some true) {i:TypeInfo} (hi:P.info? t = some i) (hl:cs.length = cO P t) :
  LT P o [(x,Cc (.px q cs))] [] (Ag (cs.map .pv)) [] [] []:=.calm fun R B g w a _ hin _ => by
 obtain ⟨_,ad,h2,h3,h4⟩:=in1 hin
 obtain ⟨us,k1,k2,k3⟩:=QZ (T:=fun u k => w.cell? (ad.add k) = some u) (Rl:=fun p u => jW w R B p u) cs 0 (fun k x hk => by simpa using h4 k x hk)
 refine ⟨.agg us.toArray,?_,us,rfl,by simpa using k1,fun k x hk => ?_⟩
 ·have:=aDO (P:=P) h hi (a:=ad) (w:=w) (cs:=us) (k1.trans hl) (fun j v hj => by simpa using k2 j v hj)
  simp [execOp,ho,h2,this]
 ·rw [List.getElem?_map] at hk
  cases hc:cs[k]? with
  | none => rw [hc] at hk; cases hk
  | some p =>
   rw [hc] at hk
   injection hk with hk
   subst hk
   obtain ⟨u,hu,hr⟩:=k3 k p hc
   exact ⟨u,hu,hr.oneCell,hr⟩
theorem GU {w:World} {b:Nat} {cur:Array Value} {e:TypeId} (h:w.heap[b]? = some (.cells cur e (0,0))) (i:Nat):w.cell? ⟨b,i,none⟩ = cur[i]?:=cell_of_row w b i cur e (0,0) h
theorem Xv {w:World} {R B:Nat → Prop} {g:Nat → GS} {n:Nat} {e:TypeId} {els:List (List CV)} (h:RO P w R B g n (.row e els)) {b:Nat} (hb:g n = .blk b) {j:Nat} {cs:List CV} (hj:els[j]? = some cs) :
  cs.length = cO P e ∧ ∀ k x,cs[k]? = some x → ∃ u,w.cell? ⟨b,j * cO P e + k,none⟩ = some u ∧ RC P w R B g x u:=by
 rcases h with ⟨h1,_⟩ | ⟨b',cur,h1,h2,h3,h4,h5⟩
 ·rw [hb] at h1; cases h1
 ·rw [hb] at h1
  injection h1 with h1
  subst h1
  refine ⟨h3 cs (List.mem_of_getElem? hj),fun k x hk => ?_⟩
  obtain ⟨u,hu,hr⟩:=h5 j k cs x hj hk
  exact ⟨u,(GU h2 _).trans hu,hr⟩
theorem LT.Xc {x:Operand} {t e:TypeId} {n off j k:Nat} {els:List (List CV)} {cs:List CV} {c:CV} (ho:o.op = .load t x) (h:lV P t = some false) (hj:els[j]? = some cs) (hk:cs[k]? = some c)
  (ha:off = j * cO P e + k):LT P o [(x,Cc (.pl n off))] [(n,.row e els)] (Cc c) [] [] []:=.calm fun R B g w a _ hi hu => by
 obtain ⟨_,b,h2,h3⟩:=in1 hi
 obtain ⟨u,h4,h5⟩:=(Xv (uq hu) h2 hj).2 k c hk
 subst ha
 exact ⟨u,by simp [execOp,ho,h3,YJ h h4],h5⟩
theorem LT.aB5 {x:Operand} {t e:TypeId} {n off j k:Nat} {els:List (List CV)} {cs:List CV} (ho:o.op = .load t x) (h:lV P t = some true) {i:TypeInfo} (hi:P.info? t = some i) (hj:els[j]? = some cs)
  (ha:off = j * cO P e + k) (hl:((cs.drop k).take (cO P t)).length = cO P t):LT P o [(x,Cc (.pl n off))] [(n,.row e els)] (Ag ((cs.drop k).take (cO P t))) [] [] []:=.calm fun R B g w a _ hin hu => by
 obtain ⟨_,b,h2,h3⟩:=in1 hin
 have hcell:=(Xv (uq hu) h2 hj).2
 subst ha
 obtain ⟨us,k1,k2,k3⟩:=QZ (T:=fun u i => w.cell? ⟨b,j * cO P e + k + i,none⟩ = some u) (Rl:=fun p u => RC P w R B g p u) ((cs.drop k).take (cO P t)) 0 (fun i x hx => by
  rw [List.getElem?_take] at hx
  split at hx
  ·rw [List.getElem?_drop] at hx
   obtain ⟨u,h4,h5⟩:=hcell _ x hx
   exact ⟨u,by simpa [Nat.add_assoc] using h4,h5⟩
  ·cases hx)
 refine ⟨.agg us.toArray,?_,us,rfl,by simpa using k1,k3⟩
 have:=aDO (P:=P) h hi (a:=⟨b,j * cO P e + k,none⟩) (w:=w) (cs:=us) (k1.trans hl) (fun i v hv => by rw [add_lit]; simpa using k2 i v hv)
 simp [execOp,ho,h3,this]
end
end
section
def upd (g:Nat → GS) (n:Nat) (s:GS):Nat → GS:=fun k => if k = n then s else g k
theorem upd_same (g:Nat → GS) (n:Nat) (s:GS):upd g n s n = s:=by simp [upd]
theorem upd_ne (g:Nat → GS) {n k:Nat} (s:GS) (h:k ≠ n):upd g n s k = g k:=by simp [upd,h]
def TI (P:Program) (e:TypeId) (z:Value) (s b:Nat):Prop:=(P.info? e).map (fun i => (i.zero,i.size,i.bytes)) = some (some z,s,b)
theorem TI.parts {P:Program} {e:TypeId} {z:Value} {s b:Nat} (h:TI P e z s b):∃ i,P.info? e = some i ∧ i.zero = some z ∧ i.size = s ∧ i.bytes = b:=by
 unfold TI at h
 cases hi:P.info? e with
 | none => rw [hi] at h; cases h
 | some i =>
  rw [hi] at h
  injection h with h
  injection h with h1 h2
  injection h2 with h2 h3
  exact ⟨i,rfl,h1,h2,h3⟩
theorem TI.sz {P:Program} {e:TypeId} {z:Value} {s b:Nat} (h:TI P e z s b):cO P e = s:=by
 obtain ⟨i,h1,_,h3,_⟩:=h.parts
 rw [YX h1,h3]
def uy:Nat:=2147483648
def lT:SV → List CV
 | .c x => [x]
 | .agg cs => cs
def ow {α:Type} (l:List α) (k:Nat) (ys:List α):List α:=l.take k ++ ys ++ l.drop (k + ys.length)
theorem TD {α:Type} (l:List α) (k:Nat) (ys:List α) (h:k + ys.length ≤ l.length):(ow l k ys).length = l.length:=by
 simp [ow]; omega
theorem TB {α:Type} (l:List α) (k:Nat) (ys:List α) (h:k + ys.length ≤ l.length) (i:Nat) (h1:k ≤ i) (h2:i < k + ys.length):(ow l k ys)[i]? = ys[i - k]?:=by
 have hk:(l.take k).length = k:=by simp; omega
 unfold ow
 rw [List.append_assoc,List.getElem?_append_right (by omega),hk,List.getElem?_append_left (by omega)]
theorem PW {α:Type} (l:List α) (k:Nat) (ys:List α) (h:k + ys.length ≤ l.length) (i:Nat) (h1:i < k ∨ k + ys.length ≤ i):(ow l k ys)[i]? = l[i]?:=by
 have hk:(l.take k).length = k:=by simp; omega
 unfold ow
 rcases h1 with h1 | h1
 ·rw [List.append_assoc,List.getElem?_append_left (by omega),List.getElem?_take,if_pos h1]
 ·rw [List.getElem?_append_right (by simp; omega),List.getElem?_drop]
  congr 1
  simp
  omega
theorem aJw {j j' s k k':Nat} (hk:k < s) (hk':k' < s) (h:j ≠ j'):j * s + k ≠ j' * s + k':=by
 rcases Nat.lt_or_gt_of_ne h with h1 | h1
 ·have:=Nat.mul_le_mul_right s h1
  rw [Nat.succ_mul] at this
  omega
 ·have:=Nat.mul_le_mul_right s h1
  rw [Nat.succ_mul] at this
  omega
section
variable {P:Program} {w:World} {R B:Nat → Prop} {g:Nat → GS}
theorem WF.mono {w':World} (h:WF R B g w) (hs:w.heap.size ≤ w'.heap.size):WF R B g w' :=
 ⟨h.rb,fun b hb => Nat.lt_of_lt_of_le (h.lt b hb) hs,fun n b hb => ⟨(h.ja n b hb).1,Nat.lt_of_lt_of_le (h.ja n b hb).2 hs⟩,h.kW,h.nd⟩
theorem WF.upd {w':World} (h:WF R B g w) (n:Nat) (s:GS) (hsz:w.heap.size ≤ w'.heap.size) (hs:∀ b,s.has b → ¬ B b ∧ b < w'.heap.size ∧ ∀ m,m ≠ n → ¬ (g m).has b)
  (hnd:∀ j k b,s.at j = .blk b → s.at k = .blk b → j = k):WF R B (upd g n s) w' where
 rb:=h.rb
 lt b hb:=Nat.lt_of_lt_of_le (h.lt b hb) hsz
 ja k b hk:=by
  by_cases hkn:k = n
  ·subst hkn
   rw [upd_same] at hk
   exact ⟨(hs b hk).1,(hs b hk).2.1⟩
  ·rw [upd_ne g _ hkn] at hk
   have:=h.ja k b hk
   exact ⟨this.1,by omega⟩
 kW k m b hk hm:=by
  by_cases hkn:k = n <;> by_cases hmn:m = n
  ·rw [hkn,hmn]
  ·subst hkn
   rw [upd_same] at hk
   rw [upd_ne g _ hmn] at hm
   exact absurd hm ((hs b hk).2.2 m hmn)
  ·subst hmn
   rw [upd_same] at hm
   rw [upd_ne g _ hkn] at hk
   exact absurd hk ((hs b hm).2.2 k hkn)
  ·rw [upd_ne g _ hkn] at hk
   rw [upd_ne g _ hmn] at hm
   exact h.kW k m b hk hm
 nd k i j b hi hj:=by
  by_cases hkn:k = n
  ·subst hkn
   rw [upd_same] at hi hj
   exact hnd i j b hi hj
  ·rw [upd_ne g _ hkn] at hi hj
   exact h.nd k i j b hi hj
theorem GS.aCG {c:Nat}:∀ j k b,(GS.blk c).at j = .blk b → (GS.blk c).at k = .blk b → j = k:=fun j k b h => by cases h
theorem WF.alloc (h:WF R B g w) (n:Nat) (o:Obj):WF R B (Go.Fw.upd g n (.blk w.heap.size)) (w.alloc o) :=
 h.upd n _ (by simp) (fun b hb => by
  have hb:b = w.heap.size:=hb
  subst hb
  exact ⟨fun hB => Nat.lt_irrefl _ (h.lt _ hB),by simp,fun m _ hm => Nat.lt_irrefl _ (h.ja m _ hm).2⟩) GS.aCG
theorem iR.alloc (h:WF R B g w) (n:Nat) (o:Obj):iR R B g w [] [n] R B (upd g n (.blk w.heap.size)) (w.alloc o) where
 wf:=h.alloc n o
 r _ h:=h
 b _ h:=h
 os:=rfl
 tape:=rfl
 output:=rfl
 size:=by simp
 heap b hb _:=Go.RowKit.Below.heap_alloc w o b hb
 names k hk:=upd_ne g _ (by simpa using hk)
 fresh k hk b hb:=by
  have:k = n:=by simpa using hk
  subst this
  rw [upd_same] at hb
  have hb:b = w.heap.size:=hb
  exact .inl (by omega)
 shape k hk:=by cases hk
def rJ (P:Program) (w:World) (R B:Nat → Prop) (g:Nat → GS) (cs:List CV) (vs:List Value):Prop:=vs.length = cs.length ∧ ∀ (k:Nat) x,cs[k]? = some x → ∃ u,vs[k]? = some u ∧ RC P w R B g x u
theorem rJ.one {cs:List CV} {vs:List Value} (h:rJ P w R B g cs vs):∀ v ∈ vs,v.oneCell' = true:=fun v hv => by
 obtain ⟨k,hk⟩:=List.getElem?_of_mem hv
 have hlt:k < cs.length:=by rw [← h.1]; exact (List.getElem?_eq_some_iff.1 hk).1
 obtain ⟨u,hu,hr⟩:=h.2 k cs[k] (List.getElem?_eq_getElem hlt)
 rw [hk] at hu
 injection hu with hu
 subst hu
 exact hr.1
theorem RS.cells {x:SV} {v:Value} (h:RS P w R B g x v):rJ P w R B g (lT x) v.cells.toList:=by
 cases x with
 | c x =>
  have h1:=h.1
  have:v.cells = #[v]:=by cases v <;> first | rfl | cases h1
  rw [this]
  exact ⟨rfl,fun k y hk => by
   cases k with
   | zero => simp [lT] at hk; subst hk; exact ⟨v,rfl,h⟩
   | succ k => simp [lT] at hk⟩
 | agg cs =>
  obtain ⟨vs,rfl,h1,h2⟩:=h
  exact ⟨by simpa [Value.cells,lT] using h1,fun k y hk => by simpa [Value.cells] using h2 k y hk⟩
theorem Tt {vs:List Value} (h:vs.all (·.oneCell') = true):rJ P w R B g (vs.map sC) vs:=⟨by simp,fun k x hk => by
 rw [List.getElem?_map] at hk
 cases hv:vs[k]? with
 | none => rw [hv] at hk; cases hk
 | some v =>
  rw [hv] at hk
  injection hk with hk
  subst hk
  have:=List.all_eq_true.1 h v (List.mem_of_getElem? hv)
  exact ⟨v,rfl,this,.sc this⟩⟩
theorem rJ.keep {cs:List CV} {vs:List Value} (h:rJ P w R B g cs vs) {R' B':Nat → Prop} {g':Nat → GS} {w':World} {W X:List Nat} (had:iR R B g w W X R' B' g' w') (hw:WF R B g w):rJ P w' R' B' g' (cs.map (bY X)) vs :=
 ⟨by simpa using h.1,fun k x hk => by
  rw [List.getElem?_map] at hk
  cases hc:cs[k]? with
  | none => rw [hc] at hk; cases hk
  | some y =>
   rw [hc] at hk
   injection hk with hk
   subst hk
   obtain ⟨u,hu,hr⟩:=h.2 k y hc
   exact ⟨u,hu,had.rc hw hr⟩⟩
theorem LT.newVar {o:Oper} {ins:List (Operand × AV)} {us:Mem} {t:TypeId} {n:Nat} {cs:List CV} (hl:cs.length = cO P t)
  (h:∀ R B g w (a:Act),WF R B g w → (∀ p ∈ ins,RA P w R B g p.2 (a.eval p.1)) → (∀ p ∈ us,RO P w R B g p.1 p.2) → ∃ vs:List Value,rJ P w R B g cs vs ∧ (execOp a.eval o).run P w = .ok (.value (.pointer (some ⟨w.heap.size,0,none⟩))) (w.alloc (.cells vs.toArray t))) :
  LT P o ins us (Cc (.pl n 0)) [(n,.row t [cs.map (bY [n])])] [] [n]:=by
 intro R B g w a hw hi hu K Q hK
 obtain ⟨vs,hrel,hr⟩:=h R B g w a hw hi hu
 unfold Oper.wp
 rw [hr]
 have had:=iR.alloc hw n (.cells vs.toArray t)
 have hk:=hrel.keep had hw
 refine hK _ _ _ _ _ had (fun b hb => .inl hb) (fun _ => ⟨rfl,w.heap.size,upd_same ..,rfl⟩) (fun p hp => ?_)
 have:p = (n,.row t [cs.map (bY [n])]):=by simpa using hp
 subst this
 refine .inr ⟨w.heap.size,vs.toArray,upd_same ..,heap_alloc_new w _,fun c hc => ?_,?_,fun j k c x hj hx => ?_⟩
 ·have:c = cs.map (bY [n]):=by simpa using hc
  subst this
  simpa using hl
 ·simp only [List.length_singleton,Nat.one_mul,List.size_toArray,hrel.1]
  omega
 ·cases j with
  | zero =>
   simp at hj
   subst hj
   obtain ⟨u,hu,hr⟩:=hk.2 k x hx
   exact ⟨u,by simpa using hu,hr⟩
  | succ j => simp at hj
theorem LT.alloc {o:Oper} {t:TypeId} {n s b:Nat} {z:Value} {cells:List CV} (ho:o.op = .alloc t) (ht:TI P t z s b) (hc:z.cells.toList.map sC = cells) (h1:z.cells.toList.all (·.oneCell') = true) (hl:cells.length = s) :
  LT P o [] [] (Cc (.pl n 0)) [(n,.row t [cells.map (bY [n])])] [] [n] :=
 .newVar (by rw [ht.sz]; exact hl) fun R B g w a _ _ _ => by
  obtain ⟨i,hi,hz,_⟩:=ht.parts
  refine ⟨z.cells.toList,by rw [← hc]; exact Tt h1,?_⟩
  simp [execOp,ho,Instr.alloc,zeroValue,typeInfo,hi,hz,Go.newVar,newRow]
theorem LT.box {o:Oper} {t:TypeId} {n s:Nat} {x:Operand} {v:SV} (ho:o.op = .box t x) (hs:cO P t = s) (hl:(lT v).length = s):LT P o [(x,.s v)] [] (Cc (.pl n 0)) [(n,.row t [(lT v).map (bY [n])])] [] [n] :=
 .newVar (by rw [hs]; exact hl) fun R B g w a _ hi _ => by
  have h:=in1 hi
  refine ⟨(a.eval x).cells.toList,RS.cells h,?_⟩
  simp [execOp,ho,Instr.box,Go.newVar,newRow]
def Eb (place:Nat → Option (Nat × Nat)) (cells:List CV):List (Nat × SV) → Option (List CV)
 | [] => some cells
 | (i,v) :: rest => match place i with
  | none => none
  | some (off,size) => if (lT v).length ≠ size ∨ off + (lT v).length > cells.length then none else Eb place (ow cells off (lT v)) rest
theorem foldl_set (l:List Value):∀ (cells:Array Value) (off i:Nat),off + i + l.length ≤ cells.size → (l.zipIdx i).foldl (fun cs (q:Value × Nat) => cs.setIfInBounds (off + q.2) q.1) cells = (ow cells.toList (off + i) l).toArray:=by
 induction l with
 | nil =>
  intro cells off i _
  simp [ow]
 | cons v r ih =>
  intro cells off i h
  simp only [List.zipIdx_cons,List.foldl_cons]
  rw [ih (cells.setIfInBounds (off + i) v) off (i + 1) (by simp at h ⊢; omega)]
  congr 1
  have e:=list_seg_step cells.toList (off + i) v r (by simp at h ⊢; omega)
  simpa [ow,Array.toList_setIfInBounds,Nat.add_assoc] using e
theorem YH {place:Nat → Option (Nat × Nat)}:∀ (ps:List (Nat × SV)) (P7:List (Nat × Value)) (cells:List CV) (vs:List Value) (out:List CV),rJ P w R B g cells vs →
  (P7.length = ps.length ∧ ∀ (k:Nat) q,ps[k]? = some q → ∃ u,P7[k]? = some (q.1,u) ∧ RS P w R B g q.2 u) → Eb place cells ps = some out → ∃ CQ:List Value,Instr.fill place vs.toArray P7 = some CQ.toArray ∧ rJ P w R B g out CQ
 | [],[],cells,vs,out,hrel,_,h => by
  injection h with h
  subst h
  exact ⟨vs,rfl,hrel⟩
 | [],_ :: _,_,_,_,_,hp,_ => by simp at hp
 | (i,v) :: rest,P7,cells,vs,out,hrel,hp,h => by
  obtain ⟨u,hu,hr⟩:=hp.2 0 (i,v) rfl
  cases P7 with
  | nil => simp at hu
  | cons vp aMA =>
   simp at hu
   subst hu
   unfold Eb at h
   unfold Instr.fill
   cases hpl:place i with
   | none => rw [hpl] at h; cases h
   | some q =>
    obtain ⟨off,size⟩:=q
    rw [hpl] at h
    simp only at h ⊢
    split at h
    ·cases h
    ·rename_i hn
     have hcell:=RS.cells hr
     have hlen:u.cells.size = (lT v).length:=by simpa using hcell.1
     have hfit:off + (lT v).length ≤ cells.length:=by omega
     rw [if_neg (by simpa [hlen,hrel.1] using hn)]
     have hf:=foldl_set u.cells.toList vs.toArray off 0 (by simp [hrel.1,hlen]; omega)
     have hf':u.cells.zipIdx.foldl (fun cs (x:Value × Nat) => cs.setIfInBounds (off + x.2) x.1) vs.toArray = (ow vs off u.cells.toList).toArray:=by
      rw [← Array.foldl_toList,Array.toList_zipIdx]
      simpa using hf
     rw [hf']
     refine YH rest aMA (ow cells off (lT v)) (ow vs off u.cells.toList) out ⟨?_,fun k x hk => ?_⟩ ⟨by simpa using hp.1,fun k q hk => by simpa using hp.2 (k + 1) q (by simpa using hk)⟩ h
     ·rw [TD _ _ _ hfit,TD _ _ _ (by rw [hrel.1,hcell.1]; exact hfit)]; exact hrel.1
     ·by_cases hin:off ≤ k ∧ k < off + (lT v).length
      ·rw [TB _ _ _ hfit k hin.1 hin.2] at hk
       obtain ⟨y,hy,Wj⟩:=hcell.2 _ x hk
       exact ⟨y,by rw [TB _ _ _ (by rw [hrel.1,hcell.1]; exact hfit) k hin.1 (by rw [hcell.1]; exact hin.2)]; exact hy,Wj⟩
      ·have hout:k < off ∨ off + (lT v).length ≤ k:=by omega
       rw [PW _ _ _ hfit k hout] at hk
       obtain ⟨y,hy,Wj⟩:=hrel.2 k x hk
       exact ⟨y,by rw [PW _ _ _ (by rw [hrel.1,hcell.1]; exact hfit) k (by rw [hcell.1]; exact hout)]; exact hy,Wj⟩
def Dz (P:Program) (t:TypeId):Option (List (Nat × Nat)) :=
 match P.underlying t with
 | some (.struct fs) => fs.toList.mapM fun f => (P.info? f.type).map fun i => (f.offset,i.size)
 | _ => none
theorem run_places:∀ (fs:List Field) (tY:List (Nat × Nat)),fs.mapM (fun f => (P.info? f.type).map fun i => (f.offset,i.size)) = some tY →
  (fs.mapM (fun f => do pure (f.offset,← sizeOf f.type):Field → Sem (Nat × Nat))).run P w = .ok tY w
 | [],tY,h => by
  injection h with h
  subst h
  rfl
 | f :: fs,tY,h => by
  rw [List.mapM_cons] at h
  obtain ⟨p,hp,h2⟩:=Option.bind_eq_some_iff.1 h
  obtain ⟨r,hr,h3⟩:=Option.bind_eq_some_iff.1 h2
  injection h3 with h3
  subst h3
  obtain ⟨i,hi,hpi⟩:=Option.map_eq_some_iff.1 hp
  subst hpi
  have ih:=run_places fs r hr
  have hs:(sizeOf f.type).run P w = .ok i.size w:=by simp [sizeOf,typeInfo,hi]
  simp only [List.mapM_cons,Sem.run_bind,hs,Result.andThen_ok,Sem.run_pure,ih]
abbrev Parts:=List (Nat × Operand × SV)
def Parts.ins (ps:Parts):List (Operand × AV):=ps.map fun q => (q.2.1,.s q.2.2)
def Parts.vals (ps:Parts):List (Nat × SV):=ps.map fun q => (q.1,q.2.2)
def Parts.ops (ps:Parts):List (Nat × Operand):=ps.map fun q => (q.1,q.2.1)
theorem aCg {a:Act} {ps:Parts} (h:∀ p ∈ Parts.ins ps,RA P w R B g p.2 (a.eval p.1)) :
  ((Parts.ops ps).map fun q => (q.1,a.eval q.2)).length = (Parts.vals ps).length ∧ ∀ (k:Nat) q,(Parts.vals ps)[k]? = some q → ∃ u,((Parts.ops ps).map fun q => (q.1,a.eval q.2))[k]? = some (q.1,u) ∧ RS P w R B g q.2 u:=by
 refine ⟨by simp [Parts.ops,Parts.vals],fun k q hk => ?_⟩
 unfold Parts.vals at hk
 rw [List.getElem?_map] at hk
 cases hx:ps[k]? with
 | none => rw [hx] at hk; cases hk
 | some y =>
  rw [hx] at hk
  injection hk with hk
  subst hk
  refine ⟨a.eval y.2.1,by simp [Parts.ops,hx],?_⟩
  exact h (y.2.1,.s y.2.2) (List.mem_map.2 ⟨y,List.mem_of_getElem? hx,rfl⟩)
theorem LT.build {o:Oper} {t:TypeId} {parts:Array (Nat × Operand)} (ps:Parts) {tY:List (Nat × Nat)} {z:Value} {s b:Nat} {zc out:List CV} (ho:o.op = .build t parts) (hps:parts.toList = Parts.ops ps) (hp:Dz P t = some tY) (hz:TI P t z s b)
  (hzc:z.cells.toList.map sC = zc) (h1:z.cells.toList.all (·.oneCell') = true) (hf:Eb (fun i => tY[i]?) zc (Parts.vals ps) = some out):LT P o (Parts.ins ps) [] (Ag out) [] [] []:=.calm fun R B g w a _ hi _ => by
 obtain ⟨i,hi1,hi2,_⟩:=hz.parts
 unfold Dz at hp
 split at hp
 ·rename_i fs hfs
  have hrel:rJ P w R B g zc z.cells.toList:=by rw [← hzc]; exact Tt h1
  obtain ⟨CQ,k1,k2⟩:=YH (place:=fun i => tY[i]?) (Parts.vals ps) _ zc z.cells.toList out hrel (aCg hi) hf
  refine ⟨.agg CQ.toArray,?_,CQ,rfl,k2.1,k2.2⟩
  have hpl:(fs.mapM (fun f => do pure (f.offset,← sizeOf f.type):Field → Sem (Nat × Nat))).run P w = .ok tY.toArray w:=by
   rw [Array.mapM_eq_mapM_toList]
   simp only [Sem.run_map,run_places fs.toList tY hp,Result.andThen_ok]
  have hpa:(parts.map fun x => (x.1,a.eval x.2)).toList = (Parts.ops ps).map fun q => (q.1,a.eval q.2):=by rw [Array.toList_map,hps]
  have hk1:Instr.fill (fun x => tY.toArray[x]?) z.cells (parts.map fun x => (x.1,a.eval x.2)).toList = some CQ.toArray:=by
   rw [hpa]
   simpa using k1
  simp only [execOp,ho,Instr.build,Sem.run_bind,zeroValue,typeInfo,run_program,Result.andThen_ok,hi1,Sem.run_pure,hi2,run_underlying hfs,hpl,hk1]
 ·cases hp
theorem Qm {α:Type} {s:Nat}:∀ (els:List (List α)),(∀ cs ∈ els,cs.length = s) → ∀ (j k:Nat) cs x,els[j]? = some cs → cs[k]? = some x → els.flatten[j * s + k]? = some x
 | [],_,j,_,_,_,hj,_ => by simp at hj
 | c :: els,h,0,k,cs,x,hj,hk => by
  simp at hj
  subst hj
  rw [List.flatten_cons,Nat.zero_mul,Nat.zero_add,List.getElem?_append_left (List.getElem?_eq_some_iff.1 hk).1]
  exact hk
 | c :: els,h,j + 1,k,cs,x,hj,hk => by
  have hc:c.length = s:=h c List.mem_cons_self
  have ih:=Qm els (fun cs hcs => h cs (List.mem_cons_of_mem _ hcs)) j k cs x (by simpa using hj) hk
  rw [List.flatten_cons,List.getElem?_append_right (by rw [hc,Nat.succ_mul]; omega),hc,show (j + 1) * s + k - s = j * s + k by rw [Nat.succ_mul]; omega]
  exact ih
theorem flat_length {α:Type} {s:Nat}:∀ (els:List (List α)),(∀ cs ∈ els,cs.length = s) → els.flatten.length = els.length * s
 | [],_ => by simp
 | c :: els,h => by
  rw [List.flatten_cons,List.length_append,h c List.mem_cons_self,flat_length els (fun cs hcs => h cs (List.mem_cons_of_mem _ hcs)),List.length_cons,Nat.succ_mul]
  omega
theorem LT.newRow {o:Oper} {ins:List (Operand × AV)} {us:Mem} {e:TypeId} {n:Nat} {els:List (List CV)} (hl:∀ cs ∈ els,cs.length = cO P e) (hm:els.length ≤ maxLen)
  (h:∀ R B g w (a:Act),WF R B g w → (∀ p ∈ ins,RA P w R B g p.2 (a.eval p.1)) → (∀ p ∈ us,RO P w R B g p.1 p.2) →
   ∃ vs:List Value,rJ P w R B g els.flatten vs ∧ (execOp a.eval o).run P w = .ok (.value (.slice (some ⟨w.heap.size,0,none⟩) els.length els.length)) (w.alloc (.cells vs.toArray e))) :
  LT P o ins us (Cc (.loc n 0 els.length)) [(n,.row e (els.map (·.map (bY [n]))))] [] [n]:=by
 intro R B g w a hw hi hu K Q hK
 obtain ⟨vs,hrel,hr⟩:=h R B g w a hw hi hu
 unfold Oper.wp
 rw [hr]
 have had:=iR.alloc hw n (.cells vs.toArray e)
 have hk:=hrel.keep had hw
 have hvl:vs.length = els.length * cO P e:=by rw [hrel.1,flat_length els hl]
 refine hK _ _ _ _ _ had (fun b hb => .inl hb) (fun _ => ⟨rfl,.inr (.inr ⟨w.heap.size,els.length,vs.toArray,e,upd_same ..,heap_alloc_new w _,Nat.le_refl _,by omega,by simp [hvl],by simp⟩)⟩) (fun p hp => ?_)
 have:p = (n,.row e (els.map (·.map (bY [n])))):=by simpa using hp
 subst this
 have hl':∀ cs ∈ els.map (·.map (bY [n])),cs.length = cO P e:=fun cs hcs => by
  obtain ⟨c0,hc0,rfl⟩:=List.mem_map.1 hcs
  simpa using hl c0 hc0
 refine .inr ⟨w.heap.size,vs.toArray,upd_same ..,heap_alloc_new w _,hl',by simp [hvl],fun j k c x hj hx => ?_⟩
 have hf:=Qm _ hl' j k c x hj hx
 rw [← List.map_flatten] at hf
 obtain ⟨u,hu,hr⟩:=hk.2 _ x hf
 exact ⟨u,by simpa using hu,hr⟩
theorem LT.buildSlice {o:Oper} {t e:TypeId} {len n:Nat} {parts:Array (Nat × Operand)} (ps:Parts) {z:Value} {s b:Nat} {zc:List CV} {els:List (List CV)} (ho:o.op = .buildSlice t len parts) (hps:parts.toList = Parts.ops ps) (he:P.underlying t = some (.slice e)) (hz:TI P e z s b)
  (hzc:z.cells.toList.map sC = zc) (h1:z.cells.toList.all (·.oneCell') = true) (hsz:zc.length = s) (hlen:els.length = len) (hmax:len * s ≤ 16777216 ∧ 0 < s) (hel:els.all (fun cs => Nat.beq cs.length s) = true)
  (hf:Eb (fun i => some (i * s,s)) ((List.range (len * s)).map fun i => zc.getD (i % s) .junk) (Parts.vals ps) = some els.flatten) :
  LT P o (Parts.ins ps) [] (Cc (.loc n 0 els.length)) [(n,.row e (els.map (·.map (bY [n]))))] [] [n]:=by
 have aHd:∀ cs ∈ els,cs.length = cO P e:=fun cs hcs => by
  rw [hz.sz]
  exact Nat.eq_of_beq_eq_true (List.all_eq_true.1 hel cs hcs)
 have hlm:len ≤ 16777216:=Nat.le_trans (Nat.le_mul_of_pos_right len hmax.2) hmax.1
 refine .newRow aHd (by simp only [maxLen]; omega) fun R B g w a _ hi _ => ?_
 obtain ⟨i,hi1,hi2,hi3,_⟩:=hz.parts
 have hzs:z.cells.size = s:=by rw [← hsz,← hzc]; simp
 have hrel:rJ P w R B g ((List.range (len * s)).map fun i => zc.getD (i % s) .junk) ((List.range (len * s)).map fun i => z.cells[i % z.cells.size]!):=by
  refine ⟨by simp,fun k x hk => ?_⟩
  rw [List.getElem?_map] at hk ⊢
  cases hr:(List.range (len * s))[k]? with
  | none => rw [hr] at hk; cases hk
  | some m =>
   rw [hr] at hk
   injection hk with hk
   subst hk
   have hms:m % s < s:=Nat.mod_lt _ hmax.2
   have hrz:rJ P w R B g zc z.cells.toList:=by rw [← hzc]; exact Tt h1
   obtain ⟨u,hu,Ez⟩:=hrz.2 (m % s) (zc.getD (m % s) .junk) (by rw [List.getD_eq_getElem?_getD,List.getElem?_eq_getElem (by omega)]; rfl)
   refine ⟨u,?_,Ez⟩
   have:z.cells[m % s]? = some u:=by simpa using hu
   rw [hzs]
   simp [getElem!_def,this]
 obtain ⟨CQ,k1,k2⟩:=YH (place:=fun i => some (i * s,s)) (Parts.vals ps) _ _ _ els.flatten hrel (aCg hi) hf
 refine ⟨CQ,k2,?_⟩
 have hpa:(parts.map fun x => (x.1,a.eval x.2)).toList = (Parts.ops ps).map fun q => (q.1,a.eval q.2):=by rw [Array.toList_map,hps]
 have hno:¬ (16777216 < len * s):=by omega
 have hk1:Instr.fill (fun i => some (i * s,s)) ((Array.range (len * s)).map fun x => z.cells[x % z.cells.size]!) (parts.map fun x => (x.1,a.eval x.2)).toList = some CQ.toArray:=by
  rw [hpa,← k1]
  congr 1
  apply Array.ext'
  simp
 rw [Array.toList_map] at hk1
 by_cases h0:len * s = 0
 ·simp only [h0,Array.range_zero',Array.map_empty] at hk1
  simp [execOp,ho,Instr.buildSlice,run_underlying he,sizeOf,typeInfo,hi1,hi3,h0,Array.range_zero',hk1,Go.newRow,hlen]
 ·simp [execOp,ho,Instr.buildSlice,run_underlying he,sizeOf,typeInfo,hi1,hi3,hno,h0,zeroValue,hi2,hk1,Go.newRow,hlen]
theorem LT.makeSlice {o:Oper} {t e:TypeId} {n:Nat} {x y:Operand} {len:Int} {z:Value} {s b:Nat} {zc:List CV} (ho:o.op = .makeSlice t x y) (he:P.underlying t = some (.slice e)) (hz:TI P e z s b)
  (hzc:z.cells.toList.map sC = zc) (h1:z.cells.toList.all (·.oneCell') = true) (hsz:zc.length = s) (hs:0 < s) (hb:b ≤ 65536) (hl:0 ≤ len ∧ len ≤ uy) :
  LT P o [(x,Iv len),(y,Iv len)] [] (Cc (.loc n 0 (List.replicate len.toNat zc).length)) [(n,.row e ((List.replicate len.toNat zc).map (·.map (bY [n]))))] [] [n]:=by
 have hl2:len ≤ 2147483648:=hl.2
 refine .newRow (fun cs hcs => by rw [List.eq_of_mem_replicate hcs,hz.sz]; exact hsz) (by simp only [List.length_replicate,maxLen]; omega) fun R B g w a _ hi _ => ?_
 obtain ⟨i,hi1,hi2,hi3,hi4⟩:=hz.parts
 have hzs:z.cells.size = s:=by rw [← hsz,← hzc]; simp
 have hbb:(i.bytes:Int) * len ≤ 281474976710656:=by
  rw [hi4]
  have:(b:Int) * len ≤ 65536 * 2147483648:=Int.mul_le_mul (by omega) hl2 hl.1 (by omega)
  omega
 have hr:=run_make (P:=P) w t e i z he hi1 hi2 .i64 .i64 len len hl.1 (Int.le_refl _) hbb (by omega)
 refine ⟨(madeCells z.cells (len.toNat * i.size)).toList,⟨?_,fun k c hk => ?_⟩,?_⟩
 ·rw [flat_length (s:=s) _ (fun cs hcs => by rw [List.eq_of_mem_replicate hcs]; exact hsz)]
  simp [madeCells,hi3]
 ·have hkl:k < len.toNat * s:=by
   have:=(List.getElem?_eq_some_iff.1 hk).1
   rwa [flat_length (s:=s) _ (fun cs hcs => by rw [List.eq_of_mem_replicate hcs]; exact hsz),List.length_replicate] at this
  have hj:k / s < len.toNat:=Nat.div_lt_of_lt_mul (by rw [Nat.mul_comm]; exact hkl)
  have hms:k % s < s:=Nat.mod_lt _ hs
  have hf:=Qm (s:=s) (List.replicate len.toNat zc) (fun cs hcs => by rw [List.eq_of_mem_replicate hcs]; exact hsz) (k / s) (k % s) zc zc[k % s] (by simp [hj]) (List.getElem?_eq_getElem (by omega))
  rw [show k / s * s + k % s = k by rw [Nat.mul_comm]; exact Nat.div_add_mod k s] at hf
  rw [hf] at hk
  injection hk with hk
  subst hk
  have hrz:rJ P w R B g zc z.cells.toList:=by rw [← hzc]; exact Tt h1
  obtain ⟨u,hu,Ez⟩:=hrz.2 (k % s) zc[k % s] (List.getElem?_eq_getElem (by omega))
  refine ⟨u,?_,Ez⟩
  have:z.cells[k % s]? = some u:=by simpa using hu
  simp [madeCells,hzs,hi3,hkl,getElem!_def,this]
 ·simp only [execOp,ho,oW (in1 hi),oW (in2 hi),Sem.run_bind,hr,Result.andThen_ok,Sem.run_pure,List.length_replicate,Array.toArray_toList]
end
end
section
section
variable {P:Program} {w:World} {R B:Nat → Prop} {g:Nat → GS}
theorem iR.setRow (h:WF R B g w) {n b:Nat} {cur cur':Array Value} {e:TypeId} (hn:g n = .blk b) (hh:w.heap[b]? = some (.cells cur e (0,0))) (hs:cur'.size = cur.size):iR R B g w [n] [] R B g (w.setRow b cur') where
 wf:=h.mono (by simp [World.setRow])
 r _ h:=h
 b _ h:=h
 os:=rfl
 tape:=rfl
 output:=rfl
 size:=by simp [World.setRow]
 heap c _ hc:=setRow_other w b c cur' (fun e => hc n List.mem_cons_self (by rw [hn,e]; rfl))
 names _ _:=rfl
 fresh _ hk:=by cases hk
 shape k hk _ c cu e' hg hc:=by
  have:k = n:=by simpa using hk
  subst this
  rw [hn] at hg
  have hg:b = c:=Eq.symm hg
  subst hg
  rw [hh] at hc
  injection hc with hc
  injection hc with h1 h2 h3
  subst h1
  subst h2
  exact ⟨cur',setRow_heap w b cur cur' e (0,0) hh,hs⟩
theorem aKF {v:Value} (h:v.oneCell' = true):v.cells = #[v]:=by cases v <;> first | rfl | cases h
theorem LT.store {o:Oper} {t e:TypeId} {n off j k s:Nat} {x y:Operand} {els:List (List CV)} {cs:List CV} {v:SV} (ho:o.op = .store t x y) (hd:o.dst = none) {i:TypeInfo} (hi:P.info? t = some i) (hs:cO P t = s) (hl:(lT v).length = s) (hj:els[j]? = some cs)
  (ha:off = j * cO P e + k) (hk:k + s ≤ cs.length):LT P o [(x,Cc (.pl n off)),(y,.s v)] [(n,.row e els)] (.dM []) [(n,.row e (els.set j (ow cs k (lT v))))] [n] []:=by
 intro R B g w a hw hin hu K Q hK
 obtain ⟨_,b,hb,hx⟩:=in1 hin
 have hro:=uq hu
 have hrel:=RS.cells (in2 hin)
 rcases hro with ⟨h1,_⟩ | ⟨b',cur,h1,h2,h3,h4,h5⟩
 ·rw [hb] at h1; cases h1
 rw [hb] at h1
 injection h1 with h1
 subst h1
 have hcs:cs.length = cO P e:=h3 cs (List.mem_of_getElem? hj)
 have hjl:j < els.length:=(List.getElem?_eq_some_iff.1 hj).1
 have hsz:(a.eval y).cells.size = s:=by rw [← hl,← hrel.1]; simp
 have hrow:j * cO P e + cO P e ≤ els.length * cO P e:=by
  have:=Nat.mul_le_mul_right (cO P e) hjl
  rwa [Nat.succ_mul] at this
 have hfit:off + (a.eval y).cells.toList.length ≤ cur.toList.length:=by
  simp only [Array.length_toList,hsz]
  omega
 have hst:=run_storeCells_at P b off e (a.eval y).cells.toList 0 cur w h2 (by simpa using hfit) hrel.one
 simp only [Nat.add_zero] at hst
 have hrun:(execOp a.eval o).run P w = .ok .skip (w.setRow b (ow cur.toList off (a.eval y).cells.toList).toArray):=by
  have hsz':(a.eval y).cells.size = i.size:=by rw [hsz,← hs,YX hi]
  simp [execOp,ho,hx,Instr.storeAt,Instr.sureAddr,storeVar,sizeOf,typeInfo,hi,hsz',ow] at hst ⊢
  rw [hst]
  rfl
 unfold Oper.wp
 rw [hrun]
 have hsize:(ow cur.toList off (a.eval y).cells.toList).toArray.size = cur.size:=by
  rw [List.size_toArray,TD _ _ _ hfit]; simp
 have had:=iR.setRow hw hb h2 hsize
 refine hK undef R B g _ had (fun b hb => .inl hb) (fun h => by rw [hd] at h; cases h) (fun p hp => ?_)
 have:p = (n,.row e (els.set j (ow cs k (lT v)))):=by simpa using hp
 subst this
 have hkc:k + (lT v).length ≤ cs.length:=by rw [hl]; exact hk
 refine .inr ⟨b,_,hb,setRow_heap w b cur _ e (0,0) h2,fun c hc => ?_,by rw [hsize]; simpa using h4,fun j' k' c y' hj' hk' => ?_⟩
 ·rcases List.mem_or_eq_of_mem_set hc with h | h
  ·exact h3 c h
  ·rw [h,TD _ _ _ hkc]; exact hcs
 ·have lift:∀ {y':CV} {u:Value},RC P w R B g y' u → RC P (w.setRow b (ow cur.toList off (a.eval y).cells.toList).toArray) R B g y' u:=fun hr => by
   have:=had.rc hw hr
   rwa [SG] at this
  have hvl:(a.eval y).cells.toList.length = s:=by simpa using hsz
  rw [List.getElem?_set] at hj'
  by_cases hjj:j = j'
  ·subst hjj
   rw [if_pos rfl,if_pos hjl] at hj'
   injection hj' with hj'
   subst hj'
   by_cases hin':k ≤ k' ∧ k' < k + (lT v).length
   ·rw [TB _ _ _ hkc k' hin'.1 hin'.2] at hk'
    obtain ⟨u,hu1,hu2⟩:=hrel.2 _ y' hk'
    refine ⟨u,?_,lift hu2⟩
    have:(ow cur.toList off (a.eval y).cells.toList)[j * cO P e + k']? = some u:=by
     rw [TB _ _ _ hfit _ (by omega) (by rw [hvl]; omega),← hu1]
     congr 1
     omega
    simpa using this
   ·have hout:k' < k ∨ k + (lT v).length ≤ k':=by omega
    rw [PW _ _ _ hkc k' hout] at hk'
    obtain ⟨u,hu1,hu2⟩:=h5 j k' cs y' hj hk'
    refine ⟨u,?_,lift hu2⟩
    have:(ow cur.toList off (a.eval y).cells.toList)[j * cO P e + k']? = some u:=by
     rw [PW _ _ _ hfit _ (by rw [hvl]; omega)]
     simpa using hu1
    simpa using this
  ·rw [if_neg hjj] at hj'
   obtain ⟨u,hu1,hu2⟩:=h5 j' k' c y' hj' hk'
   refine ⟨u,?_,lift hu2⟩
   have aHi:k' < cO P e:=by rw [← h3 c (List.mem_of_getElem? hj')]; exact (List.getElem?_eq_some_iff.1 hk').1
   have hne:∀ q,q < cO P e → j * cO P e + q ≠ j' * cO P e + k':=fun q hq => aJw hq aHi hjj
   have hout:j' * cO P e + k' < off ∨ off + (a.eval y).cells.toList.length ≤ j' * cO P e + k':=by
    rw [hvl]
    rcases Nat.lt_or_ge (j' * cO P e + k') off with h | h
    ·exact .inl h
    ·refine .inr (Nat.le_of_not_lt fun h' => ?_)
     exact hne (j' * cO P e + k' - j * cO P e) (by omega) (by omega)
   have:(ow cur.toList off (a.eval y).cells.toList)[j' * cO P e + k']? = some u:=by
    rw [PW _ _ _ hfit _ hout]
    simpa using hu1
   simpa using this
theorem LT.conv {o:Oper} {ins:List (Operand × AV)} {us Ye df df':Mem} {v:AV} {W X:List Nat} (h1:∀ (w:World) (R B:Nat → Prop) (g:Nat → GS),(∀ p ∈ Ye,RO P w R B g p.1 p.2) → ∀ p ∈ us,RO P w R B g p.1 p.2)
  (h2:∀ (w:World) (R B:Nat → Prop) (g:Nat → GS),(∀ p ∈ df,RO P w R B g p.1 p.2) → ∀ p ∈ df',RO P w R B g p.1 p.2) (h:LT P o ins us v df W X):LT P o ins Ye v df' W X :=
 fun R B g w a hw hi hu K Q hK => h R B g w a hw hi (h1 w R B g hu) K Q fun u R' B' g' w' had hR hv hob => hK u R' B' g' w' had hR hv (h2 w' R' B' g' hob)
theorem KH {n:Nat} {ob:Ob} (h:RO P w R B g n ob):∀ p ∈ [(n,ob)],RO P w R B g p.1 p.2:=fun p hp => by
 have:p = (n,ob):=by simpa using hp
 subst this
 exact h
theorem LT.MC {o:Oper} {ins:List (Operand × AV)} {us:Mem} {v:AV} {n:Nat} {e:TypeId} {lN:List (List PV)} {W X Y:List Nat} (h:LT P o ins us v [(n,.row e ((iT lN).map (·.map (bY Y))))] W X):LT P o ins us v [(n,.dF e lN)] W X :=
 h.conv (fun _ _ _ _ h => h) fun w R B g hu => KH (by have:=uq hu; rwa [Ph] at this)
theorem LT.UY {o:Oper} {ins:List (Operand × AV)} {df:Mem} {v:AV} {n:Nat} {e:TypeId} {lN:List (List PV)} {W X:List Nat} (h:LT P o ins [(n,.row e (iT lN))] v df W X):LT P o ins [(n,.dF e lN)] v df W X :=
 LT.conv (us:=[(n,.row e (iT lN))]) (Ye:=[(n,.dF e lN)]) (fun w R B g hu => KH (ob:=.row e (iT lN)) (uq (ob:=.dF e lN) hu)) (fun _ _ _ _ h => h) h
theorem X9 (els:List (List PV)):(iT els).length = els.length:=by simp [iT]
theorem VT {α:Type} {s:Nat} (hs:0 < s):∀ (els:List (List α)),(∀ cs ∈ els,cs.length = s) → ∀ (i:Nat) x,els.flatten[i]? = some x → ∃ cs,els[i / s]? = some cs ∧ cs[i % s]? = some x
 | [],_,i,x,h => by simp at h
 | c :: els,hl,i,x,h => by
  have hc:c.length = s:=hl c List.mem_cons_self
  rw [List.flatten_cons] at h
  by_cases hi:i < s
  ·rw [List.getElem?_append_left (by omega)] at h
   exact ⟨c,by rw [Nat.div_eq_of_lt hi]; rfl,by rw [Nat.mod_eq_of_lt hi]; exact h⟩
  ·rw [List.getElem?_append_right (by omega),hc] at h
   obtain ⟨cs,h1,h2⟩:=VT hs els (fun cs hcs => hl cs (List.mem_cons_of_mem _ hcs)) (i - s) x h
   refine ⟨cs,?_,?_⟩
   ·rw [Nat.div_eq_sub_div hs (by omega)]; exact h1
   ·rw [Nat.mod_eq_sub_mod (by omega)]; exact h2
theorem gX.flat {n b:Nat} {e:TypeId} {els:List (List CV)} (hs:0 < cO P e) (h:gX P w R B g n e els) (hb:g n = .blk b) :
  (∀ cs ∈ els,cs.length = cO P e) ∧ ∃ cur,w.heap[b]? = some (.cells cur e (0,0)) ∧ els.length * cO P e ≤ cur.size ∧ rJ P w R B g els.flatten (cur.toList.take (els.length * cO P e)):=by
 rcases h with ⟨h1,_⟩ | ⟨b',cur,h1,h2,h3,h4,h5⟩
 ·rw [hb] at h1; cases h1
 ·rw [hb] at h1
  injection h1 with h1
  subst h1
  refine ⟨h3,cur,h2,h4,by rw [flat_length els h3]; simp; omega,fun i x hi => ?_⟩
  obtain ⟨cs,k1,k2⟩:=VT hs els h3 i x hi
  obtain ⟨u,hu,hr⟩:=h5 _ _ cs x k1 k2
  have hil:i < els.length * cO P e:=by rw [← flat_length els h3]; exact (List.getElem?_eq_some_iff.1 hi).1
  refine ⟨u,?_,hr⟩
  rw [List.getElem?_take,if_pos hil]
  have:i / cO P e * cO P e + i % cO P e = i:=by rw [Nat.mul_comm]; exact Nat.div_add_mod i _
  rw [this] at hu
  simpa using hu
theorem gX.of_flat {n b:Nat} {e:TypeId} {els:List (List CV)} {cur:Array Value} (hb:g n = .blk b) (hl:∀ cs ∈ els,cs.length = cO P e) (hh:w.heap[b]? = some (.cells cur e (0,0))) (hc:els.length * cO P e ≤ cur.size)
  (hr:rJ P w R B g els.flatten (cur.toList.take (els.length * cO P e))):gX P w R B g n e els :=
 .inr ⟨b,cur,hb,hh,hl,hc,fun j k cs x hj hk => by
  obtain ⟨u,hu,Ez⟩:=hr.2 _ x (Qm els hl j k cs x hj hk)
  refine ⟨u,?_,Ez⟩
  rw [List.getElem?_take] at hu
  split at hu
  ·simpa using hu
  ·cases hu⟩
def QK (P:Program) (w:World) (R B:Nat → Prop) (g:Nat → GS) (v:Value) (els:List (List CV)) (s:Nat):Prop :=
 ∃ A c,v = .slice A els.length c ∧ ∃ news:List Value,rJ P w R B g els.flatten news ∧ ∀ i u,news[i]? = some u → ∃ ad,A = some ad ∧ w.cell? (ad.add i) = some u
theorem aLM {v:Value} {q:Bool} {els:List (List PV)} {s:Nat} (hs:0 < s) (hl:∀ cs ∈ els,cs.length = s) (h:RC P w R B g (.pv (.xs q els)) v):QK P w R B g v (iT els) s:=by
 obtain ⟨_,h⟩:=h
 cases h with
 | emp => exact ⟨_,_,rfl,[],⟨rfl,fun k x hk => by simp [iT] at hk⟩,fun i u hu => by simp at hu⟩
 | @xs _ _ ad c s' n val hn hq hc hs' hv hr =>
  subst hn
  have hss:∀ cs ∈ els,s' = s:=fun cs hcs => (hs' cs hcs).symm.trans (hl cs hcs)
  have aA1:∀ (i:Nat) p,els.flatten[i]? = some p → ∃ cs,els[i / s]? = some cs ∧ cs[i % s]? = some p:=VT hs els hl
  refine ⟨some ad,c,by simp [iT],(List.range els.flatten.length).map fun i => val (i / s) (i % s),⟨by simp [iT,← List.map_flatten],fun k x hk => ?_⟩,fun i u hu => ?_⟩
  ·simp only [iT,← List.map_flatten,List.getElem?_map] at hk
   cases hp:els.flatten[k]? with
   | none => rw [hp] at hk; cases hk
   | some p =>
    rw [hp] at hk
    injection hk with hk
    subst hk
    obtain ⟨cs,h1,h2⟩:=aA1 k p hp
    have hlt:k < els.flatten.length:=(List.getElem?_eq_some_iff.1 hp).1
    exact ⟨val (k / s) (k % s),by rw [List.getElem?_map,List.getElem?_range hlt]; rfl,(hr _ _ _ _ h1 h2).oneCell,hr _ _ _ _ h1 h2⟩
  ·rw [List.getElem?_map] at hu
   cases hi:(List.range els.flatten.length)[i]? with
   | none => rw [hi] at hu; cases hu
   | some i' =>
    rw [hi] at hu
    injection hu with hu
    subst hu
    have hlt:i < els.flatten.length:=by simpa using (List.getElem?_eq_some_iff.1 hi).1
    have hii:i = i':=by
     rw [List.getElem?_eq_getElem (by simpa using hlt)] at hi
     simpa using hi
    subst hii
    obtain ⟨cs,h1,h2⟩:=aA1 i els.flatten[i] (List.getElem?_eq_getElem hlt)
    refine ⟨ad,rfl,?_⟩
    have:=hv _ _ _ _ h1 h2
    rw [hss cs (List.mem_of_getElem? h1)] at this
    rwa [show i / s * s + i % s = i by rw [Nat.mul_comm]; exact Nat.div_add_mod i s] at this
theorem aDc {v:Value} {n:Nat} {e:TypeId} {els:List (List CV)} (hs:0 < cO P e) (h:RC P w R B g (.loc n 0 els.length) v) (ho:gX P w R B g n e els):QK P w R B g v els (cO P e):=by
 obtain ⟨_,h⟩:=h
 rcases h with ⟨h1,_,h3,h4⟩ | ⟨_,h2,_⟩ | ⟨b,cap,cur,e',k1,k2,k3,k4,k5,k6⟩
 ·have:els = []:=List.eq_nil_of_length_eq_zero h3
  subst this
  exact ⟨none,0,h4,[],⟨rfl,fun k x hk => by simp at hk⟩,fun i u hu => by simp at hu⟩
 ·exact absurd rfl h2
 ·obtain ⟨hl,cur',h5,h6,h7⟩:=ho.flat hs k1
  rw [k2] at h5
  injection h5 with h5
  injection h5 with h5 h8 h9
  subst h5
  subst h8
  refine ⟨some ⟨b,0,none⟩,cap,by simpa using k6,_,h7,fun i u hu => ⟨_,rfl,?_⟩⟩
  rw [add_lit,Nat.zero_add,GU k2]
  rw [List.getElem?_take] at hu
  split at hu
  ·simpa using hu
  ·cases hu
theorem aDJ {t ty e:TypeId} {i:TypeInfo} (ht:P.underlying t = some (.slice e)) (hi:P.info? e = some i) (A:Option Addr) (n c c':Nat) (hn:n ≤ c) (w:World) :
  (Builtin.append_ #[t,t] ty #[.slice A n c,.slice none 0 c']).run P w = .ok (.slice A n c) w:=by
 cases A <;> simp [Builtin.append_,run_underlying ht,sizeOf,typeInfo,hi,Builtin.lenOf,Builtin.firstCells,storeCells,hn]
def Y4 (P:Program) (w:World) (R B:Nat → Prop) (g:Nat → GS) (n:Nat) (e:TypeId) (v:Value) (els:List (List CV)):Prop :=
 (v = aJ ∧ els = []) ∨ (RC P w R B g (.loc n 0 els.length) v ∧ gX P w R B g n e els)
theorem aKr {t ty e:TypeId} {z:Value} {s qo:Nat} (ht:P.underlying t = some (.slice e)) (hz:TI P e z s qo) (hzs:z.cells.size = s) (hs:0 < s) (hb:qo ≤ 65536) (hw:WF R B g w) {n:Nat} {v x:Value} {els jH:List (List CV)}
  (hl2:∀ cs ∈ jH,cs.length = s) (hv:Y4 P w R B g n e v els) (hx:QK P w R B g x jH s) (hlim:els.length + jH.length ≤ uy) (W:List Nat) (hW:W = [n] ∨ (v = aJ ∧ W = [])) :
  ∃ v' g' w',(Builtin.append_ #[t,t] ty #[v,x]).run P w = .ok v' w' ∧ iR R B g w W [n] R B g' w' ∧ RC P w' R B g' (.loc n 0 (els.length + jH.length)) v' ∧ gX P w' R B g' n e ((els ++ jH).map (·.map (bY [n]))):=by
 obtain ⟨i,hi1,hi2,hi3,hi4⟩:=hz.parts
 have hsz:cO P e = s:=hz.sz
 have aHj:els.length + jH.length ≤ 2147483648:=hlim
 -- the target owns its row
 have hown:∃ xs,w.ownsRow 0 e s v els.length xs ∧ rJ P w R B g els.flatten xs ∧ (∀ cs ∈ els,cs.length = s) ∧ (∀ b,v.ownBlock = some b → g n = .blk b):=by
  rcases hv with ⟨rfl,rfl⟩ | ⟨hv1,hv2⟩
  ·exact ⟨[],World.ownsRow_nil w 0 e s,⟨rfl,fun k x hk => by simp at hk⟩,fun cs hcs => by simp at hcs,fun b hb => by simp [Value.ownBlock] at hb⟩
  ·obtain ⟨_,hv1⟩:=hv1
   rcases hv1 with ⟨h1,_,h3,h4⟩ | ⟨_,h2,_⟩ | ⟨b,cap,cur,e',k1,k2,k3,k4,k5,k6⟩
   ·have:els = []:=List.eq_nil_of_length_eq_zero h3
    subst this
    subst h4
    exact ⟨[],World.ownsRow_nil w 0 e s,⟨rfl,fun k x hk => by simp at hk⟩,fun cs hcs => by simp at hcs,fun b hb => by simp [Value.ownBlock] at hb⟩
   ·exact absurd rfl h2
   ·obtain ⟨hl,cur',h5,h6,h7⟩:=hv2.flat (by rw [hsz]; exact hs) k1
    rw [k2] at h5
    injection h5 with h5
    injection h5 with h5 h8 h9
    subst h5
    subst h8
    rw [hsz] at h7 h6 hl k5
    have hk6:v = .slice (some ⟨b,0,none⟩) els.length cap:=by simpa using k6
    refine ⟨_,⟨?_,.inr ⟨b,cap,cur,hk6,Nat.zero_le _,k2,k3,by omega,by simpa using k5.symm,rfl⟩⟩,h7,hl,fun b' hb' => ?_⟩
    ·simp; omega
    ·rw [hk6] at hb'
     simp [Value.ownBlock] at hb'
     rw [← hb']; exact k1
 obtain ⟨xs,hown,aBA,hlx,hblk⟩:=hown
 obtain ⟨A,c,rfl,news,RG,hcell⟩:=hx
 have hnl:news.length = jH.length * s:=by rw [RG.1,flat_length jH hl2]
 -- the run
 have hrun:∃ v' w',(Builtin.append_ #[t,t] ty #[v,.slice A jH.length c]).run P w = .ok v' w' ∧ w'.ownsRow 0 e s v' (els.length + jH.length) (xs ++ news) ∧ w.grownBy w' v.ownBlock ∧
   (v'.ownBlock = v.ownBlock ∨ v'.ownBlock = some w.heap.size):=by
  cases A with
  | none =>
   have hn0:news = []:=by
    cases news with
    | nil => rfl
    | cons u r =>
     obtain ⟨ad,h,_⟩:=hcell 0 u rfl
     cases h
   have h20:jH.length = 0:=by
    rw [hn0] at hnl
    rcases Nat.mul_eq_zero.1 hnl.symm with h | h
    ·exact h
    ·omega
   refine ⟨v,w,?_,by rw [hn0,h20]; simpa using hown,World.grownBy.refl w _,.inl rfl⟩
   rw [h20]
   rcases hown.2 with ⟨rfl,_⟩ | ⟨b,cap,cur,rfl,_,_,hnc,_⟩
   ·exact aDJ ht hi1 none 0 0 c (Nat.le_refl _) w
   ·exact aDJ ht hi1 _ _ _ c hnc w
  | some ad =>
   have hc:∀ j u,news[j]? = some u → w.cell? (ad.add j) = some u:=fun j u hu => by
    obtain ⟨ad',h,hc⟩:=hcell j u hu
    injection h with h
    subst h
    exact hc
   obtain ⟨v',w',h1,h2,h3,_,h5⟩:=run_append_own_at (P:=P) w 0 t ty e i z s qo ht hi1 hi2 hi3 hi4 hzs hs v els.length xs hown ad jH.length c news hnl hc RG.one
    (by simp only [maxLen]; omega) (by
     have:(els.length + jH.length) * qo ≤ 2147483648 * 65536:=Nat.mul_le_mul aHj hb
     omega) (Nat.zero_le _)
   exact ⟨v',w',h1,h2,h3,h5⟩
 obtain ⟨v',w',hr1,hr2,hr3,hr4⟩:=hrun
 have hvW:∀ b,v.ownBlock = some b → W = [n]:=fun b hb => by
  rcases hW with h | ⟨h,_⟩
  ·exact h
  ·rw [h] at hb; simp [Value.ownBlock] at hb
 have hheap:∀ k,k < w.heap.size → (∀ m ∈ W,¬ (g m).has k) → w'.heap[k]? = w.heap[k]?:=fun k hk hkW => hr3.block k hk fun e => by
  have h1:=hblk k e.symm
  have h2:=hvW k e.symm
  exact hkW n (by rw [h2]; exact List.mem_cons_self) (GS.wL h1)
 have hl12:∀ cs ∈ els ++ jH,cs.length = s:=fun cs hcs => (List.mem_append.1 hcs).elim (hlx cs) (hl2 cs)
 rcases hr2.2 with ⟨h1,h2⟩ | ⟨b2,cap,cur,h1,_,h3,h4,h5,h6,h7⟩
 ·-- still nil
  have he1:els = []:=List.eq_nil_of_length_eq_zero (by omega)
  have he2:jH = []:=List.eq_nil_of_length_eq_zero (by omega)
  subst he1
  subst he2
  refine ⟨v',upd g n .nil,w',hr1,?_,⟨by rw [h1]; rfl,.inl ⟨upd_same ..,rfl,rfl,h1⟩⟩,.inl ⟨upd_same ..,rfl⟩⟩
  refine ⟨hw.upd n _ hr3.size (fun b hb => hb.elim) (fun j k b hj => by cases hj),fun _ h => h,fun _ h => h,hr3.os,hr3.tape,hr3.output,hr3.size,hheap,fun k hk => upd_ne g _ (by simpa using hk),fun k hk b hb => ?_,fun k hkW hkX => ?_⟩
  ·have:k = n:=by simpa using hk
   subst this
   rw [upd_same] at hb; exact hb.elim
  ·rcases hW with h | ⟨_,h⟩
   ·rw [h] at hkW; exact absurd (by simpa using hkW) hkX
   ·rw [h] at hkW; cases hkW
 ·-- a row
  have hb2:(g n = .blk b2) ∨ w.heap.size ≤ b2:=by
   rw [h1] at hr4
   simp only [Value.ownBlock] at hr4
   rcases hr4 with h | h
   ·exact .inl (hblk b2 h.symm)
   ·injection h with h
    exact .inr (by omega)
  have aGz:w.heap.size ≤ b2 ∨ ∃ m ∈ W,(g m).has b2:=by
   rw [h1] at hr4
   simp only [Value.ownBlock] at hr4
   rcases hr4 with h | h
   ·exact .inr ⟨n,by rw [hvW b2 h.symm]; exact List.mem_cons_self,GS.wL (hblk b2 h.symm)⟩
   ·injection h with h
    exact .inl (by omega)
  have aG0:b2 < w'.heap.size:=(Array.getElem?_eq_some_iff.1 h3).1
  have had:iR R B g w W [n] R B (upd g n (.blk b2)) w':=by
   have hother:∀ q,q ≠ n → ¬ (g q).has b2:=fun q hq hg => by
    rcases hb2 with h | h
    ·exact hq (hw.kW q n b2 hg (GS.wL h))
    ·exact absurd (hw.ja q b2 hg).2 (by omega)
   refine ⟨hw.upd n _ hr3.size (fun b hb => ?_) GS.aCG,fun _ h => h,fun _ h => h,hr3.os,hr3.tape,hr3.output,hr3.size,hheap,fun k hk => upd_ne g _ (by simpa using hk),fun k hk b hb => ?_,fun k hkW hkX => ?_⟩
   ·have hb:b = b2:=hb
    subst hb
    refine ⟨fun hB => ?_,aG0,hother⟩
    rcases hb2 with h | h
    ·exact (hw.own n b h).1 hB
    ·exact absurd (hw.lt b hB) (by omega)
   ·have:k = n:=by simpa using hk
    subst this
    rw [upd_same] at hb
    have hb:b = b2:=hb
    subst hb
    exact aGz
   ·rcases hW with h | ⟨_,h⟩
    ·rw [h] at hkW; exact absurd (by simpa using hkW) hkX
    ·rw [h] at hkW; cases hkW
  refine ⟨v',_,w',hr1,had,⟨by rw [h1]; rfl,.inr (.inr ⟨b2,cap,cur,e,upd_same ..,h3,h4,by omega,by rw [hsz]; simpa using h6.symm,by simpa using h1⟩)⟩,?_⟩
  have hk1:=(aBA.keep had hw)
  have hk2:=(RG.keep had hw)
  refine gX.of_flat (upd_same ..) (fun cs hcs => ?_) h3 ?_ ?_
  ·obtain ⟨c0,hc0,rfl⟩:=List.mem_map.1 hcs
   rw [hsz]; simpa using hl12 c0 hc0
  ·rw [hsz]
   simp only [List.length_map,List.length_append]
   rw [h6]
   exact Nat.mul_le_mul_right _ h4
  ·rw [hsz]
   simp only [List.length_map,List.length_append]
   rw [h7,← List.map_flatten,List.flatten_append,List.map_append]
   refine ⟨by simp [hk1.1,hk2.1,aBA.1,RG.1],fun k x hk => ?_⟩
   rw [List.getElem?_append] at hk ⊢
   have hlen:xs.length = (els.flatten.map (bY [n])).length:=hk1.1
   rw [hlen]
   split at hk
   ·rename_i hlt
    rw [if_pos hlt]
    exact hk1.2 k x hk
   ·rename_i hlt
    rw [if_neg hlt]
    exact hk2.2 _ x hk
theorem LT.append {o:Oper} {ins:List (Operand × AV)} {us:Mem} {t e:TypeId} {x y:Operand} {n:Nat} {els jH:List (List CV)} {z:Value} {s qo:Nat} {W:List Nat} (ho:o.op = .call { callee:=.builtin .append,args:=#[x,y],argTypes:=#[t,t] })
  (ht:P.underlying t = some (.slice e)) (hz:TI P e z s qo) (hzs:z.cells.size = s) (hs:0 < s) (hb:qo ≤ 65536) (hl2:∀ cs ∈ jH,cs.length = s) (hlim:els.length + jH.length ≤ uy)
  (h:∀ R B g w (a:Act),WF R B g w → (∀ p ∈ ins,RA P w R B g p.2 (a.eval p.1)) → (∀ p ∈ us,RO P w R B g p.1 p.2) → Y4 P w R B g n e (a.eval x) els ∧ QK P w R B g (a.eval y) jH s ∧ (W = [n] ∨ (a.eval x = aJ ∧ W = []))) :
  LT P o ins us (Cc (.loc n 0 (els.length + jH.length))) [(n,.row e ((els ++ jH).map (·.map (bY [n]))))] W [n]:=by
 intro R B g w a hw hi hu K Q hK
 obtain ⟨h1,h2,h3⟩:=h R B g w a hw hi hu
 obtain ⟨v',g',w',hr,had,hv,hro⟩:=aKr (ty:=o.type) ht hz hzs hs hb hw hl2 h1 h2 hlim W h3
 unfold Oper.wp execOp
 simp only [ho,resolve,invoke,builtin,Sem.run_bind,Sem.run_pure,Result.andThen_ok,List.map_toArray,List.map_cons,List.map_nil,hr]
 exact hK v' R B g' w' had (fun b hb => .inl hb) (fun _ => hv) (KH hro)
section
variable {o:Oper} {t e:TypeId} {x y:Operand} {n n2:Nat} {lN oQ:List (List PV)} {z:Value} {s qo:Nat} {q:Bool}
theorem LT.aFB (ho:o.op = .call { callee:=.builtin .append,args:=#[x,y],argTypes:=#[t,t] }) (ht:P.underlying t = some (.slice e)) (hz:TI P e z s qo) (hzs:z.cells.size = s) (hs:0 < s) (hb:qo ≤ 65536)
  (hl2:∀ cs ∈ oQ,cs.length = s) (hlim:lN.length + oQ.length ≤ uy) :
  LT P o [(x,Cc (.loc n 0 lN.length)),(y,Cc (.pv (.xs q oQ)))] [(n,.dF e lN)] (Cc (.loc n 0 (lN.length + oQ.length))) [(n,.dF e (lN ++ oQ))] [n] [n]:=by
 have:=LT.append (P:=P) (ins:=[(x,Cc (.loc n 0 lN.length)),(y,Cc (.pv (.xs q oQ)))]) (us:=[(n,.dF e lN)]) (n:=n) (els:=iT lN) (jH:=iT oQ) (W:=[n]) ho ht hz hzs hs hb
  (fun cs hcs => by obtain ⟨c,hc,rfl⟩:=List.mem_map.1 hcs; simpa using hl2 c hc) (by simpa [iT] using hlim)
  (fun R B g w a hw hi hu => ⟨.inr ⟨by rw [X9]; exact in1 hi,uq hu⟩,aLM hs hl2 (in2 hi),.inl rfl⟩)
 have h2:LT P o [(x,Cc (.loc n 0 lN.length)),(y,Cc (.pv (.xs q oQ)))] [(n,.dF e lN)] (Cc (.loc n 0 (lN.length + oQ.length))) [(n,.row e ((iT (lN ++ oQ)).map (·.map (bY [n]))))] [n] [n]:=by
  simpa [iT] using this
 exact h2.MC
theorem LT.aFA (ho:o.op = .call { callee:=.builtin .append,args:=#[x,y],argTypes:=#[t,t] }) (ht:P.underlying t = some (.slice e)) (hz:TI P e z s qo) (hzs:z.cells.size = s) (hs:0 < s) (hb:qo ≤ 65536)
  (hl2:∀ cs ∈ oQ,cs.length = s) (hlim:lN.length + oQ.length ≤ uy) :
  LT P o [(x,Cc (.loc n 0 lN.length)),(y,Cc (.loc n2 0 oQ.length))] [(n,.dF e lN),(n2,.dF e oQ)] (Cc (.loc n 0 (lN.length + oQ.length))) [(n,.dF e (lN ++ oQ))] [n] [n]:=by
 have:=LT.append (P:=P) (ins:=[(x,Cc (.loc n 0 lN.length)),(y,Cc (.loc n2 0 oQ.length))]) (us:=[(n,.dF e lN),(n2,.dF e oQ)]) (n:=n) (els:=iT lN) (jH:=iT oQ) (W:=[n]) ho ht hz hzs hs hb
  (fun cs hcs => by obtain ⟨c,hc,rfl⟩:=List.mem_map.1 hcs; simpa using hl2 c hc) (by simpa [iT] using hlim)
  (fun R B g w a hw hi hu => ⟨.inr ⟨by rw [X9]; exact in1 hi,uq hu⟩,by
   have:=aDc (els:=iT oQ) (by rw [hz.sz]; exact hs) (by rw [X9]; exact in2 hi) (us2 hu)
   rwa [hz.sz] at this,.inl rfl⟩)
 have h2:LT P o [(x,Cc (.loc n 0 lN.length)),(y,Cc (.loc n2 0 oQ.length))] [(n,.dF e lN),(n2,.dF e oQ)] (Cc (.loc n 0 (lN.length + oQ.length))) [(n,.row e ((iT (lN ++ oQ)).map (·.map (bY [n]))))] [n] [n]:=by
  simpa [iT] using this
 exact h2.MC
end
end
end
end Go.Fw
end
