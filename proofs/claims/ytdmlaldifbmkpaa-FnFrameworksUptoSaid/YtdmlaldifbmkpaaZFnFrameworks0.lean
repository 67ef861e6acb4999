/- Parts of a proof that a law of the program holds: what the program computes, and why that is right. -/
import Derived.WalkKit
import Derived.Orders
import Derived.Deep.Slices
import Derived.LoopN
import Derived.Laws.StructEq
import Derived.Laws.MakeOwn
import Derived.Laws.AppendOwn
import Derived.Maps.AppendAt
set_option linter.unusedVariables false
set_option linter.unusedSimpArgs false
set_option linter.unnecessarySimpa false
set_option maxRecDepth 100000
set_option maxHeartbeats 8000000
section
namespace Go.Fw
section
inductive PV where
 | sc (v:Value)
 | xs (q:Bool) (els:List (List PV))
inductive CV where
 | pv (p:PV)
 | px (q:Bool) (cells:List PV)
 | loc (n off len:Nat)
 | pl (n off:Nat)
 | fn (f:FuncId) (caps:List Nat)
 | mref (n:Nat)
 | tl (p k off len:Nat)
 | tpl (p k off:Nat)
 | junk
inductive SV where
 | c (x:CV)
 | agg (cells:List CV)
inductive AV where
 | s (x:SV)
 | dW (vs:List SV)
inductive Ob where
 | row (e:TypeId) (els:List (List CV))
 | fA (e:TypeId) (els:List (List PV))
 | mp (es:List (Int × Int))
 | pool (e:TypeId) (rows:List (List (List PV)))
 | dh (e:TypeId) (p:Nat) (lens:List Nat)
 | lW (e:TypeId) (p q:Nat) (fs:List (Int × Nat × Nat))
 | unk
inductive GS where
 | dead
 | nil
 | blk (b:Nat)
 | pool (bs:List (Option Nat))
def GS.has:GS → Nat → Prop
 | .blk b,x => x = b
 | .pool bs,x => some x ∈ bs
 | _,_ => False
def GS.at (s:GS) (k:Nat):GS:=match s with
 | .pool bs => match bs[k]? with
  | some (some b) => .blk b
  | some none => .nil
  | none => .dead
 | _ => .dead
theorem GS.uh {s:GS} {b:Nat} (h:s = .blk b):s.has b:=by rw [h]; rfl
theorem GS.tH {s:GS} {k b:Nat} (h:s.at k = .blk b):s.has b:=by
 cases s with
 | pool bs =>
  simp only [GS.at] at h
  cases hb:bs[k]? with
  | none => rw [hb] at h; cases h
  | some o =>
   cases o with
   | none => rw [hb] at h; cases h
   | some c =>
    rw [hb] at h
    injection h with h
    subst h
    exact List.mem_of_getElem? hb
 | _ => cases h
abbrev Slots:=List (Nat × AV)
abbrev Mem:=List (Nat × Ob)
def bZ (P:Program) (e:TypeId):Nat:=((P.info? e).map (·.size)).getD 0
def DT (R B:Nat → Prop) (q:Bool):Nat → Prop:=match q with
 | true => R
 | false => B
inductive jH (w:World) (R B:Nat → Prop):PV → Value → Prop
 | sc {v:Value} (h:v.oneCell' = true):jH w R B (.sc v) v
 | emp {q:Bool} {a:Option Addr} {c:Nat}:jH w R B (.xs q []) (.slice a 0 c)
 | xs {q:Bool} {els:List (List PV)} {a:Addr} {c s n:Nat} (val:Nat → Nat → Value) (hn:n = els.length) (hb:DT R B q a.block) (hc:els.length ≤ c) (hs:∀ cs ∈ els,cs.length = s)
   (hv:∀ j k cs p,els[j]? = some cs → cs[k]? = some p → w.cell? (a.add (j * s + k)) = some (val j k))
   (hr:∀ j k cs p,els[j]? = some cs → cs[k]? = some p → jH w R B p (val j k)):jH w R B (.xs q els) (.slice (some a) n c)
def UQ (P:Program) (w:World) (R B:Nat → Prop) (g:Nat → GS):CV → Value → Prop
 | .pv p,v => jH w R B p v
 | .px q cells,v => ∃ a,v = .pointer (some a) ∧ DT R B q a.block ∧ ∀ k p,cells[k]? = some p → ∃ u,w.cell? (a.add k) = some u ∧ jH w R B p u
 | .loc n off len,v =>
  (g n = .nil ∧ off = 0 ∧ len = 0 ∧ v = .slice none 0 0) ∨ (len = 0 ∧ off ≠ 0 ∧ ∃ a c,v = .slice a 0 c) ∨
  ∃ b cap cur e,g n = .blk b ∧ w.heap[b]? = some (.cells cur e (0,0)) ∧ len ≤ cap ∧ off + cap ≤ maxLen ∧ (off + cap) * bZ P e = cur.size ∧ v = .slice (some ⟨b,off * bZ P e,none⟩) len cap
 | .pl n off,v => ∃ b,g n = .blk b ∧ v = .pointer (some ⟨b,off,none⟩)
 | .fn f caps,v => ∃ vs:List Value,v = .func (.func f) #[] vs.toArray ∧ vs.length = caps.length ∧ ∀ (k n:Nat),caps[k]? = some n → ∃ b,g n = .blk b ∧ vs[k]? = some (Value.pointer (some ⟨b,0,none⟩))
 | .mref n,v => ∃ b,g n = .blk b ∧ v = .map (some b)
 | .tl p k off len,v =>
  ((g p).at k = .nil ∧ off = 0 ∧ len = 0 ∧ v = .slice none 0 0) ∨ (len = 0 ∧ off ≠ 0 ∧ ∃ a c,v = .slice a 0 c) ∨
  ∃ b cap cur e,(g p).at k = .blk b ∧ w.heap[b]? = some (.cells cur e (0,0)) ∧ len ≤ cap ∧ off + cap ≤ maxLen ∧ (off + cap) * bZ P e = cur.size ∧ v = .slice (some ⟨b,off * bZ P e,none⟩) len cap
 | .tpl p k off,v => ∃ b,(g p).at k = .blk b ∧ v = .pointer (some ⟨b,off,none⟩)
 | .junk,_ => True
def RC (P:Program) (w:World) (R B:Nat → Prop) (g:Nat → GS) (x:CV) (v:Value):Prop:=v.oneCell' = true ∧ UQ P w R B g x v
def RS (P:Program) (w:World) (R B:Nat → Prop) (g:Nat → GS):SV → Value → Prop
 | .c x,v => RC P w R B g x v
 | .agg cells,v => ∃ vs:List Value,v = .agg vs.toArray ∧ vs.length = cells.length ∧ ∀ (k:Nat) x,cells[k]? = some x → ∃ u,vs[k]? = some u ∧ RC P w R B g x u
def RA (P:Program) (w:World) (R B:Nat → Prop) (g:Nat → GS):AV → Value → Prop
 | .s x,v => RS P w R B g x v
 | .dW xs,v => ∃ vs:List Value,v = .tuple vs.toArray ∧ vs.length = xs.length ∧ ∀ (k:Nat) x,xs[k]? = some x → ∃ u,vs[k]? = some u ∧ RS P w R B g x u
def eU (P:Program) (w:World) (R B:Nat → Prop) (g:Nat → GS) (n:Nat) (e:TypeId) (els:List (List CV)):Prop :=
  (g n = .nil ∧ els = []) ∨
  ∃ b cur,g n = .blk b ∧ w.heap[b]? = some (.cells cur e (0,0)) ∧ (∀ cs ∈ els,cs.length = bZ P e) ∧ els.length * bZ P e ≤ cur.size ∧
   ∀ (j k:Nat) cs x,els[j]? = some cs → cs[k]? = some x → ∃ u,cur[j * bZ P e + k]? = some u ∧ RC P w R B g x u
def gY (els:List (List PV)):List (List CV):=els.map (·.map .pv)
def iJ (p:Nat) (lens:List Nat):List (List CV):=lens.mapIdx fun j l => [.tl p j 0 l]
def oZ (p q:Nat) (fs:List (Int × Nat × Nat)):List (List CV):=fs.mapIdx fun j f => [.pv (.sc (.int .i64 f.1)),.tl p j 0 f.2.1,.tl q j 0 f.2.2]
def tC (P:Program) (w:World) (R B:Nat → Prop) (s:GS) (e:TypeId) (els:List (List PV)):Prop :=
  (s = .nil ∧ els = []) ∨
  ∃ b cur,s = .blk b ∧ w.heap[b]? = some (.cells cur e (0,0)) ∧ (∀ cs ∈ els,cs.length = bZ P e) ∧ els.length * bZ P e ≤ cur.size ∧
   ∀ (j k:Nat) cs x,els[j]? = some cs → cs[k]? = some x → ∃ u,cur[j * bZ P e + k]? = some u ∧ jH w R B x u
def RO (P:Program) (w:World) (R B:Nat → Prop) (g:Nat → GS) (n:Nat):Ob → Prop
 | .row e els => eU P w R B g n e els
 | .fA e els => eU P w R B g n e (gY els)
 | .mp es => ∃ b uQ clock,g n = .blk b ∧ w.heap[b]? = some (.map uQ clock) ∧ uQ.toList.map (fun e => (e.key,e.val)) = es.map fun e => (Value.int .i64 e.1,Value.int .i64 e.2)
 | .pool e rows => (∃ bs,g n = .pool bs ∧ bs.length = rows.length) ∧ ∀ (k:Nat) els,rows[k]? = some els → tC P w R B ((g n).at k) e els
 | .dh e p lens => eU P w R B g n e (iJ p lens)
 | .lW e p q fs => eU P w R B g n e (oZ p q fs)
 | .unk => True
structure WF (R B:Nat → Prop) (g:Nat → GS) (w:World):Prop where
 rb:∀ b,R b → B b
 lt:∀ b,B b → b < w.heap.size
 jZ:∀ n b,(g n).has b → ¬ B b ∧ b < w.heap.size
 jk:∀ n m b,(g n).has b → (g m).has b → n = m
 nd:∀ n j k b,(g n).at j = .blk b → (g n).at k = .blk b → j = k
theorem WF.own {R B:Nat → Prop} {g:Nat → GS} {w:World} (h:WF R B g w) (n b:Nat) (hg:g n = .blk b):¬ B b ∧ b < w.heap.size:=h.jZ n b (GS.uh hg)
theorem WF.inj {R B:Nat → Prop} {g:Nat → GS} {w:World} (h:WF R B g w) (n m b:Nat) (hn:g n = .blk b) (hm:g m = .blk b):n = m:=h.jk n m b (GS.uh hn) (GS.uh hm)
structure iH (R B:Nat → Prop) (g:Nat → GS) (w:World) (W X:List Nat) (R' B':Nat → Prop) (g':Nat → GS) (w':World):Prop where
 wf:WF R' B' g' w'
 r:∀ b,R b → R' b
 b:∀ b,B b → B' b
 os:w'.os = w.os
 tape:w'.tape = w.tape
 output:w'.output = w.output
 size:w.heap.size ≤ w'.heap.size
 heap:∀ b,b < w.heap.size → (∀ n ∈ W,¬ (g n).has b) → w'.heap[b]? = w.heap[b]?
 names:∀ n,n ∉ X → g' n = g n
 fresh:∀ n ∈ X,∀ b,(g' n).has b → w.heap.size ≤ b ∨ ∃ m ∈ W,(g m).has b
 shape:∀ n ∈ W,n ∉ X → ∀ b cur e,(g n).has b → w.heap[b]? = some (.cells cur e (0,0)) → ∃ cur',w'.heap[b]? = some (.cells cur' e (0,0)) ∧ cur'.size = cur.size
def cO (X:List Nat):CV → CV
 | .loc n o l => bif X.elem n then .junk else .loc n o l
 | .pl n o => bif X.elem n then .junk else .pl n o
 | .fn f caps => bif caps.any X.elem then .junk else .fn f caps
 | .mref n => bif X.elem n then .junk else .mref n
 | .tl p k o l => bif X.elem p then .junk else .tl p k o l
 | .tpl p k o => bif X.elem p then .junk else .tpl p k o
 | x => x
def qi (X:List Nat):SV → SV
 | .c x => .c (cO X x)
 | .agg cs => .agg (cs.map (cO X))
def pK (X:List Nat):AV → AV
 | .s x => .s (qi X x)
 | .dW xs => .dW (xs.map (qi X))
def lD (X:List Nat):Ob → Ob
 | .row e els => .row e (els.map (·.map (cO X)))
 | .fA e els => .fA e els
 | .mp es => .mp es
 | .pool e rows => .pool e rows
 | .dh e p lens => bif X.elem p then .unk else .dh e p lens
 | .lW e p q fs => bif X.elem p then .unk else bif X.elem q then .unk else .lW e p q fs
 | .unk => .unk
def lK (X:List Nat) (σ:Slots):Slots:=σ.map fun p => (p.1,pK X p.2)
def jV (X:List Nat):Mem → Mem
 | [] => []
 | (n,o) :: r => bif X.elem n then jV X r else (n,lD X o) :: jV X r
section
variable {P:Program} {w w':World} {R B R' B':Nat → Prop} {g g':Nat → GS} {W X:List Nat}
theorem SN (hr:∀ b,R b → R' b) (hb:∀ b,B b → B' b) {q:Bool} {b:Nat} (h:DT R B q b):DT R' B' q b:=by
 cases q
 ·exact hb _ h
 ·exact hr _ h
theorem aBx (hrb:∀ b,R b → B b) {q:Bool} {b:Nat} (h:DT R B q b):B b:=by
 cases q
 ·exact h
 ·exact hrb _ h
theorem add_block (a:Addr) (n:Nat):(a.add n).block = a.block:=by unfold Addr.add; split <;> rfl
theorem jH.keep (hr:∀ b,R b → R' b) (hb:∀ b,B b → B' b) (hrb:∀ b,R b → B b) (hh:∀ b,B b → w'.heap[b]? = w.heap[b]?) {p:PV} {v:Value} (h:jH w R B p v):jH w' R' B' p v:=by
 induction h with
 | sc h => exact .sc h
 | emp => exact .emp
 | xs val hn hq hc hs hv _ ih =>
  refine .xs val hn (SN hr hb hq) hc hs (fun j k cs p h1 h2 => ?_) ih
  rw [World.cell?_of_block (w:=w) (by rw [add_block]; exact hh _ (aBx hrb hq))]
  exact hv j k cs p h1 h2
theorem jH.oneCell {p:PV} {v:Value} (h:jH w R B p v):v.oneCell' = true:=by
 cases h <;> first | assumption | rfl
theorem iH.aA0 (h:iH R B g w W X R' B' g' w') (hw:WF R B g w):∀ b,B b → w'.heap[b]? = w.heap[b]? :=
 fun b hb => h.heap b (hw.lt b hb) fun n _ he => (hw.jZ n b he).1 hb
theorem iH.pv (h:iH R B g w W X R' B' g' w') (hw:WF R B g w) {p:PV} {v:Value} (hp:jH w R B p v):jH w' R' B' p v :=
 hp.keep h.r h.b hw.rb (h.aA0 hw)
theorem iH.jZ (h:iH R B g w W X R' B' g' w') (hw:WF R B g w) {n b:Nat} (mg:n ∉ W) (hg:(g n).has b):w'.heap[b]? = w.heap[b]? :=
 h.heap b (hw.jZ n b hg).2 fun m hm he => mg (hw.jk m n b he hg ▸ hm)
theorem iH.own (h:iH R B g w W X R' B' g' w') (hw:WF R B g w) {n b:Nat} (hn:n ∉ X) (mg:n ∉ W) (hg:g n = .blk b):g' n = .blk b ∧ w'.heap[b]? = w.heap[b]? :=
 ⟨(h.names n hn).trans hg,h.jZ hw mg (GS.uh hg)⟩
theorem iH.SK (h:iH R B g w W X R' B' g' w') (hw:WF R B g w) {n b:Nat} (hn:n ∉ X) (hg:(g n).has b) {cur:Array Value} {e:TypeId} (hh:w.heap[b]? = some (.cells cur e (0,0))) :
  ∃ cur',w'.heap[b]? = some (.cells cur' e (0,0)) ∧ cur'.size = cur.size:=by
 by_cases hW:n ∈ W
 ·exact h.shape n hW hn b cur e hg hh
 ·exact ⟨cur,(h.jZ hw hW hg).trans hh,rfl⟩
theorem iH.own' (h:iH R B g w W X R' B' g' w') (hw:WF R B g w) {n b:Nat} (hn:n ∉ X) (hg:g n = .blk b) {cur:Array Value} {e:TypeId} (hh:w.heap[b]? = some (.cells cur e (0,0))) :
  ∃ cur',w'.heap[b]? = some (.cells cur' e (0,0)) ∧ cur'.size = cur.size:=by
 exact h.SK hw hn (GS.uh hg) hh
theorem l9 {n:Nat} (h:X.elem n = false):n ∉ X:=by
 intro hm
 rw [List.elem_eq_true_of_mem hm] at h
 cases h
theorem iH.rc0 (h:iH R B g w W X R' B' g' w') (hw:WF R B g w) {x:CV} {v:Value} (hp:UQ P w R B g x v):UQ P w' R' B' g' (cO X x) v:=by
 cases x with
 | pv p => exact h.pv hw hp
 | px q cells =>
  obtain ⟨a,rfl,hq,hc⟩:=hp
  refine ⟨a,rfl,SN h.r h.b hq,fun k p hk => ?_⟩
  obtain ⟨u,hu,hr⟩:=hc k p hk
  exact ⟨u,(World.cell?_of_block (w:=w) (by rw [add_block]; exact h.aA0 hw _ (aBx hw.rb hq))).trans hu,h.pv hw hr⟩
 | loc n off len =>
  cases hx:X.elem n with
  | true => simp only [cO,hx,cond_true]; trivial
  | false =>
   have hn:=l9 hx
   simp only [cO,hx,cond_false]
   rcases hp with ⟨h1,h2,h3,h4⟩ | hz | ⟨b,cap,cur,e,h1,h2,h3,h4,h5,h6⟩
   ·exact .inl ⟨(h.names n hn).trans h1,h2,h3,h4⟩
   ·exact .inr (.inl hz)
   ·obtain ⟨cur',k2,k3⟩:=h.own' hw hn h1 h2
    exact .inr (.inr ⟨b,cap,cur',e,(h.names n hn).trans h1,k2,h3,h4,h5.trans k3.symm,h6⟩)
 | pl n off =>
  cases hx:X.elem n with
  | true => simp only [cO,hx,cond_true]; trivial
  | false =>
   have hn:=l9 hx
   simp only [cO,hx,cond_false]
   obtain ⟨b,h1,h2⟩:=hp
   exact ⟨b,(h.names n hn).trans h1,h2⟩
 | fn f caps =>
  cases hx:caps.any X.elem with
  | true => simp only [cO,hx,cond_true]; trivial
  | false =>
   simp only [cO,hx,cond_false]
   obtain ⟨vs,h1,h2,h3⟩:=hp
   refine ⟨vs,h1,h2,fun k n hk => ?_⟩
   obtain ⟨b,k1,k2⟩:=h3 k n hk
   have hn:n ∉ X:=l9 (by
    have:=List.any_eq_false.1 hx n (List.mem_of_getElem? hk)
    simpa using this)
   exact ⟨b,(h.names n hn).trans k1,k2⟩
 | mref n =>
  cases hx:X.elem n with
  | true => simp only [cO,hx,cond_true]; trivial
  | false =>
   have hn:=l9 hx
   simp only [cO,hx,cond_false]
   obtain ⟨b,h1,h2⟩:=hp
   exact ⟨b,(h.names n hn).trans h1,h2⟩
 | tl p k off len =>
  cases hx:X.elem p with
  | true => simp only [cO,hx,cond_true]; trivial
  | false =>
   have hn:=l9 hx
   simp only [cO,hx,cond_false]
   rcases hp with ⟨h1,h2,h3,h4⟩ | hz | ⟨b,cap,cur,e,h1,h2,h3,h4,h5,h6⟩
   ·exact .inl ⟨by rw [h.names p hn]; exact h1,h2,h3,h4⟩
   ·exact .inr (.inl hz)
   ·obtain ⟨cur',k2,k3⟩:=h.SK hw hn (GS.tH h1) h2
    exact .inr (.inr ⟨b,cap,cur',e,by rw [h.names p hn]; exact h1,k2,h3,h4,h5.trans k3.symm,h6⟩)
 | tpl p k off =>
  cases hx:X.elem p with
  | true => simp only [cO,hx,cond_true]; trivial
  | false =>
   have hn:=l9 hx
   simp only [cO,hx,cond_false]
   obtain ⟨b,h1,h2⟩:=hp
   exact ⟨b,by rw [h.names p hn]; exact h1,h2⟩
 | junk => trivial
theorem iH.rc (h:iH R B g w W X R' B' g' w') (hw:WF R B g w) {x:CV} {v:Value} (hp:RC P w R B g x v):RC P w' R' B' g' (cO X x) v:=⟨hp.1,h.rc0 hw hp.2⟩
theorem iH.rs (h:iH R B g w W X R' B' g' w') (hw:WF R B g w) {x:SV} {v:Value} (hp:RS P w R B g x v):RS P w' R' B' g' (qi X x) v:=by
 cases x with
 | c x => exact h.rc hw hp
 | agg cells =>
  obtain ⟨vs,rfl,hl,hc⟩:=hp
  refine ⟨vs,rfl,by simpa using hl,fun k x hk => ?_⟩
  rw [List.getElem?_map] at hk
  cases hx:cells[k]? with
  | none => rw [hx] at hk; cases hk
  | some y =>
   rw [hx] at hk
   injection hk with hk
   subst hk
   obtain ⟨u,hu,hr⟩:=hc k y hx
   exact ⟨u,hu,h.rc hw hr⟩
theorem iH.ra (h:iH R B g w W X R' B' g' w') (hw:WF R B g w) {x:AV} {v:Value} (hp:RA P w R B g x v):RA P w' R' B' g' (pK X x) v:=by
 cases x with
 | s x => exact h.rs hw hp
 | dW xs =>
  obtain ⟨vs,rfl,hl,hc⟩:=hp
  refine ⟨vs,rfl,by simpa using hl,fun k x hk => ?_⟩
  rw [List.getElem?_map] at hk
  cases hx:xs[k]? with
  | none => rw [hx] at hk; cases hk
  | some y =>
   rw [hx] at hk
   injection hk with hk
   subst hk
   obtain ⟨u,hu,hr⟩:=hc k y hx
   exact ⟨u,hu,h.rs hw hr⟩
theorem iH.row (h:iH R B g w W X R' B' g' w') (hw:WF R B g w) {n:Nat} (hn:n ∉ X) (mg:n ∉ W) {e:TypeId} {els:List (List CV)} (hp:eU P w R B g n e els):eU P w' R' B' g' n e (els.map (·.map (cO X))):=by
 rcases hp with ⟨h1,h2⟩ | ⟨b,cur,h1,h2,h3,h4,h5⟩
 ·exact .inl ⟨(h.names n hn).trans h1,by simp [h2]⟩
 ·obtain ⟨k1,k2⟩:=h.own hw hn mg h1
  refine .inr ⟨b,cur,k1,k2.trans h2,fun cs hcs => ?_,by simpa using h4,fun j k cs x hj hk => ?_⟩
  ·obtain ⟨cs0,hm,rfl⟩:=List.mem_map.1 hcs
   simpa using h3 cs0 hm
  ·rw [List.getElem?_map] at hj
   cases hx:els[j]? with
   | none => rw [hx] at hj; cases hj
   | some y =>
    rw [hx] at hj
    injection hj with hj
    subst hj
    rw [List.getElem?_map] at hk
    cases hz:y[k]? with
    | none => rw [hz] at hk; cases hk
    | some z =>
     rw [hz] at hk
     injection hk with hk
     subst hk
     obtain ⟨u,hu,hr⟩:=h5 j k y z hx hz
     exact ⟨u,hu,h.rc hw hr⟩
theorem OW (X:List Nat) (els:List (List PV)):(gY els).map (·.map (cO X)) = gY els:=by
 simp [gY,cO,Function.comp_def]
theorem Td {X:List Nat} {p:Nat} (hx:X.elem p = false) (lens:List Nat):(iJ p lens).map (·.map (cO X)) = iJ p lens:=by
 refine List.ext_getElem? fun j => ?_
 simp only [iJ,List.getElem?_map,List.getElem?_mapIdx,Option.map_map]
 cases lens[j]? with
 | none => rfl
 | some l => simp only [Option.map_some,Function.comp,List.map_cons,List.map_nil,cO,hx,cond_false]
theorem U3 {X:List Nat} {p q:Nat} (hx:X.elem p = false) (hy:X.elem q = false) (fs:List (Int × Nat × Nat)):(oZ p q fs).map (·.map (cO X)) = oZ p q fs:=by
 refine List.ext_getElem? fun j => ?_
 simp only [oZ,List.getElem?_map,List.getElem?_mapIdx,Option.map_map]
 cases fs[j]? with
 | none => rfl
 | some f => simp only [Option.map_some,Function.comp,List.map_cons,List.map_nil,cO,hx,hy,cond_false]
theorem iH.ro (h:iH R B g w W X R' B' g' w') (hw:WF R B g w) {n:Nat} (hn:n ∉ X) (mg:n ∉ W) {o:Ob} (hp:RO P w R B g n o):RO P w' R' B' g' n (lD X o):=by
 cases o with
 | row e els => exact h.row hw hn mg hp
 | fA e els =>
  have:=h.row hw hn mg (els:=gY els) hp
  rwa [OW] at this
 | mp es =>
  obtain ⟨b,uQ,clock,h1,h2,h3⟩:=hp
  obtain ⟨k1,k2⟩:=h.own hw hn mg h1
  exact ⟨b,uQ,clock,k1,k2.trans h2,h3⟩
 | pool e rows =>
  obtain ⟨⟨bs,h1,h2⟩,h3⟩:=hp
  refine ⟨⟨bs,(h.names n hn).trans h1,h2⟩,fun k els hk => ?_⟩
  rw [h.names n hn]
  rcases h3 k els hk with hnil | ⟨b,cur,k1,k2,k3,k4,k5⟩
  ·exact .inl hnil
  ·refine .inr ⟨b,cur,k1,(h.jZ hw mg (GS.tH k1)).trans k2,k3,k4,fun j i cs x hj hi => ?_⟩
   obtain ⟨u,hu,hr⟩:=k5 j i cs x hj hi
   exact ⟨u,hu,h.pv hw hr⟩
 | dh e p lens =>
  have:=h.row hw hn mg (els:=iJ p lens) hp
  show RO P w' R' B' g' n (bif X.elem p then .unk else .dh e p lens)
  cases hx:X.elem p with
  | true => trivial
  | false =>
   rw [Td hx] at this
   exact this
 | lW e p q fs =>
  have:=h.row hw hn mg (els:=oZ p q fs) hp
  show RO P w' R' B' g' n (bif X.elem p then .unk else bif X.elem q then .unk else .lW e p q fs)
  cases hx:X.elem p with
  | true => trivial
  | false =>
   cases hy:X.elem q with
   | true => trivial
   | false =>
    rw [U3 hx hy] at this
    exact this
 | unk => trivial
end
end
end Go.Fw
end
section
namespace Go.Mx
abbrev Ext:=List Bool → Int
def wed:List Int → Ext → Ext
 | [],_,_ => 0
 | s :: v,x,m => match m with
  | [] => 0
  | false :: m => wed v (fun m => x (false :: m)) m
  | true :: m => s * x (false :: m) - wed v (fun m => x (true :: m)) m
def con:List Int → Ext → Ext
 | [],_,_ => 0
 | t :: u,x,m => match m with
  | [] => 0
  | false :: m => con u (fun m => x (false :: m)) m + t * x (true :: m)
  | true :: m => - con u (fun m => x (true :: m)) m
def dot:List Int → List Int → Int
 | a :: u,b :: v => a * b + dot u v
 | _,_ => 0
theorem zU:∀ (v:List Int) (x y:Ext) (m:List Bool),(∀ k:List Bool,k.length = m.length → x k = y k) → wed v x m = wed v y m
 | [],x,y,m,h => rfl
 | s :: v,x,y,[],h => rfl
 | s :: v,x,y,false :: m,h => zU v _ _ m fun k hk => h (false :: k) (by simp [hk])
 | s :: v,x,y,true :: m,h => by
  show s * x (false :: m) - wed v (fun m => x (true :: m)) m = s * y (false :: m) - wed v (fun m => y (true :: m)) m
  rw [h (false :: m) (by simp),zU v (fun m => x (true :: m)) (fun m => y (true :: m)) m fun k hk => h (true :: k) (by simp [hk])]
theorem Bh:∀ (v:List Int) (x y:Ext) (m:List Bool),(∀ k:List Bool,k.length = m.length → x k = y k) → con v x m = con v y m
 | [],x,y,m,h => rfl
 | s :: v,x,y,[],h => rfl
 | s :: v,x,y,false :: m,h => by
  show con v (fun m => x (false :: m)) m + s * x (true :: m) = con v (fun m => y (false :: m)) m + s * y (true :: m)
  rw [h (true :: m) (by simp),Bh v (fun m => x (false :: m)) (fun m => y (false :: m)) m fun k hk => h (false :: k) (by simp [hk])]
 | s :: v,x,y,true :: m,h => by
  show - con v (fun m => x (true :: m)) m = - con v (fun m => y (true :: m)) m
  rw [Bh v (fun m => x (true :: m)) (fun m => y (true :: m)) m fun k hk => h (true :: k) (by simp [hk])]
theorem zV (a b:Int):∀ (v:List Int) (x y:Ext) (m:List Bool),wed v (fun m => a * x m + b * y m) m = a * wed v x m + b * wed v y m
 | [],x,y,m => by simp [wed]
 | s :: v,x,y,[] => by simp [wed]
 | s :: v,x,y,false :: m => zV a b v (fun m => x (false :: m)) (fun m => y (false :: m)) m
 | s :: v,x,y,true :: m => by
  have h:=zV a b v (fun m => x (true :: m)) (fun m => y (true :: m)) m
  show s * (a * x (false :: m) + b * y (false :: m)) - wed v (fun m => a * x (true :: m) + b * y (true :: m)) m = a * (s * x (false :: m) - wed v (fun m => x (true :: m)) m) + b * (s * y (false :: m) - wed v (fun m => y (true :: m)) m)
  rw [h]
  grind
theorem EJ (a b:Int):∀ (v:List Int) (x y:Ext) (m:List Bool),con v (fun m => a * x m + b * y m) m = a * con v x m + b * con v y m
 | [],x,y,m => by simp [con]
 | s :: v,x,y,[] => by simp [con]
 | s :: v,x,y,false :: m => by
  have h:=EJ a b v (fun m => x (false :: m)) (fun m => y (false :: m)) m
  show con v (fun m => a * x (false :: m) + b * y (false :: m)) m + s * (a * x (true :: m) + b * y (true :: m)) = a * (con v (fun m => x (false :: m)) m + s * x (true :: m)) + b * (con v (fun m => y (false :: m)) m + s * y (true :: m))
  rw [h]
  grind
 | s :: v,x,y,true :: m => by
  have h:=EJ a b v (fun m => x (true :: m)) (fun m => y (true :: m)) m
  show - con v (fun m => a * x (true :: m) + b * y (true :: m)) m = a * (- con v (fun m => x (true :: m)) m) + b * (- con v (fun m => y (true :: m)) m)
  rw [h]
  grind
theorem Ph (v:List Int) (x:Ext) (m:List Bool) (h:∀ k:List Bool,k.length = m.length → x k = 0):wed v x m = 0:=by
 rw [zU v x (fun m => 0 * x m + 0 * x m) m fun k hk => by rw [h k hk]; rfl,zV]
 grind
theorem aEi (v:List Int) (x:Ext) (m:List Bool) (h:∀ k:List Bool,k.length = m.length → x k = 0):con v x m = 0:=by
 rw [Bh v x (fun m => 0 * x m + 0 * x m) m fun k hk => by rw [h k hk]; rfl,EJ]
 grind
theorem aK3 (v:List Int) (x:Ext) (m:List Bool):wed v (fun m => - x m) m = - wed v x m:=by
 rw [zU v (fun m => - x m) (fun m => (-1) * x m + 0 * x m) m fun k hk => by grind,zV]
 grind
theorem ZT (v:List Int) (x:Ext) (m:List Bool):con v (fun m => - x m) m = - con v x m:=by
 rw [Bh v (fun m => - x m) (fun m => (-1) * x m + 0 * x m) m fun k hk => by grind,EJ]
 grind
theorem aK2 (t:Int) (v:List Int) (x y:Ext) (m:List Bool):wed v (fun m => x m + t * y m) m = wed v x m + t * wed v y m:=by
 rw [zU v (fun m => x m + t * y m) (fun m => 1 * x m + t * y m) m fun k hk => by grind,zV]
 grind
theorem ZR (t:Int) (v:List Int) (x y:Ext) (m:List Bool):con v (fun m => x m + t * y m) m = con v x m + t * con v y m:=by
 rw [Bh v (fun m => x m + t * y m) (fun m => 1 * x m + t * y m) m fun k hk => by grind,EJ]
 grind
theorem aDT (t:Int) (v:List Int) (x y:Ext) (m:List Bool):wed v (fun m => t * x m - y m) m = t * wed v x m - wed v y m:=by
 rw [zU v (fun m => t * x m - y m) (fun m => t * x m + (-1) * y m) m fun k hk => by grind,zV]
 grind
theorem aEh (t:Int) (v:List Int) (x y:Ext) (m:List Bool):con v (fun m => t * x m - y m) m = t * con v x m - con v y m:=by
 rw [Bh v (fun m => t * x m - y m) (fun m => t * x m + (-1) * y m) m fun k hk => by grind,EJ]
 grind
theorem zl:∀ (u v:List Int) (x:Ext) (m:List Bool),u.length = m.length → v.length = m.length → con u (wed v x) m + wed v (con u x) m = dot u v * x m
 | [],[],x,m,_,_ => by simp [con,wed,dot]
 | t :: u,s :: v,x,[],h,_ => by cases h
 | [],s :: v,x,m,h1,h2 => by simp at h1 h2; omega
 | t :: u,[],x,m,h1,h2 => by simp at h1 h2; omega
 | t :: u,s :: v,x,false :: m,h1,h2 => by
  have ih:=zl u v (fun m => x (false :: m)) m (by simpa using h1) (by simpa using h2)
  have e1:=aK2 t v (con u fun m => x (false :: m)) (fun m => x (true :: m)) m
  show con u (wed v fun m => x (false :: m)) m + t * (s * x (false :: m) - wed v (fun m => x (true :: m)) m) + wed v (fun m => con u (fun m => x (false :: m)) m + t * x (true :: m)) m = (t * s + dot u v) * x (false :: m)
  rw [e1]
  grind
 | t :: u,s :: v,x,true :: m,h1,h2 => by
  have ih:=zl u v (fun m => x (true :: m)) m (by simpa using h1) (by simpa using h2)
  have e1:=aEh s u (fun m => x (false :: m)) (wed v fun m => x (true :: m)) m
  have e2:=aK3 v (con u fun m => x (true :: m)) m
  show - con u (fun m => s * x (false :: m) - wed v (fun m => x (true :: m)) m) m + (s * (con u (fun m => x (false :: m)) m + t * x (true :: m)) - wed v (fun m => - con u (fun m => x (true :: m)) m) m) = (t * s + dot u v) * x (true :: m)
  rw [e1,e2]
  grind
theorem BP:∀ (u v:List Int) (x:Ext) (m:List Bool),u.length = m.length → v.length = m.length → wed u (wed v x) m = - wed v (wed u x) m
 | [],[],x,m,_,_ => by simp [wed]
 | t :: u,s :: v,x,[],h,_ => by cases h
 | [],s :: v,x,m,h1,h2 => by simp at h1 h2; omega
 | t :: u,[],x,m,h1,h2 => by simp at h1 h2; omega
 | t :: u,s :: v,x,false :: m,h1,h2 => BP u v (fun m => x (false :: m)) m (by simpa using h1) (by simpa using h2)
 | t :: u,s :: v,x,true :: m,h1,h2 => by
  have ih:=BP u v (fun m => x (true :: m)) m (by simpa using h1) (by simpa using h2)
  have e1:=aDT s u (fun m => x (false :: m)) (wed v fun m => x (true :: m)) m
  have e2:=aDT t v (fun m => x (false :: m)) (wed u fun m => x (true :: m)) m
  show t * wed v (fun m => x (false :: m)) m - wed u (fun m => s * x (false :: m) - wed v (fun m => x (true :: m)) m) m = - (s * wed u (fun m => x (false :: m)) m - wed v (fun m => t * x (false :: m) - wed u (fun m => x (true :: m)) m) m)
  rw [e1,e2]
  grind
theorem KZ:∀ (u v:List Int) (x:Ext) (m:List Bool),u.length = m.length → v.length = m.length → con u (con v x) m = - con v (con u x) m
 | [],[],x,m,_,_ => by simp [con]
 | t :: u,s :: v,x,[],h,_ => by cases h
 | [],s :: v,x,m,h1,h2 => by simp at h1 h2; omega
 | t :: u,[],x,m,h1,h2 => by simp at h1 h2; omega
 | t :: u,s :: v,x,false :: m,h1,h2 => by
  have ih:=KZ u v (fun m => x (false :: m)) m (by simpa using h1) (by simpa using h2)
  have e1:=ZR s u (con v fun m => x (false :: m)) (fun m => x (true :: m)) m
  have e2:=ZR t v (con u fun m => x (false :: m)) (fun m => x (true :: m)) m
  show con u (fun m => con v (fun m => x (false :: m)) m + s * x (true :: m)) m + t * (- con v (fun m => x (true :: m)) m) = - (con v (fun m => con u (fun m => x (false :: m)) m + t * x (true :: m)) m + s * (- con u (fun m => x (true :: m)) m))
  rw [e1,e2]
  grind
 | t :: u,s :: v,x,true :: m,h1,h2 => by
  have ih:=KZ u v (fun m => x (true :: m)) m (by simpa using h1) (by simpa using h2)
  have e1:=ZT u (con v fun m => x (true :: m)) m
  have e2:=ZT v (con u fun m => x (true :: m)) m
  show - con u (fun m => - con v (fun m => x (true :: m)) m) m = - - con v (fun m => - con u (fun m => x (true :: m)) m) m
  rw [e1,e2]
  grind
theorem BO (a b:Int):∀ (u v y:List Int) (x:Ext) (m:List Bool),u.length = y.length → v.length = y.length → (∀ k:Nat,y.getD k 0 = a * u.getD k 0 + b * v.getD k 0) → wed y x m = a * wed u x m + b * wed v x m
 | [],[],[],x,m,_,_,_ => by simp [wed]
 | t :: u,s :: v,r :: y,x,[],_,_,_ => by simp [wed]
 | t :: u,s :: v,r :: y,x,false :: m,h1,h2,h3 => BO a b u v y (fun m => x (false :: m)) m (by simpa using h1) (by simpa using h2) fun k => by simpa using h3 (k + 1)
 | t :: u,s :: v,r :: y,x,true :: m,h1,h2,h3 => by
  have ih:=BO a b u v y (fun m => x (true :: m)) m (by simpa using h1) (by simpa using h2) fun k => by simpa using h3 (k + 1)
  have h0:r = a * t + b * s:=by simpa using h3 0
  show r * x (false :: m) - wed y (fun m => x (true :: m)) m = a * (t * x (false :: m) - wed u (fun m => x (true :: m)) m) + b * (s * x (false :: m) - wed v (fun m => x (true :: m)) m)
  rw [ih,h0]
  grind
 | [],_ :: _,[],_,_,_,h,_ => by cases h
 | _ :: _,[],[],_,_,h,_,_ => by cases h
 | _ :: _,_ :: _,[],_,_,h,_,_ => by cases h
 | [],_,_ :: _,_,_,h,_,_ => by cases h
 | _ :: _,[],_ :: _,_,_,_,h,_ => by cases h
def ip:Nat → Ext → Ext → Int
 | 0,x,y => x [] * y []
 | n + 1,x,y => ip n (fun m => x (false :: m)) (fun m => y (false :: m)) + ip n (fun m => x (true :: m)) (fun m => y (true :: m))
theorem Ac:∀ (n:Nat) (x x' y y':Ext),(∀ m:List Bool,m.length = n → x m = x' m) → (∀ m:List Bool,m.length = n → y m = y' m) → ip n x y = ip n x' y'
 | 0,x,x',y,y',h1,h2 => by simp [ip,h1 [] rfl,h2 [] rfl]
 | n + 1,x,x',y,y',h1,h2 => by
  unfold ip
  rw [Ac n _ _ _ _ (fun m hm => h1 (false :: m) (by simp [hm])) fun m hm => h2 (false :: m) (by simp [hm]),Ac n _ _ _ _ (fun m hm => h1 (true :: m) (by simp [hm])) fun m hm => h2 (true :: m) (by simp [hm])]
theorem CJ (a b:Int):∀ (n:Nat) (x y z:Ext),ip n z (fun m => a * x m + b * y m) = a * ip n z x + b * ip n z y
 | 0,x,y,z => by simp only [ip]; grind
 | n + 1,x,y,z => by
  have h1:=CJ a b n (fun m => x (false :: m)) (fun m => y (false :: m)) (fun m => z (false :: m))
  have h2:=CJ a b n (fun m => x (true :: m)) (fun m => y (true :: m)) (fun m => z (true :: m))
  unfold ip
  rw [h1,h2]
  grind
theorem CG:∀ (n:Nat) (x y:Ext),ip n x y = ip n y x
 | 0,x,y => Int.mul_comm ..
 | n + 1,x,y => by
  unfold ip
  rw [CG n,CG n (fun m => x (true :: m))]
theorem aH3 (t:Int) (n:Nat) (x y z:Ext):ip n z (fun m => x m + t * y m) = ip n z x + t * ip n z y:=by
 rw [Ac n z z (fun m => x m + t * y m) (fun m => 1 * x m + t * y m) (fun _ _ => rfl) fun m _ => by grind,CJ]
 grind
theorem aAu (t:Int) (n:Nat) (x y z:Ext):ip n z (fun m => t * x m - y m) = t * ip n z x - ip n z y:=by
 rw [Ac n z z (fun m => t * x m - y m) (fun m => t * x m + (-1) * y m) (fun _ _ => rfl) fun m _ => by grind,CJ]
 grind
theorem aH4 (n:Nat) (x z:Ext):ip n z (fun m => - x m) = - ip n z x:=by
 rw [Ac n z z (fun m => - x m) (fun m => (-1) * x m + 0 * x m) (fun _ _ => rfl) fun m _ => by grind,CJ]
 grind
theorem adj:∀ (n:Nat) (v:List Int) (x y:Ext),v.length = n → ip n (wed v x) y = ip n x (con v y)
 | 0,[],x,y,_ => by simp [ip,wed,con]
 | n + 1,s :: v,x,y,h => by
  have h1:=adj n v (fun m => x (false :: m)) (fun m => y (false :: m)) (by simpa using h)
  have h2:=adj n v (fun m => x (true :: m)) (fun m => y (true :: m)) (by simpa using h)
  show ip n (wed v fun m => x (false :: m)) (fun m => y (false :: m)) + ip n (fun m => s * x (false :: m) - wed v (fun m => x (true :: m)) m) (fun m => y (true :: m)) = ip n (fun m => x (false :: m)) (fun m => con v (fun m => y (false :: m)) m + s * y (true :: m)) + ip n (fun m => x (true :: m)) (fun m => - con v (fun m => y (true :: m)) m)
  rw [h1,CG n (fun m => s * x (false :: m) - wed v (fun m => x (true :: m)) m),aAu,CG n (fun m => y (true :: m)) (wed v fun m => x (true :: m)),h2,aH3,aH4,CG n (fun m => y (true :: m))]
  grind
 | 0,_ :: _,_,_,h => by cases h
 | _ + 1,[],_,_,h => by cases h
def nrm (n:Nat) (x:Ext):Int:=ip n x x
theorem Jj:∀ (n:Nat) (x:Ext),0 ≤ nrm n x
 | 0,x => by
  show 0 ≤ x [] * x []
  rcases Int.le_total 0 (x []) with h | h
  ·exact Int.mul_nonneg h h
  ·exact Int.mul_nonneg_of_nonpos_of_nonpos h h
 | n + 1,x => Int.add_nonneg (Jj n _) (Jj n _)
theorem aBg (n:Nat) (v:List Int) (x:Ext) (h:v.length = n):nrm n (wed v x) + nrm n (con v x) = dot v v * nrm n x:=by
 unfold nrm
 rw [adj n v x _ h]
 have h1:ip n x (con v (wed v x)) = ip n x (fun m => dot v v * x m - wed v (con v x) m):=Ac n _ _ _ _ (fun _ _ => rfl) fun m hm => by
  have:=zl v v x m (by omega) (by omega)
  omega
 rw [h1,aAu,CG n x (wed v (con v x)),adj n v _ _ h]
 omega
theorem aIj (n:Nat) (v:List Int) (x:Ext) (h:v.length = n):nrm n (wed v x) ≤ dot v v * nrm n x:=by
 have:=aBg n v x h
 have:=Jj n (con v x)
 omega
theorem aIi (n:Nat) (v:List Int) (x:Ext) (h:v.length = n):nrm n (con v x) ≤ dot v v * nrm n x:=by
 have:=aBg n v x h
 have:=Jj n (wed v x)
 omega
theorem sq_nonneg (a:Int):0 ≤ a * a:=by
 rcases Int.le_total 0 a with h | h
 ·exact Int.mul_nonneg h h
 ·exact Int.mul_nonneg_of_nonpos_of_nonpos h h
theorem Xw:∀ (n:Nat) (x:Ext) (m:List Bool),m.length = n → x m * x m ≤ nrm n x
 | 0,x,[],_ => Int.le_refl _
 | n + 1,x,false :: m,h => by
  have h1:=Xw n (fun m => x (false :: m)) m (by simpa using h)
  have h2:=Jj n (fun m => x (true :: m))
  have e:nrm (n + 1) x = nrm n (fun m => x (false :: m)) + nrm n (fun m => x (true :: m)):=rfl
  omega
 | n + 1,x,true :: m,h => by
  have h1:=Xw n (fun m => x (true :: m)) m (by simpa using h)
  have h2:=Jj n (fun m => x (false :: m))
  have e:nrm (n + 1) x = nrm n (fun m => x (false :: m)) + nrm n (fun m => x (true :: m)):=rfl
  omega
 | 0,_,_ :: _,h => by cases h
 | _ + 1,_,[],h => by cases h
def one:Ext:=fun m => if m.all (!·) then 1 else 0
def om:List (List Int) → Ext
 | [] => one
 | v :: V => wed v (om V)
def ct:List (List Int) → Ext → Ext
 | [],x => x
 | u :: U,x => ct U (con u x)
def sc (n:Nat) (x:Ext):Int:=x (List.replicate n false)
def rZ:List (List Int) → Int
 | [] => 1
 | v :: V => dot v v * rZ V
theorem QY (v:List Int):0 ≤ dot v v:=by
 induction v with
 | nil => exact Int.le_refl _
 | cons a v ih => exact Int.add_nonneg (sq_nonneg a) ih
theorem OV:∀ V,0 ≤ rZ V
 | [] => by decide
 | v :: V => Int.mul_nonneg (QY v) (OV V)
theorem aBf:∀ n,nrm n one = 1
 | 0 => rfl
 | n + 1 => by
  have h1:ip n (fun m => one (false :: m)) (fun m => one (false :: m)) = nrm n one:=Ac n _ _ _ _ (fun m _ => by simp [one]) (fun m _ => by simp [one])
  have h2:ip n (fun m => one (true :: m)) (fun m => one (true :: m)) = ip n (fun m => 0 * one m + 0 * one m) (fun m => 0 * one m + 0 * one m):=Ac n _ _ _ _ (fun m _ => by simp [one]) (fun m _ => by simp [one])
  show ip n (fun m => one (false :: m)) (fun m => one (false :: m)) + ip n (fun m => one (true :: m)) (fun m => one (true :: m)) = 1
  rw [h1,h2,CJ,aBf n]
  grind
theorem aBe:∀ (n:Nat) (V:List (List Int)),(∀ v ∈ V,v.length = n) → nrm n (om V) ≤ rZ V
 | n,[],_ => by rw [show om [] = one from rfl,aBf]; exact Int.le_refl _
 | n,v :: V,h => by
  have h1:=aIj n v (om V) (h v List.mem_cons_self)
  have h2:=aBe n V fun v hv => h v (List.mem_cons_of_mem _ hv)
  exact Int.le_trans h1 (Int.mul_le_mul_of_nonneg_left h2 (QY v))
theorem aBd:∀ (n:Nat) (U:List (List Int)) (x:Ext),(∀ u ∈ U,u.length = n) → nrm n (ct U x) ≤ rZ U * nrm n x
 | n,[],x,_ => by rw [show rZ [] = 1 from rfl,Int.one_mul]; exact Int.le_refl _
 | n,u :: U,x,h => by
  have h1:=aBd n U (con u x) fun v hv => h v (List.mem_cons_of_mem _ hv)
  have h2:=aIi n u x (h u List.mem_cons_self)
  have h3:=Int.mul_le_mul_of_nonneg_left h2 (OV U)
  have e:rZ (u :: U) * nrm n x = rZ U * (dot u u * nrm n x):=by
   show dot u u * rZ U * nrm n x = _
   grind
  rw [e]
  exact Int.le_trans h1 h3
theorem aAH (n:Nat) (U V:List (List Int)) (hu:∀ u ∈ U,u.length = n) (hv:∀ v ∈ V,v.length = n):sc n (ct U (om V)) * sc n (ct U (om V)) ≤ rZ U * rZ V :=
 Int.le_trans (Xw n _ _ (List.length_replicate ..)) (Int.le_trans (aBd n U _ hu) (Int.mul_le_mul_of_nonneg_left (aBe n V hv) (OV U)))
section
structure ji (n:Nat) (F:Ext → Int):Prop where
 congr:∀ x y:Ext,(∀ m:List Bool,m.length = n → x m = y m) → F x = F y
 lin:∀ (a b:Int) (x y:Ext),F (fun m => a * x m + b * y m) = a * F x + b * F y
theorem ji.sub {n:Nat} {F:Ext → Int} (h:ji n F) (t:Int) (x y:Ext):F (fun m => t * x m - y m) = t * F x - F y:=by
 rw [h.congr (fun m => t * x m - y m) (fun m => t * x m + (-1) * y m) fun m _ => by grind,h.lin]
 grind
theorem ji.neg {n:Nat} {F:Ext → Int} (h:ji n F) (x:Ext):F (fun m => - x m) = - F x:=by
 rw [h.congr (fun m => - x m) (fun m => (-1) * x m + 0 * x m) fun m _ => by grind,h.lin]
 grind
theorem ji.zero {n:Nat} {F:Ext → Int} (h:ji n F) (x:Ext) (hx:∀ m:List Bool,m.length = n → x m = 0):F x = 0:=by
 rw [h.congr x (fun m => 0 * x m + 0 * x m) fun m hm => by rw [hx m hm]; rfl,h.lin]
 grind
theorem ji.sc (n:Nat):ji n (sc n):=⟨fun x y h => h _ (List.length_replicate ..),fun a b x y => rfl⟩
theorem ji.con {n:Nat} {F:Ext → Int} (h:ji n F) (u:List Int):ji n fun x => F (con u x) :=
 ⟨fun x y hx => h.congr _ _ fun m hm => Bh u x y m fun k hk => hx k (by omega),fun a b x y => by
  rw [h.congr _ (fun m => a * Mx.con u x m + b * Mx.con u y m) fun m _ => EJ a b u x y m,h.lin]⟩
theorem ji.wed {n:Nat} {F:Ext → Int} (h:ji n F) (u:List Int):ji n fun x => F (wed u x) :=
 ⟨fun x y hx => h.congr _ _ fun m hm => zU u x y m fun k hk => hx k (by omega),fun a b x y => by
  rw [h.congr _ (fun m => a * Mx.wed u x m + b * Mx.wed u y m) fun m _ => zV a b u x y m,h.lin]⟩
theorem ji.ct {n:Nat}:∀ {F:Ext → Int},ji n F → ∀ U:List (List Int),ji n fun x => F (ct U x)
 | F,h,[] => h
 | F,h,u :: U => (ji.ct h U).con u
theorem QM:∀ (u:List Int) (m:List Bool),con u one m = 0
 | [],m => rfl
 | t :: u,[] => rfl
 | t :: u,false :: m => by
  have h:=Bh u (fun m => one (false :: m)) one m fun k _ => by simp [one]
  show con u (fun m => one (false :: m)) m + t * one (true :: m) = 0
  rw [h,QM u m]
  simp [one]
 | t :: u,true :: m => by
  have h:=aEi u (fun m => one (true :: m)) m fun k _ => by simp [one]
  show - con u (fun m => one (true :: m)) m = 0
  rw [h]; rfl
theorem O7:∀ (n:Nat) (v:List Int) (x:Ext),wed v x (List.replicate n false) = 0
 | _,[],_ => rfl
 | 0,_ :: _,_ => rfl
 | n + 1,s :: v,x => O7 n v _
def jU (n:Nat) (U V:List (List Int)):Int:=sc n (ct U (om V))
def ent (n:Nat) (U V:List (List Int)) (x u:List Int):Int:=jU n (u :: U) (x :: V)
def kH (n:Nat) (V:List (List Int)):Prop:=∀ v ∈ V,v.length = n
theorem kH.tail {n:Nat} {v:List Int} {V:List (List Int)} (h:kH n (v :: V)):kH n V:=fun x hx => h x (List.mem_cons_of_mem _ hx)
theorem kH.head {n:Nat} {v:List Int} {V:List (List Int)} (h:kH n (v :: V)):v.length = n:=h v List.mem_cons_self
theorem Ux {n:Nat} {U V:List (List Int)} {x u:List Int} (hx:x.length = n) (hu:u.length = n):ent n U V x u = dot u x * jU n U V - sc n (ct U (wed x (con u (om V)))):=by
 have hF:=ji.ct (ji.sc n) U
 have h:=hF.congr (con u (wed x (om V))) (fun m => dot u x * om V m - wed x (con u (om V)) m) fun m hm => by
  have:=zl u x (om V) m (by omega) (by omega)
  omega
 show sc n (ct U (con u (wed x (om V)))) = _
 exact h.trans (hF.sub _ _ _)
def Sp (n:Nat) (V:List (List Int)) (y:List Int):Prop:=y.length = n ∧ ∀ m:List Bool,m.length = n → wed y (om V) m = 0
theorem Sp.mem {n:Nat} {v:List Int}:∀ {V:List (List Int)},kH n V → v ∈ V → Sp n V v
 | p :: V,hV,h => by
  refine ⟨hV v h,fun m hm => ?_⟩
  rcases List.mem_cons.1 h with rfl | h
  ·have:=BP v v (om V) m (by rw [hV.head,hm]) (by rw [hV.head,hm])
   show wed v (wed v (om V)) m = 0
   omega
  ·have ih:=Sp.mem hV.tail h
   show wed v (wed p (om V)) m = 0
   rw [BP v p (om V) m (by rw [ih.1,hm]) (by rw [hV.head,hm]),Ph p (wed v (om V)) m fun k hk => ih.2 k (by omega)]
   rfl
theorem Sp.cons {n:Nat} {V:List (List Int)} {y p:List Int} (h:Sp n V y) (hp:p.length = n):Sp n (p :: V) y:=⟨h.1,fun m hm => by
 show wed y (wed p (om V)) m = 0
 rw [BP y p (om V) m (by rw [h.1,hm]) (by rw [hp,hm]),Ph p (wed y (om V)) m fun k hk => h.2 k (by omega)]
 rfl⟩
theorem Sp.comb {n:Nat} {V:List (List Int)} {u v y:List Int} (a b:Int) (hu:Sp n V u) (hv:Sp n V v) (hy:y.length = n) (h:∀ k:Nat,y.getD k 0 = a * u.getD k 0 + b * v.getD k 0):Sp n V y :=
 ⟨hy,fun m hm => by
  rw [BO a b u v y (om V) m (by rw [hu.1,hy]) (by rw [hv.1,hy]) h,hu.2 m hm,hv.2 m hm]
  simp⟩
theorem ZX {n:Nat} {y:List Int} (hy:y.length = n):∀ (U:List (List Int)) (x:Ext),kH n U → (∀ u ∈ U,dot u y = 0) → sc n (ct U (wed y x)) = 0
 | [],x,_,_ => O7 n y x
 | u :: U,x,hU,h => by
  have hF:=ji.ct (ji.sc n) U
  have ih:=ZX hy U (con u x) hU.tail fun v hv => h v (List.mem_cons_of_mem _ hv)
  have e:=hF.congr (con u (wed y x)) (fun m => - wed y (con u x) m) fun m hm => by
   have:=zl u y x m (by rw [hU.head,hm]) (by omega)
   rw [h u List.mem_cons_self] at this
   omega
  show sc n (ct U (con u (wed y x))) = 0
  refine (e.trans (hF.neg _)).trans ?_
  show - sc n (ct U (wed y (con u x))) = 0
  rw [ih]; rfl
theorem uniq {n:Nat} {U V:List (List Int)} {y u:List Int} (hy:Sp n V y) (hU:kH n U) (hu:u.length = n) (h:∀ w ∈ U,dot w y = 0):dot u y * jU n U V = 0:=by
 have h1:=Ux (U:=U) (V:=V) hy.1 hu
 have h2:ent n U V y u = 0:=(ji.ct (ji.sc n) (u :: U)).zero _ fun m hm => hy.2 m hm
 have hF:=((ji.sc n).ct U)
 rw [h2,ZX hy.1 U (con u (om V)) hU h] at h1
 omega
theorem Kq {n:Nat} {u:List Int} (hu:u.length = n):∀ (U:List (List Int)) (x:Ext),kH n U → u ∈ U → sc n (ct U (con u x)) = 0
 | w :: U,x,hU,h => by
  have hF:=ji.ct (ji.sc n) U
  show sc n (ct U (con w (con u x))) = 0
  rcases List.mem_cons.1 h with rfl | h
  ·refine hF.zero _ fun m hm => ?_
   have:=KZ u u x m (by omega) (by omega)
   omega
  ·have ih:=Kq hu U (con w x) hU.tail h
   have e:=hF.congr (con w (con u x)) (fun m => - con u (con w x) m) fun m hm => KZ w u x m (by rw [hU.head,hm]) (by omega)
   refine (e.trans (hF.neg _)).trans ?_
   show - sc n (ct U (con u (con w x))) = 0
   rw [ih]; rfl
theorem aE5 {n:Nat} {U V:List (List Int)} {x u:List Int} (hu:u.length = n) (hU:kH n U) (h:u ∈ U):ent n U V x u = 0:=Kq hu U _ hU h
def unit (n k:Nat):List Int:=(List.range n).map fun i => if i = k then 1 else 0
theorem sW (n k:Nat):(unit n k).length = n:=by simp [unit]
theorem aEq (f g:Nat → Int):∀ n,dot ((List.range n).map f) ((List.range n).map g) = ((List.range n).map fun i => f i * g i).sum:=by
 have key:∀ l:List Nat,dot (l.map f) (l.map g) = (l.map fun i => f i * g i).sum:=fun l => by
  induction l with
  | nil => rfl
  | cons a l ih => simp only [List.map_cons,dot,List.sum_cons,ih]
 exact fun n => key _
theorem wo {n k:Nat} {v:List Int} (hv:v.length = n) (hk:k < n):dot (unit n k) v = v.getD k 0:=by
 have hv':v = (List.range n).map fun i => v.getD i 0:=by
  refine List.ext_getElem? fun i => ?_
  rw [List.getElem?_map]
  by_cases hi:i < n
  ·rw [List.getElem?_range hi]
   simp [List.getD_eq_getElem?_getD,List.getElem?_eq_getElem (show i < v.length by omega)]
  ·rw [List.getElem?_eq_none (by omega),List.getElem?_eq_none (by simp; omega)]; rfl
 conv => lhs; rw [hv']
 unfold unit
 rw [aEq]
 have key:∀ (l:List Nat),l.Nodup → (l.map fun i => (if i = k then 1 else 0) * v.getD i 0).sum = if k ∈ l then v.getD k 0 else 0:=fun l hl => by
  induction l with
  | nil => rfl
  | cons a l ih =>
   have h1:=(List.nodup_cons.1 hl).1
   have h2:=(List.nodup_cons.1 hl).2
   rw [List.map_cons,List.sum_cons,ih h2]
   by_cases ha:a = k
   ·subst ha; simp [h1]
   ·rw [if_neg ha]
    simp [Ne.symm ha]
 rw [key _ List.nodup_range,if_pos (List.mem_range.2 hk)]
theorem aEr {n k:Nat} (hk:k < n):dot (unit n k) (unit n k) = 1:=by
 rw [wo (sW n k) hk]
 simp [unit,List.getD_eq_getElem?_getD,hk]
theorem J8 {n:Nat} {u v:List Int} (hu:u.length = n) (hv:v.length = n) (h:∀ k,k < n → u.getD k 0 = v.getD k 0):u = v:=by
 refine List.ext_getElem? fun i => ?_
 by_cases hi:i < n
 ·have:=h i hi
  simp only [List.getD_eq_getElem?_getD,List.getElem?_eq_getElem (show i < u.length by omega),List.getElem?_eq_getElem (show i < v.length by omega),Option.getD_some] at this
  rw [List.getElem?_eq_getElem (by omega),List.getElem?_eq_getElem (by omega),this]
 ·rw [List.getElem?_eq_none (by omega),List.getElem?_eq_none (by omega)]
theorem jY {v:List Int} {k:Nat} (h:v.length ≤ k):v.getD k 0 = 0:=by
 rw [List.getD_eq_getElem?_getD,List.getElem?_eq_none h]; rfl
def vec (n:Nat) (f:Nat → Int):List Int:=(List.range n).map f
theorem fC (n:Nat) (f:Nat → Int):(vec n f).length = n:=by simp [vec]
theorem jB {n k:Nat} (f:Nat → Int) (h:k < n):(vec n f).getD k 0 = f k:=by simp [vec,List.getD_eq_getElem?_getD,h]
theorem Sp.X9 {n:Nat}:∀ (V:List (List Int)) (F:Ext → Int),kH n V → ji n F → Sp n V (vec n fun k => F (con (unit n k) (om V)))
 | [],F,_,hF => ⟨fC ..,fun m hm => by
  have h0:∀ k,F (con (unit n k) (om [])) = 0:=fun k => hF.zero _ fun m _ => QM _ m
  have:=BO 0 0 (vec n fun k => F (con (unit n k) (om []))) (vec n fun k => F (con (unit n k) (om []))) (vec n fun k => F (con (unit n k) (om []))) (om []) m rfl rfl fun k => by
   by_cases hk:k < n
   ·rw [jB _ hk,h0]; rfl
   ·rw [jY (by rw [fC]; omega)]; rfl
  rw [this]; simp⟩
 | v :: V,F,hV,hF => by
  have ih:=Sp.X9 V (fun x => F (wed v x)) hV.tail (hF.wed v)
  have hv:=hV.head
  refine ⟨fC ..,fun m hm => ?_⟩
  have e:∀ k,k < n → F (con (unit n k) (om (v :: V))) = v.getD k 0 * F (om V) - F (wed v (con (unit n k) (om V))):=fun k hk => by
   have h1:=hF.congr (con (unit n k) (om (v :: V))) (fun m => v.getD k 0 * om V m - wed v (con (unit n k) (om V)) m) fun m hm => by
    have:=zl (unit n k) v (om V) m (by rw [sW,hm]) (by omega)
    rw [wo hv hk] at this
    show con (unit n k) (wed v (om V)) m = _
    omega
   exact h1.trans (hF.sub _ _ _)
  have h2:=BO (F (om V)) (-1) v (vec n fun k => F (wed v (con (unit n k) (om V)))) (vec n fun k => F (con (unit n k) (om (v :: V)))) (om (v :: V)) m (by rw [fC,hv]) (by rw [fC,fC]) fun k => by
   by_cases hk:k < n
   ·rw [jB _ hk,jB _ hk,e k hk]; grind
   ·rw [jY (by rw [fC]; omega),jY (by omega),jY (by rw [fC]; omega)]; simp
  rw [h2]
  have h3:=(Sp.mem hV List.mem_cons_self).2 m hm
  have h4:=(Sp.cons ih hv).2 m hm
  rw [h3,h4]; simp
def units (n:Nat) (C:List Nat):List (List Int):=C.map (unit n)
theorem yU (n:Nat) (C:List Nat):kH n (units n C):=fun u hu => by
 obtain ⟨k,_,rfl⟩:=List.mem_map.1 hu
 exact sW ..
def jI (n:Nat) (C:List Nat) (V:List (List Int)) (x:List Int):List Int:=vec n fun k => ent n (units n C) V x (unit n k)
structure UM (n:Nat) (C:List Nat) (V:List (List Int)) (x a:List Int):Prop where
 len:a.length = n
 sp:Sp n V (vec n fun k => a.getD k 0 - jU n (units n C) V * x.getD k 0)
 col:∀ c ∈ C,a.getD c 0 = 0
theorem zi {n:Nat} {C:List Nat} {V:List (List Int)} {x:List Int} (hV:kH n V) (hx:x.length = n):UM n C V x (jI n C V x):=by
 refine ⟨fC ..,?_,fun c hc => ?_⟩
 ·have h:=Sp.X9 V (fun y => sc n (ct (units n C) (wed x y))) hV (((ji.sc n).ct _).wed x)
  refine Sp.comb (-1) 0 h h (fC ..) fun k => ?_
  by_cases hk:k < n
  ·rw [jB _ hk,jB _ hk,jI,jB _ hk,Ux hx (sW ..),wo hx hk]
   grind
  ·rw [jY (by rw [fC]; omega),jY (by rw [fC]; omega)]; rfl
 ·by_cases hk:c < n
  ·rw [jI,jB _ hk]
   exact aE5 (sW ..) (yU n C) (List.mem_map.2 ⟨c,hc,rfl⟩)
  ·exact jY (by rw [jI,fC]; omega)
theorem QV {n c:Nat} {C:List Nat} {V:List (List Int)} {p:List Int} (hc:c < n):jU n (units n (c :: C)) (p :: V) = (jI n C V p).getD c 0:=by
 rw [jI,jB _ hc]; rfl
theorem TN {n:Nat} {C:List Nat} {V:List (List Int)} {a b:List Int} (hC:∀ c ∈ C,c < n) (hd:jU n (units n C) V ≠ 0) (ha:a.length = n) (hb:b.length = n) (hs:Sp n V (vec n fun k => a.getD k 0 - b.getD k 0)) (hc:∀ c ∈ C,a.getD c 0 = b.getD c 0):a = b:=by
 refine J8 ha hb fun k hk => ?_
 have h:=uniq (u:=unit n k) hs (yU n C) (sW ..) fun w hw => by
  obtain ⟨c,hcC,rfl⟩:=List.mem_map.1 hw
  have hcn:=hC c hcC
  rw [wo (fC ..) hcn,jB _ hcn,hc c hcC]
  omega
 rw [wo (fC ..) hk,jB _ hk] at h
 rcases Int.mul_eq_zero.1 h with h | h
 ·omega
 ·exact absurd h hd
theorem UM.eq {n:Nat} {C:List Nat} {V:List (List Int)} {x a:List Int} (hC:∀ c ∈ C,c < n) (hd:jU n (units n C) V ≠ 0) (hV:kH n V) (hx:x.length = n) (h:UM n C V x a):a = jI n C V x:=by
 have h2:=zi (C:=C) hV hx
 refine TN hC hd h.len h2.len ?_ fun c hc => by rw [h.col c hc,h2.col c hc]
 refine Sp.comb 1 (-1) h.sp h2.sp (fC ..) fun k => ?_
 by_cases hk:k < n
 ·rw [jB _ hk,jB _ hk,jB _ hk]; grind
 ·rw [jY (by rw [fC]; omega),jY (by rw [fC]; omega),jY (by rw [fC]; omega)]; rfl
structure yY (n:Nat) (C:List Nat) (V:List (List Int)) (c:Nat) (b:List Int):Prop where
 len:b.length = n
 sp:Sp n V b
 piv:b.getD c 0 = jU n (units n C) V
 col:∀ c' ∈ C,c' ≠ c → b.getD c' 0 = 0
theorem yY.eq {n:Nat} {C:List Nat} {V:List (List Int)} {c:Nat} {b b':List Int} (hC:∀ c ∈ C,c < n) (hd:jU n (units n C) V ≠ 0) (h:yY n C V c b) (h':yY n C V c b'):b = b':=by
 refine TN hC hd h.len h'.len ?_ fun c' hc => ?_
 ·refine Sp.comb 1 (-1) h.sp h'.sp (fC ..) fun k => ?_
  by_cases hk:k < n
  ·rw [jB _ hk]; grind
  ·rw [jY (by rw [fC]; omega),jY (by rw [h.len]; omega),jY (by rw [h'.len]; omega)]; rfl
 ·by_cases e:c' = c
  ·rw [e,h.piv,h'.piv]
  ·rw [h.col c' hc e,h'.col c' hc e]
theorem ZW {n:Nat} {u:List Int} (hu:u.length = n):∀ (U1 U2:List (List Int)),kH n (U1 ++ U2) → ∃ s:Int,s * s = 1 ∧ ∀ x:Ext,sc n (ct (U1 ++ u :: U2) x) = s * sc n (ct (u :: (U1 ++ U2)) x)
 | [],U2,_ => ⟨1,rfl,fun x => by rw [Int.one_mul]; rfl⟩
 | w :: U1,U2,hU => by
  obtain ⟨s,h1,h2⟩:=ZW hu U1 U2 hU.tail
  refine ⟨-s,by grind,fun x => ?_⟩
  have e1:sc n (ct (w :: U1 ++ u :: U2) x) = s * sc n (ct (u :: (U1 ++ U2)) (con w x)):=h2 (con w x)
  have hF:=ji.ct (ji.sc n) (U1 ++ U2)
  have hw:w.length = n:=hU w List.mem_cons_self
  have e2:=hF.congr (con u (con w x)) (fun m => - con w (con u x) m) fun m hm => KZ u w x m (by omega) (by omega)
  have e3:sc n (ct (u :: (U1 ++ U2)) (con w x)) = - sc n (ct (u :: (w :: U1 ++ U2)) x):=e2.trans (hF.neg _)
  rw [e1,e3]
  grind
theorem Yp {n:Nat} {C1 C2:List Nat} {c:Nat} {V:List (List Int)} (hC:∀ k ∈ C1 ++ c :: C2,k < n) (hnd:(C1 ++ c :: C2).Nodup) (hV:kH n V) :
  ∃ s:Int,s * s = 1 ∧ yY n (C1 ++ c :: C2) V c (vec n fun k => s * jU n (units n (k :: (C1 ++ C2))) V):=by
 have hcn:c < n:=hC c (by simp)
 have hl:kH n (units n C1 ++ units n C2):=fun u hu => by
  rcases List.mem_append.1 hu with h | h
  ·exact yU _ _ u h
  ·exact yU _ _ u h
 obtain ⟨s,h1,h2⟩:=ZW (sW n c) (units n C1) (units n C2) hl
 have hu:units n (C1 ++ C2) = units n C1 ++ units n C2:=by simp [units]
 refine ⟨s,h1,fC ..,?_,?_,fun c' hc' hne => ?_⟩
 ·have h:=Sp.X9 V (fun y => sc n (ct (units n (C1 ++ C2)) y)) hV ((ji.sc n).ct _)
  refine Sp.comb s 0 h h (fC ..) fun k => ?_
  by_cases hk:k < n
  ·rw [jB _ hk,jB _ hk]
   show s * jU n (units n (k :: (C1 ++ C2))) V = s * jU n (units n (k :: (C1 ++ C2))) V + 0 * _
   grind
  ·rw [jY (by rw [fC]; omega),jY (by rw [fC]; omega)]; simp
 ·rw [jB _ hcn]
  have:=h2 (om V)
  have e:units n (C1 ++ c :: C2) = units n C1 ++ unit n c :: units n C2:=by simp [units]
  show s * sc n (ct (units n (c :: (C1 ++ C2))) (om V)) = sc n (ct (units n (C1 ++ c :: C2)) (om V))
  rw [e,this]
  show s * sc n (ct (unit n c :: units n (C1 ++ C2)) (om V)) = _
  rw [hu]
 ·have hcn':=hC c' hc'
  rw [jB _ hcn']
  have hm:c' ∈ C1 ++ C2:=by
   simp only [List.mem_append,List.mem_cons] at hc' ⊢
   rcases hc' with h | h | h
   ·exact .inl h
   ·exact absurd h hne
   ·exact .inr h
  have:jU n (units n (c' :: (C1 ++ C2))) V = 0:=Kq (sW n c') (units n (C1 ++ C2)) (om V) (yU n _) (List.mem_map.2 ⟨c',hm,rfl⟩)
  rw [this,Int.mul_zero]
theorem aC0 {n:Nat} {v:List Int} (h:v.length = n):vec n (fun k => v.getD k 0) = v:=J8 (fC ..) h fun k hk => jB _ hk
theorem Sp.Fv {n:Nat} {V:List (List Int)} {f g h:Nat → Int} (a b:Int) (hf:Sp n V (vec n f)) (hg:Sp n V (vec n g)) (e:∀ k,k < n → h k = a * f k + b * g k):Sp n V (vec n h) :=
 Sp.comb a b hf hg (fC ..) fun k => by
  by_cases hk:k < n
  ·rw [jB _ hk,jB _ hk,jB _ hk,e k hk]
  ·rw [jY (by rw [fC]; omega),jY (by rw [fC]; omega),jY (by rw [fC]; omega)]; simp
theorem Sp.self {n:Nat} {V:List (List Int)} {v:List Int} (h:Sp n V v):Sp n V (vec n fun k => v.getD k 0):=by rw [aC0 h.1]; exact h
theorem Sp.aKG {n:Nat} {V:List (List Int)} {v:List Int} (hv:v.length = n) (h:Sp n V (vec n fun k => v.getD k 0)):Sp n V v:=by rwa [aC0 hv] at h
section
variable {n c:Nat} {C:List Nat} {V:List (List Int)} {p:List Int}
theorem P9 (hV:kH n V) (hp:p.length = n):kH n (p :: V):=fun v hv => by
 rcases List.mem_cons.1 hv with rfl | h
 ·exact hp
 ·exact hV v h
theorem Xx (hc:c < n) (hV:kH n V) (hp:p.length = n):yY n (c :: C) (p :: V) c (jI n C V p):=by
 have hP:=zi (C:=C) hV hp
 refine ⟨hP.len,?_,?_,fun c' hc' hne => ?_⟩
 ·refine Sp.aKG hP.len (Sp.Fv 1 (jU n (units n C) V) (Sp.cons hP.sp hp) (Sp.mem (P9 hV hp) List.mem_cons_self).self fun k _ => by grind)
 ·rw [QV hc]
 ·rcases List.mem_cons.1 hc' with h | h
  ·exact absurd h hne
  ·exact hP.col c' h
theorem aCb (hC:∀ k ∈ C,k < n) (hc:c < n) (hV:kH n V) (hp:p.length = n) (hd':(jI n C V p).getD c 0 ≠ 0) {x:List Int} (hx:x.length = n) (k:Nat) (hk:k < n) :
  jU n (units n C) V * (jI n (c :: C) (p :: V) x).getD k 0 = (jI n C V p).getD c 0 * (jI n C V x).getD k 0 - (jI n C V x).getD c 0 * (jI n C V p).getD k 0:=by
 have hA:=zi (C:=C) hV hx
 have hP:=zi (C:=C) hV hp
 have hV':=P9 hV hp
 have hA':=zi (C:=c :: C) hV' hx
 have hB:=Xx (C:=C) hc hV hp
 have hd:=QV (C:=C) (V:=V) (p:=p) hc
 have hC':∀ k ∈ c :: C,k < n:=fun k hk => by
  rcases List.mem_cons.1 hk with rfl | h
  ·exact hc
  ·exact hC k h
 have hs:=hA'.sp
 rw [hd] at hs
 have key:=TN (a:=vec n fun k => jU n (units n C) V * (jI n (c :: C) (p :: V) x).getD k 0) (b:=vec n fun k => (jI n C V p).getD c 0 * (jI n C V x).getD k 0 - (jI n C V x).getD c 0 * (jI n C V p).getD k 0)
  (n:=n) (C:=c :: C) (V:=p :: V) hC' (by rw [hd]; exact hd') (fC ..) (fC ..) (by
   refine Sp.Fv 1 1 (Sp.Fv (h:=fun k => jU n (units n C) V * (jI n (c :: C) (p :: V) x).getD k 0 - (jI n C V p).getD c 0 * (jI n C V x).getD k 0) (jU n (units n C) V) (-(jI n C V p).getD c 0) hs (Sp.cons hA.sp hp) fun k _ => by grind)
    (Sp.Fv (h:=fun k => (jI n C V x).getD c 0 * (jI n C V p).getD k 0) ((jI n C V x).getD c 0) 0 hB.sp.self hB.sp.self fun k _ => by grind) fun k hk => ?_
   rw [jB _ hk,jB _ hk]
   grind) (fun c' hc' => by
   have hcn:=hC' c' hc'
   rw [jB _ hcn,jB _ hcn,hA'.col c' hc']
   rcases List.mem_cons.1 hc' with rfl | h
   ·grind
   ·rw [hA.col c' h,hP.col c' h]; grind)
 have:=congrArg (fun v => v.getD k 0) key
 simpa only [jB _ hk] using this
theorem aJn (hC:∀ k ∈ C,k < n) (hc:c < n) (hcC:c ∉ C) (hV:kH n V) (hp:p.length = n) (hd':(jI n C V p).getD c 0 ≠ 0) {c0:Nat} (hc0:c0 ∈ C) {b b':List Int} (hb:yY n C V c0 b) (hb':yY n (c :: C) (p :: V) c0 b') (k:Nat) (hk:k < n) :
  jU n (units n C) V * b'.getD k 0 = (jI n C V p).getD c 0 * b.getD k 0 - b.getD c 0 * (jI n C V p).getD k 0:=by
 have hP:=zi (C:=C) hV hp
 have hB:=Xx (C:=C) hc hV hp
 have hd:=QV (C:=C) (V:=V) (p:=p) hc
 have hC':∀ k ∈ c :: C,k < n:=fun k hk => by
  rcases List.mem_cons.1 hk with rfl | h
  ·exact hc
  ·exact hC k h
 have aF4:c ≠ c0:=fun e => hcC (e ▸ hc0)
 have key:=TN (a:=vec n fun k => jU n (units n C) V * b'.getD k 0) (b:=vec n fun k => (jI n C V p).getD c 0 * b.getD k 0 - b.getD c 0 * (jI n C V p).getD k 0)
  (n:=n) (C:=c :: C) (V:=p :: V) hC' (by rw [hd]; exact hd') (fC ..) (fC ..) (by
   refine Sp.Fv 1 1 (Sp.Fv (h:=fun k => jU n (units n C) V * b'.getD k 0 - (jI n C V p).getD c 0 * b.getD k 0) (jU n (units n C) V) (-(jI n C V p).getD c 0) hb'.sp.self (Sp.cons hb.sp hp).self fun k _ => by grind)
    (Sp.Fv (h:=fun k => b.getD c 0 * (jI n C V p).getD k 0) (b.getD c 0) 0 hB.sp.self hB.sp.self fun k _ => by grind) fun k hk => ?_
   rw [jB _ hk,jB _ hk]
   grind) (fun c' hc' => by
   have hcn:=hC' c' hc'
   rw [jB _ hcn,jB _ hcn]
   rcases List.mem_cons.1 hc' with rfl | h
   ·rw [hb'.col c' List.mem_cons_self aF4]; grind
   ·by_cases e:c' = c0
    ·subst e
     rw [hb'.piv,hb.piv,hP.col c' h,hd]; grind
    ·rw [hb'.col c' hc' e,hb.col c' h e,hP.col c' h]; grind)
 have:=congrArg (fun v => v.getD k 0) key
 simpa only [jB _ hk] using this
end
theorem XR {n:Nat}:∀ (C:List Nat),(∀ c ∈ C,c < n) → rZ (units n C) = 1
 | [],_ => rfl
 | c :: C,h => by
  show dot (unit n c) (unit n c) * rZ (units n C) = 1
  rw [aEr (h c List.mem_cons_self),XR C fun k hk => h k (List.mem_cons_of_mem _ hk)]
  rfl
theorem aEn {n:Nat} {C:List Nat} {V:List (List Int)} (hC:∀ c ∈ C,c < n) (hV:kH n V):jU n (units n C) V * jU n (units n C) V ≤ rZ V:=by
 have:=aAH n (units n C) V (yU n C) hV
 rw [XR C hC,Int.one_mul] at this
 exact this
end
abbrev eX:=List (List Int)
def at2 (a:eX) (i k:Nat):Int:=(a.getD i []).getD k 0
def zI (a:eX) (r c:Nat):Option Nat:=(List.range' r (a.length - r)).find? fun p => at2 a p c != 0
def eP (a:eX) (r p:Nat):eX:=(a.set r (a.getD p [])).set p (a.getD r [])
def elim (n:Nat) (d f last:Int) (row piv:List Int):List Int:=vec n fun k => Int.tdiv (d * row.getD k 0 - f * piv.getD k 0) last
structure BS where
 a:eX
 piv:List Nat
 last:Int
def wY (n c:Nat) (s:BS):BS :=
 if s.piv.length < s.a.length then
  match zI s.a s.piv.length c with
  | none => s
  | some p =>
   let a:=eP s.a s.piv.length p
   let d:=at2 a s.piv.length c
   ⟨a.mapIdx fun i row => if i = s.piv.length then row else elim n d (row.getD c 0) s.last row (a.getD s.piv.length []),s.piv ++ [c],d⟩
 else s
def iE (n:Nat) (M:eX):Nat → BS
 | 0 => ⟨M,[],1⟩
 | c + 1 => wY n c (iE n M c)
theorem SS {a:eX} {r c p:Nat} (h:zI a r c = some p):r ≤ p ∧ p < a.length ∧ at2 a p c ≠ 0 ∧ ∀ j,r ≤ j → j < p → at2 a j c = 0:=by
 unfold zI at h
 obtain ⟨h1,l1,l2,h2,h3⟩:=List.find?_eq_some_iff_append.1 h
 have hm:p ∈ List.range' r (a.length - r):=by rw [h2]; simp
 have hm':=List.mem_range'_1.1 hm
 refine ⟨hm'.1,by omega,by simpa using h1,fun j hj hjp => ?_⟩
 have hlen:l1.length = p - r:=by
  have:(List.range' r (a.length - r))[l1.length]? = some p:=by rw [h2]; simp
  have hl:=congrArg List.length h2
  simp at hl
  rw [List.getElem?_range' (by omega)] at this
  injection this with this; omega
 have hj1:l1[j - r]? = some j:=by
  have:(List.range' r (a.length - r))[j - r]? = some j:=by
   rw [List.getElem?_range' (by omega)]; congr 1; omega
  rw [h2,List.getElem?_append_left (by omega)] at this
  exact this
 have:=h3 j (List.mem_of_getElem? hj1)
 simpa using this
theorem aBz {a:eX} {r c:Nat} (h:zI a r c = none):∀ j,r ≤ j → j < a.length → at2 a j c = 0:=fun j h1 h2 => by
 unfold zI at h
 have:=List.find?_eq_none.1 h j (List.mem_range'_1.2 ⟨h1,by omega⟩)
 simpa using this
theorem qB {α:Type} {l:List α} {i j:Nat} {x d:α} (hi:i < l.length):(l.set i x).getD j d = if i = j then x else l.getD j d:=by
 simp only [List.getD_eq_getElem?_getD,List.getElem?_set]
 by_cases h:i = j
 ·subst h; simp [hi]
 ·simp [h]
theorem Dh (a:eX) (r p:Nat):(eP a r p).length = a.length:=by simp [eP]
theorem zQ {a:eX} {r p:Nat} (hr:r < a.length) (hp:p < a.length) (j:Nat):(eP a r p).getD j [] = if j = p then a.getD r [] else if j = r then a.getD p [] else a.getD j []:=by
 unfold eP
 rw [qB (by simpa using hp),qB hr]
 by_cases h1:p = j
 ·subst h1; simp
 ·rw [if_neg h1,if_neg (Ne.symm h1)]
  by_cases h2:r = j
  ·subst h2; simp
  ·rw [if_neg h2,if_neg (Ne.symm h2)]
structure yg (M M':eX):Prop where
 ex:∃ f:Nat → Nat,(∀ i,i < M.length → f i < M.length) ∧ (∀ i j,i < M.length → j < M.length → f i = f j → i = j) ∧ ∀ i,i < M.length → M'.getD i [] = M.getD (f i) []
 len:M'.length = M.length
theorem yg.refl (M:eX):yg M M:=⟨⟨id,fun i h => h,fun i j _ _ h => h,fun i _ => rfl⟩,rfl⟩
theorem yg.swap {M M':eX} (h:yg M M') {r p:Nat} (hr:r < M.length) (hp:p < M.length):yg M (eP M' r p):=by
 obtain ⟨⟨f,h1,h2,h3⟩,hl⟩:=h
 refine ⟨⟨fun i => f (if i = p then r else if i = r then p else i),fun i hi => h1 _ (by split; exact hr; split; exact hp; exact hi),fun i j hi hj he => ?_,fun i hi => ?_⟩,by rw [Dh,hl]⟩
 ·have:=h2 _ _ (by split; exact hr; split; exact hp; exact hi) (by split; exact hr; split; exact hp; exact hj) he
  split at this <;> split at this <;> (try split at this) <;> (try split at this) <;> omega
 ·rw [zQ (by omega) (by omega)]
  show _ = M.getD (f (if i = p then r else if i = r then p else i)) []
  by_cases e1:i = p
  ·rw [if_pos e1,if_pos e1]; exact h3 r hr
  ·rw [if_neg e1,if_neg e1]
   by_cases e2:i = r
   ·rw [if_pos e2,if_pos e2]; exact h3 p hp
   ·rw [if_neg e2,if_neg e2]; exact h3 i hi
def kX (M:eX):Nat → eX
 | 0 => []
 | r + 1 => M.getD r [] :: kX M r
theorem Xc (M:eX):∀ r,(kX M r).length = r
 | 0 => rfl
 | r + 1 => by simp [kX,Xc M r]
theorem Xb {M M':eX}:∀ r,(∀ i,i < r → M.getD i [] = M'.getD i []) → kX M r = kX M' r
 | 0,_ => rfl
 | r + 1,h => by
  unfold kX
  rw [h r (by omega),Xb r fun i hi => h i (by omega)]
theorem TK {M:eX} {v:List Int}:∀ {r:Nat},v ∈ kX M r → ∃ i,i < r ∧ v = M.getD i []
 | 0,h => by cases h
 | r + 1,h => by
  rcases List.mem_cons.1 h with h | h
  ·exact ⟨r,by omega,h⟩
  ·obtain ⟨i,h1,h2⟩:=TK h
   exact ⟨i,by omega,h2⟩
def mV (n:Nat) (M:eX):Prop:=∀ i,i < M.length → (M.getD i []).length = n
theorem yg.rows {M M':eX} {n:Nat} (h:yg M M') (hn:mV n M):mV n M':=fun i hi => by
 obtain ⟨⟨f,h1,h2,h3⟩,hl⟩:=h
 rw [h3 i (by omega)]
 exact hn _ (h1 i (by omega))
theorem TJ {M:eX} {n r:Nat} (hn:mV n M) (hr:r ≤ M.length):kH n (kX M r):=fun v hv => by
 obtain ⟨i,h1,rfl⟩:=TK hv
 exact hn i (by omega)
structure BInv (n:Nat) (M:eX) (c:Nat) (s:BS) (M':eX):Prop where
 re:yg M M'
 len:s.a.length = M.length
 rl:s.piv.length ≤ M.length
 pc:∀ k ∈ s.piv,k < c
 nd:s.piv.Nodup
 last:jU n (units n s.piv.reverse) (kX M' s.piv.length) = s.last
 nz:s.last ≠ 0
 lo:∀ i,s.piv.length ≤ i → i < M.length → s.a.getD i [] = jI n s.piv.reverse (kX M' s.piv.length) (M'.getD i [])
 hi:∀ i (h:i < s.piv.length),yY n s.piv.reverse (kX M' s.piv.length) s.piv[i] (s.a.getD i [])
 zero:∀ i,s.piv.length ≤ i → i < M.length → ∀ k,k < c → at2 s.a i k = 0
theorem aDo {n:Nat} {x:List Int} (hx:x.length = n):jI n [] [] x = x:=J8 (fC ..) hx fun k hk => by
 rw [jI,jB _ hk,Ux hx (sW ..),wo hx hk]
 have h1:jU n (units n []) [] = 1:=by
  show one (List.replicate n false) = 1
  simp [one]
 have h2:sc n (ct (units n []) (wed x (con (unit n k) (om [])))) = 0:=O7 n x _
 rw [h1,h2]
 omega
theorem BInv.init {n:Nat} {M:eX} (hn:mV n M):BInv n M 0 (iE n M 0) M:=by
 refine ⟨.refl M,rfl,Nat.zero_le _,fun k hk => (by cases hk),List.nodup_nil,?_,(by show (1:Int) ≠ 0; decide),fun i _ hi => ?_,fun i h => (by cases h),fun i _ _ k hk => (by omega)⟩
 ·show one (List.replicate n false) = 1
  simp [one]
 ·exact (aDo (hn i hi)).symm
theorem aJv {a b c:Int} (ha:a ≠ 0) (h:a * b = c):Int.tdiv c a = b:=by
 rw [← h]
 exact Int.mul_tdiv_cancel_left b ha
theorem Wu {f:Nat → List Int → List Int} {a:eX} {i:Nat} (h:i < a.length):(a.mapIdx f).getD i [] = f i (a.getD i []):=by
 simp [List.getD_eq_getElem?_getD,List.getElem?_mapIdx,List.getElem?_eq_getElem h]
theorem Uu {n:Nat} {d f last:Int} {row piv b:List Int} (hl:last ≠ 0) (hb:b.length = n) (h:∀ k,k < n → last * b.getD k 0 = d * row.getD k 0 - f * piv.getD k 0):elim n d f last row piv = b :=
 J8 (fC ..) hb fun k hk => by
  rw [elim,jB _ hk]
  exact aJv hl (h k hk)
def Exact (n c:Nat) (s:BS):Prop:=∀ p,zI s.a s.piv.length c = some p → s.piv.length < s.a.length → ∀ i,i < s.a.length → i ≠ s.piv.length → ∀ k,k < n →
 s.last * (elim n (at2 (eP s.a s.piv.length p) s.piv.length c) (((eP s.a s.piv.length p).getD i []).getD c 0) s.last ((eP s.a s.piv.length p).getD i []) ((eP s.a s.piv.length p).getD s.piv.length [])).getD k 0 =
  at2 (eP s.a s.piv.length p) s.piv.length c * ((eP s.a s.piv.length p).getD i []).getD k 0 - ((eP s.a s.piv.length p).getD i []).getD c 0 * ((eP s.a s.piv.length p).getD s.piv.length []).getD k 0
theorem Zf {n:Nat} {d f last:Int} {row piv b:List Int} (hl:last ≠ 0) (hb:b.length = n) (h:∀ k,k < n → last * b.getD k 0 = d * row.getD k 0 - f * piv.getD k 0) (k:Nat) (hk:k < n):last * (elim n d f last row piv).getD k 0 = d * row.getD k 0 - f * piv.getD k 0:=by
 rw [Uu hl hb h]
 exact h k hk
theorem BInv.step {n:Nat} {M:eX} {c:Nat} {s:BS} {M':eX} (hn:mV n M) (hc:c < n) (h:BInv n M c s M'):(∃ M'',BInv n M (c + 1) (wY n c s) M'') ∧ Exact n c s:=by
 unfold wY
 split
 ·rename_i hlt
  rw [h.len] at hlt
  split
  ·rename_i hp
   refine ⟨⟨M',h.re,h.len,h.rl,fun k hk => by have:=h.pc k hk; omega,h.nd,h.last,h.nz,h.lo,h.hi,fun i h1 h2 k hk => ?_⟩,fun p hp' => by rw [hp] at hp'; cases hp'⟩
   by_cases e:k = c
   ·subst e; exact aBz hp i h1 (by rw [h.len]; exact h2)
   ·exact h.zero i h1 h2 k (by omega)
  ·rename_i p hp
   obtain ⟨p1,p2,p3,p4⟩:=SS hp
   rw [h.len] at p2
   -- names
   have hre:=h.re.swap hlt p2
   have hn':=h.re.rows hn
   have Vg:=hre.rows hn
   have hml:M'.length = M.length:=h.re.len
   generalize hV:kX M' s.piv.length = V at *
   have hV2:kX (eP M' s.piv.length p) s.piv.length = V:=by
    rw [← hV]
    exact Xb _ fun i hi => by rw [zQ (by omega) (by omega),if_neg (by omega),if_neg (by omega)]
   have zo:kH n V:=by rw [← hV]; exact TJ hn' (by omega)
   have hC:∀ k ∈ s.piv.reverse,k < n:=fun k hk => by have:=h.pc k (by simpa using hk); omega
   have hcC:c ∉ s.piv.reverse:=fun hk => by have:=h.pc c (by simpa using hk); omega
   have hd:=h.last
   have hnz:=h.nz
   have hlo:=h.lo
   have hhi:=h.hi
   rw [hV] at hd
   simp only [hV] at hlo hhi
   -- the pivot's row
   generalize hP:M'.getD p [] = P
   have hPl:P.length = n:=by rw [← hP]; exact hn' p (by omega)
   have hap:s.a.getD p [] = jI n s.piv.reverse V P:=by rw [← hP]; exact hlo p p1 p2
   have hsw:∀ i,i < M.length → (eP s.a s.piv.length p).getD i [] = if i = p then s.a.getD s.piv.length [] else if i = s.piv.length then s.a.getD p [] else s.a.getD i []:=fun i hi => zQ (by rw [h.len]; exact hlt) (by rw [h.len]; exact p2) i
   have WB:∀ i,(eP M' s.piv.length p).getD i [] = if i = p then M'.getD s.piv.length [] else if i = s.piv.length then M'.getD p [] else M'.getD i []:=fun i => zQ (by omega) (by omega) i
   have hlow:∀ i,s.piv.length ≤ i → i < M.length → (eP s.a s.piv.length p).getD i [] = jI n s.piv.reverse V ((eP M' s.piv.length p).getD i []):=fun i h1 h2 => by
    rw [hsw i h2,WB i]
    split
    ·exact hlo s.piv.length (Nat.le_refl _) hlt
    ·split
     ·exact hlo p p1 p2
     ·exact hlo i h1 h2
   have har:(eP s.a s.piv.length p).getD s.piv.length [] = jI n s.piv.reverse V P:=by
    rw [hlow s.piv.length (Nat.le_refl _) hlt,WB s.piv.length,← hP]
    by_cases e:s.piv.length = p
    ·rw [if_pos e,e]
    ·rw [if_neg e,if_pos rfl]
   have hMr:(eP M' s.piv.length p).getD s.piv.length [] = P:=by
    rw [WB s.piv.length,← hP]
    by_cases e:s.piv.length = p
    ·rw [if_pos e,e]
    ·rw [if_neg e,if_pos rfl]
   have hdv:at2 (eP s.a s.piv.length p) s.piv.length c = (jI n s.piv.reverse V P).getD c 0:=by unfold at2; rw [har]
   have hdn:(jI n s.piv.reverse V P).getD c 0 ≠ 0:=by
    have:at2 s.a p c ≠ 0:=p3
    unfold at2 at this
    rwa [hap] at this
   have VN:kX (eP M' s.piv.length p) (s.piv ++ [c]).length = P :: V:=by
    rw [List.length_append,List.length_singleton]
    show (eP M' s.piv.length p).getD s.piv.length [] :: kX (eP M' s.piv.length p) s.piv.length = _
    rw [hMr,hV2]
   have VL:(s.piv ++ [c]).reverse = c :: s.piv.reverse:=by simp
   have hlen':(s.piv ++ [c]).length = s.piv.length + 1:=by simp
   have hget:∀ i,i < M.length → ((eP s.a s.piv.length p).mapIdx fun i row => if i = s.piv.length then row else elim n (at2 (eP s.a s.piv.length p) s.piv.length c) (row.getD c 0) s.last row ((eP s.a s.piv.length p).getD s.piv.length [])).getD i [] =
     if i = s.piv.length then (eP s.a s.piv.length p).getD i [] else elim n (at2 (eP s.a s.piv.length p) s.piv.length c) (((eP s.a s.piv.length p).getD i []).getD c 0) s.last ((eP s.a s.piv.length p).getD i []) ((eP s.a s.piv.length p).getD s.piv.length []):=fun i hi => Wu (by rw [Dh,h.len]; exact hi)
   have aF5:jU n (units n (c :: s.piv.reverse)) (P :: V) = at2 (eP s.a s.piv.length p) s.piv.length c:=by rw [QV hc,hdv]
   have aAQ:∀ i,s.piv.length + 1 ≤ i → i < M.length → elim n (at2 (eP s.a s.piv.length p) s.piv.length c) (((eP s.a s.piv.length p).getD i []).getD c 0) s.last ((eP s.a s.piv.length p).getD i []) ((eP s.a s.piv.length p).getD s.piv.length []) = jI n (c :: s.piv.reverse) (P :: V) ((eP M' s.piv.length p).getD i []):=fun i h1 h2 => by
    refine Uu hnz (fC ..) fun k hk => ?_
    rw [hlow i (by omega) h2,har,hdv,← hd]
    exact aCb hC hc zo hPl hdn (Vg i (by rw [Dh]; omega)) k hk
   have aAL:∀ i (hir:i < s.piv.length),∃ b,yY n (c :: s.piv.reverse) (P :: V) s.piv[i] b ∧ ∀ k,k < n → s.last * b.getD k 0 = at2 (eP s.a s.piv.length p) s.piv.length c * (s.a.getD i []).getD k 0 - (s.a.getD i []).getD c 0 * ((eP s.a s.piv.length p).getD s.piv.length []).getD k 0:=fun i hir => by
    have hb:=hhi i hir
    -- the row of the pivot in the next stage
    obtain ⟨C1,C2,hsp⟩:∃ C1 C2,c :: s.piv.reverse = C1 ++ s.piv[i] :: C2:=by
     have:s.piv[i] ∈ c :: s.piv.reverse:=List.mem_cons_of_mem _ (by simp)
     exact List.append_of_mem this
    have hC':∀ k ∈ c :: s.piv.reverse,k < n:=fun k hk => by
     rcases List.mem_cons.1 hk with rfl | hk
     ·exact hc
     ·exact hC k hk
    have hnd':(c :: s.piv.reverse).Nodup:=List.nodup_cons.2 ⟨hcC,List.pairwise_reverse.2 (h.nd.imp fun h => h.symm)⟩
    obtain ⟨sg,_,hbr⟩:=Yp (V:=P :: V) (n:=n) (C1:=C1) (C2:=C2) (c:=s.piv[i]) (by rw [← hsp]; exact hC') (by rw [← hsp]; exact hnd') (P9 zo hPl)
    rw [← hsp] at hbr
    refine ⟨_,hbr,fun k hk => ?_⟩
    rw [har,hdv,← hd]
    exact aJn hC hc hcC zo hPl hdn (by simp) hb hbr k hk
   have hai:∀ i,i < s.piv.length → (eP s.a s.piv.length p).getD i [] = s.a.getD i []:=fun i hir => by rw [hsw i (by omega),if_neg (by omega),if_neg (by omega)]
   refine ⟨?_,fun p' hp' _ i hi hne k hk => ?_⟩
   rotate_left
   ·have:p' = p:=by rw [hp] at hp'; injection hp' with hp'; exact hp'.symm
    subst this
    rw [h.len] at hi
    by_cases hir:i < s.piv.length
    ·obtain ⟨b,hb1,hb2⟩:=aAL i hir
     rw [hai i hir]
     exact Zf hnz hb1.len hb2 k hk
    ·refine Zf hnz (fC n fun k => ent n (units n (c :: s.piv.reverse)) (P :: V) ((eP M' s.piv.length p').getD i []) (unit n k)) (fun k hk => ?_) k hk
     rw [hlow i (by omega) hi,har,hdv,← hd]
     exact aCb hC hc zo hPl hdn (Vg i (by rw [Dh]; omega)) k hk
   refine ⟨eP M' s.piv.length p,hre,by rw [List.length_mapIdx,Dh,h.len],by rw [hlen']; omega,fun k hk => ?_,?_,?_,?_,fun i h1 h2 => ?_,fun i hi => ?_,fun i h1 h2 k hk => ?_⟩
   ·rcases List.mem_append.1 hk with hk | hk
    ·have:=h.pc k hk; omega
    ·have:k = c:=by simpa using hk
     omega
   ·refine List.nodup_append.2 ⟨h.nd,by simp,fun a ha b hb => ?_⟩
    have:b = c:=by simpa using hb
    subst this
    have:=h.pc a ha
    omega
   ·show jU n (units n (s.piv ++ [c]).reverse) (kX (eP M' s.piv.length p) (s.piv ++ [c]).length) = _
    rw [VN,VL,aF5]
   ·show at2 (eP s.a s.piv.length p) s.piv.length c ≠ 0
    rw [hdv]; exact hdn
   ·rw [hlen'] at h1
    show ((eP s.a s.piv.length p).mapIdx _).getD i [] = jI n (s.piv ++ [c]).reverse (kX (eP M' s.piv.length p) (s.piv ++ [c]).length) _
    rw [VN,VL,hget i h2,if_neg (by omega)]
    exact aAQ i h1 h2
   ·show yY n (s.piv ++ [c]).reverse (kX (eP M' s.piv.length p) (s.piv ++ [c]).length) (s.piv ++ [c])[i] (((eP s.a s.piv.length p).mapIdx _).getD i [])
    rw [VN,VL]
    have hi':i < s.piv.length + 1:=by rw [← hlen']; exact hi
    rw [hget i (by omega)]
    by_cases e:i = s.piv.length
    ·subst e
     have:(s.piv ++ [c])[s.piv.length] = c:=by simp
     rw [this,if_pos rfl,har]
     exact Xx hc zo hPl
    ·have hir:i < s.piv.length:=by omega
     have Qs:i < s.piv.length:=by omega
     have e1:(s.piv ++ [c])[i] = s.piv[i]:=List.getElem_append_left Qs
     rw [e1,if_neg e]
     obtain ⟨b,hb1,hb2⟩:=aAL i hir
     rw [hai i hir,Uu hnz hb1.len hb2]
     exact hb1
   ·rw [hlen'] at h1
    show (((eP s.a s.piv.length p).mapIdx _).getD i []).getD k 0 = 0
    rw [hget i h2,if_neg (by omega)]
    by_cases e:k = c
    ·subst e
     rw [aAQ i h1 h2]
     exact (zi (C:=k :: s.piv.reverse) (P9 zo hPl) (Vg i (by rw [Dh]; omega))).col k List.mem_cons_self
    ·have hz:∀ j,s.piv.length ≤ j → j < M.length → ((eP s.a s.piv.length p).getD j []).getD k 0 = 0:=fun j j1 j2 => by
      rw [hsw j j2]
      split
      ·exact h.zero s.piv.length (by omega) hlt k (by omega)
      ·split
       ·exact h.zero p (by omega) p2 k (by omega)
       ·exact h.zero j (by omega) j2 k (by omega)
     rw [elim,jB _ (by omega),hz i (by omega) h2,hz s.piv.length (Nat.le_refl _) hlt]
     simp
 ·rename_i hlt
  rw [h.len] at hlt
  refine ⟨⟨M',h.re,h.len,h.rl,fun k hk => by have:=h.pc k hk; omega,h.nd,h.last,h.nz,h.lo,h.hi,fun i h1 h2 k hk => by omega⟩,fun p _ hl => absurd (by rw [h.len] at hl; exact hl) hlt⟩
theorem Bc {n:Nat} {M:eX} (hn:mV n M):∀ c,c ≤ n → ∃ M',BInv n M c (iE n M c) M'
 | 0,_ => ⟨M,BInv.init hn⟩
 | c + 1,hc => by
  obtain ⟨M',h⟩:=Bc hn c (by omega)
  exact (h.step hn (by omega)).1
theorem aDv {n:Nat} {M:eX} (hn:mV n M) {c:Nat} (hc:c < n):Exact n c (iE n M c):=by
 obtain ⟨M',h⟩:=Bc hn c (by omega)
 exact (h.step hn hc).2
theorem dot_comm:∀ u v:List Int,dot u v = dot v u
 | [],[] => rfl
 | [],_ :: _ => rfl
 | _ :: _,[] => rfl
 | a :: u,b :: v => by
  show a * b + dot u v = b * a + dot v u
  rw [dot_comm u v,Int.mul_comm]
theorem LC:∀ (u y:List Int) (i:Nat) (x:Int),i < u.length → u.length ≤ y.length → dot (u.set i x) y = dot u y + (x - u.getD i 0) * y.getD i 0
 | [],_,_,_,h,_ => by cases h
 | _ :: _,[],_,_,_,h => by simp at h
 | a :: u,b :: y,0,x,_,_ => by
  show x * b + dot u y = a * b + dot u y + (x - a) * b
  grind
 | a :: u,b :: y,i + 1,x,h1,h2 => by
  have:=LC u y i x (by simpa using h1) (by simpa using h2)
  show a * b + dot (u.set i x) y = a * b + dot u y + (x - u.getD i 0) * y.getD i 0
  rw [this]
  omega
theorem Zb:∀ (n:Nat) (y:List Int),dot (List.replicate n 0) y = 0
 | 0,_ => by cases ‹List Int› <;> rfl
 | n + 1,[] => rfl
 | n + 1,b :: y => by
  show 0 * b + dot (List.replicate n 0) y = 0
  rw [Zb n y]; omega
theorem Us (a b:Int):∀ (u v y x:List Int),u.length = y.length → v.length = y.length → (∀ k:Nat,y.getD k 0 = a * u.getD k 0 + b * v.getD k 0) → dot y x = a * dot u x + b * dot v x
 | [],[],[],x,_,_,_ => by cases x <;> simp [dot]
 | t :: u,s :: v,r :: y,[],_,_,_ => by simp [dot]
 | t :: u,s :: v,r :: y,c :: x,h1,h2,h3 => by
  have ih:=Us a b u v y x (by simpa using h1) (by simpa using h2) fun k => by simpa using h3 (k + 1)
  have h0:r = a * t + b * s:=by simpa using h3 0
  show r * c + dot y x = a * (t * c + dot u x) + b * (s * c + dot v x)
  rw [ih,h0]
  grind
 | [],_ :: _,[],_,_,h,_ => by cases h
 | _ :: _,[],[],_,h,_,_ => by cases h
 | _ :: _,_ :: _,[],_,h,_,_ => by cases h
 | [],_,_ :: _,_,h,_,_ => by cases h
 | _ :: _,[],_ :: _,_,_,h,_ => by cases h
theorem QN (a b:Int):∀ (u v y:List Int) (x:Ext) (m:List Bool),u.length = y.length → v.length = y.length → (∀ k:Nat,y.getD k 0 = a * u.getD k 0 + b * v.getD k 0) → con y x m = a * con u x m + b * con v x m
 | [],[],[],x,m,_,_,_ => by simp [con]
 | t :: u,s :: v,r :: y,x,[],_,_,_ => by simp [con]
 | t :: u,s :: v,r :: y,x,false :: m,h1,h2,h3 => by
  have ih:=QN a b u v y (fun m => x (false :: m)) m (by simpa using h1) (by simpa using h2) fun k => by simpa using h3 (k + 1)
  have h0:r = a * t + b * s:=by simpa using h3 0
  show con y (fun m => x (false :: m)) m + r * x (true :: m) = a * (con u (fun m => x (false :: m)) m + t * x (true :: m)) + b * (con v (fun m => x (false :: m)) m + s * x (true :: m))
  rw [ih,h0]
  grind
 | t :: u,s :: v,r :: y,x,true :: m,h1,h2,h3 => by
  have ih:=QN a b u v y (fun m => x (true :: m)) m (by simpa using h1) (by simpa using h2) fun k => by simpa using h3 (k + 1)
  show - con y (fun m => x (true :: m)) m = a * (- con u (fun m => x (true :: m)) m) + b * (- con v (fun m => x (true :: m)) m)
  rw [ih]
  grind
 | [],_ :: _,[],_,_,_,h,_ => by cases h
 | _ :: _,[],[],_,_,h,_,_ => by cases h
 | _ :: _,_ :: _,[],_,_,h,_,_ => by cases h
 | [],_,_ :: _,_,_,h,_,_ => by cases h
 | _ :: _,[],_ :: _,_,_,_,h,_ => by cases h
def alt {β:Type}:List Int → List β → (List β → Int) → Int
 | d :: ds,v :: V,f => d * f V - alt ds V fun W => f (v :: W)
 | _,_,_ => 0
theorem UR {β γ:Type} (g:β → γ):∀ (ds:List Int) (Z:List β) (f:List γ → Int),alt ds (Z.map g) f = alt ds Z fun W => f (W.map g)
 | [],[],f => rfl
 | [],_ :: _,f => rfl
 | _ :: _,[],f => rfl
 | d :: ds,z :: Z,f => by
  show d * f (Z.map g) - alt ds (Z.map g) (fun W => f (g z :: W)) = d * f (Z.map g) - alt ds Z (fun W => f (g z :: W.map g))
  rw [UR g ds Z]
theorem Yh {β:Type}:∀ (ds:List Int) (Z:List β) (f f':List β → Int),(∀ W,(∀ z ∈ W,z ∈ Z) → f W = f' W) → alt ds Z f = alt ds Z f'
 | [],[],f,f',_ => rfl
 | [],_ :: _,f,f',_ => rfl
 | _ :: _,[],f,f',_ => rfl
 | d :: ds,z :: Z,f,f',h => by
  show d * f Z - alt ds Z (fun W => f (z :: W)) = d * f' Z - alt ds Z (fun W => f' (z :: W))
  rw [h Z fun x hx => List.mem_cons_of_mem _ hx,Yh ds Z _ _ fun W hW => h (z :: W) fun x hx => by
   rcases List.mem_cons.1 hx with rfl | hx
   ·exact List.mem_cons_self
   ·exact List.mem_cons_of_mem _ (hW x hx)]
theorem Un {n:Nat} {u:List Int} (hu:u.length = n):∀ (V:List (List Int)) (F:Ext → Int),kH n V → ji n F → F (con u (om V)) = alt (V.map (dot u)) V fun W => F (om W)
 | [],F,_,hF => hF.zero _ fun m _ => QM u m
 | v :: V,F,hV,hF => by
  have ih:=Un hu V (fun x => F (wed v x)) hV.tail (hF.wed v)
  have e:=hF.congr (con u (om (v :: V))) (fun m => dot u v * om V m - wed v (con u (om V)) m) fun m hm => by
   have:=zl u v (om V) m (by omega) (by rw [hV.head,hm])
   show con u (wed v (om V)) m = _
   omega
  rw [e,hF.sub,ih]
  rfl
theorem aAE {n N:Nat}:∀ (UU VV:List (List Int × List Int)),(∀ u ∈ UU,u.1.length = n ∧ u.2.length = N) → (∀ v ∈ VV,v.1.length = n ∧ v.2.length = N) → (∀ u ∈ UU,∀ v ∈ VV,dot u.1 v.1 = dot u.2 v.2) →
  jU n (UU.map (·.1)) (VV.map (·.1)) = jU N (UU.map (·.2)) (VV.map (·.2))
 | [],[],_,_,_ => by
  show one (List.replicate n false) = one (List.replicate N false)
  simp [one]
 | [],v :: VV,_,_,_ => by
  show wed v.1 (om (VV.map (·.1))) (List.replicate n false) = wed v.2 (om (VV.map (·.2))) (List.replicate N false)
  rw [O7,O7]
 | u :: UU,VV,hU,hV,h => by
  have h1:=Un (hU u List.mem_cons_self).1 (VV.map (·.1)) (fun x => sc n (ct (UU.map (·.1)) x)) (fun v hv => by
   obtain ⟨z,hz,rfl⟩:=List.mem_map.1 hv
   exact (hV z hz).1) ((ji.sc n).ct _)
  have h2:=Un (hU u List.mem_cons_self).2 (VV.map (·.2)) (fun x => sc N (ct (UU.map (·.2)) x)) (fun v hv => by
   obtain ⟨z,hz,rfl⟩:=List.mem_map.1 hv
   exact (hV z hz).2) ((ji.sc N).ct _)
  show sc n (ct (UU.map (·.1)) (con u.1 (om (VV.map (·.1))))) = sc N (ct (UU.map (·.2)) (con u.2 (om (VV.map (·.2)))))
  rw [h1,h2,UR,UR]
  have e:(VV.map (·.1)).map (dot u.1) = (VV.map (·.2)).map (dot u.2):=by
   rw [List.map_map,List.map_map]
   exact List.map_congr_left fun v hv => h u List.mem_cons_self v hv
  rw [e]
  exact Yh _ _ _ _ fun W hW => aAE UU W (fun x hx => hU x (List.mem_cons_of_mem _ hx)) (fun v hv => hV v (hW v hv)) fun x hx v hv => h x (List.mem_cons_of_mem _ hx) v (hW v hv)
theorem ZU {n:Nat} {y:List Int} (hy:y.length = n):∀ (V:List (List Int)),kH n V → (∀ v ∈ V,dot y v = 0) → ∀ m:List Bool,m.length = n → con y (om V) m = 0
 | [],_,_,m,_ => QM y m
 | v :: V,hV,h,m,hm => by
  have ih:=ZU hy V hV.tail fun v hv => h v (List.mem_cons_of_mem _ hv)
  have h1:=zl y v (om V) m (by omega) (by rw [hV.head,hm])
  rw [h v List.mem_cons_self,Ph v (con y (om V)) m fun k hk => ih k (by omega)] at h1
  show con y (wed v (om V)) m = 0
  omega
def On (y:List Int) (L:List Nat):Prop:=∀ k,k ∉ L → y.getD k 0 = 0
theorem On.split {n c:Nat} {y:List Int} {L:List Nat} (hy:y.length = n) (hc:c < n) (h:On y (c :: L)):On (y.set c 0) L ∧ ∀ k:Nat,y.getD k 0 = y.getD c 0 * (unit n c).getD k 0 + 1 * (y.set c 0).getD k 0:=by
 have hu:∀ k,(unit n c).getD k 0 = if k = c then 1 else 0:=fun k => by
  by_cases hk:k < n
  ·rw [show unit n c = vec n fun i => if i = c then 1 else 0 from rfl,jB _ hk]
  ·rw [jY (by rw [sW]; omega),if_neg (by omega)]
 refine ⟨fun k hk => ?_,fun k => ?_⟩
 ·rw [qB (by omega)]
  by_cases e:c = k
  ·rw [if_pos e]
  ·rw [if_neg e]
   exact h k (by simp [hk,Ne.symm e])
 ·rw [hu,qB (by omega)]
  by_cases e:k = c
  ·subst e; simp
  ·rw [if_neg e,if_neg (Ne.symm e)]; omega
theorem On.nil {y:List Int} (h:On y []) (k:Nat):y.getD k 0 = 0:=h k (by simp)
theorem On.sp {n:Nat} {V:List (List Int)} (hV:kH n V):∀ (L:List Nat) (y:List Int),y.length = n → (∀ c ∈ L,c < n ∧ unit n c ∈ V) → On y L → Sp n V y
 | [],y,hy,_,h => ⟨hy,fun m _ => by
  rw [BO 0 0 y y y (om V) m rfl rfl fun k => by rw [h.nil k]; rfl]
  simp⟩
 | c :: L,y,hy,hL,h => by
  obtain ⟨h1,h2⟩:=h.split hy (hL c List.mem_cons_self).1
  have ih:=On.sp hV L (y.set c 0) (by simpa using hy) (fun k hk => hL k (List.mem_cons_of_mem _ hk)) h1
  exact Sp.comb (y.getD c 0) 1 (Sp.mem hV (hL c List.mem_cons_self).2) ih hy h2
theorem On.ct {n:Nat} {U:List (List Int)} (hU:kH n U):∀ (L:List Nat) (y:List Int),y.length = n → (∀ c ∈ L,c < n ∧ unit n c ∈ U) → On y L → ∀ z:Ext,sc n (ct U (con y z)) = 0
 | [],y,hy,_,h,z => ((ji.sc n).ct U).zero _ fun m _ => by
  rw [QN 0 0 y y y z m rfl rfl fun k => by rw [h.nil k]; rfl]
  simp
 | c :: L,y,hy,hL,h,z => by
  obtain ⟨h1,h2⟩:=h.split hy (hL c List.mem_cons_self).1
  have ih:=On.ct hU L (y.set c 0) (by simpa using hy) (fun k hk => hL k (List.mem_cons_of_mem _ hk)) h1 z
  have hF:=(ji.sc n).ct U
  have e:=hF.congr (con y z) (fun m => y.getD c 0 * con (unit n c) z m + 1 * con (y.set c 0) z m) fun m _ => QN (y.getD c 0) 1 (unit n c) (y.set c 0) y z m (by rw [sW,hy]) (by simp) h2
  have h3:sc n (Mx.ct U (con (unit n c) z)) = 0:=Kq (sW n c) U z hU (hL c List.mem_cons_self).2
  refine e.trans ((hF.lin _ _ _ _).trans ?_)
  show y.getD c 0 * sc n (Mx.ct U (con (unit n c) z)) + 1 * sc n (Mx.ct U (con (y.set c 0) z)) = 0
  rw [h3,ih]; simp
theorem aEo {n:Nat} {C:List Nat} {V:List (List Int)} {y:List Int} (hC:∀ c ∈ C,c < n) (hV:kH n V) (hy:y.length = n) (hon:On y C) (h:∀ v ∈ V,dot y v = 0) {k:Nat} (hk:y.getD k 0 ≠ 0):jU n (units n C) V = 0:=by
 have hkn:k < n:=Nat.lt_of_not_le fun hle => hk (jY (by omega))
 have h1:=On.ct (yU n C) C y hy (fun c hc => ⟨hC c hc,List.mem_map.2 ⟨c,hc,rfl⟩⟩) hon (wed (unit n k) (om V))
 have hF:=(ji.sc n).ct (units n C)
 have e:=hF.congr (con y (wed (unit n k) (om V))) (fun m => dot y (unit n k) * om V m - wed (unit n k) (con y (om V)) m) fun m hm => by
  have:=zl y (unit n k) (om V) m (by omega) (by rw [sW,hm])
  omega
 have h2:sc n (ct (units n C) (wed (unit n k) (con y (om V)))) = 0:=hF.zero _ fun m hm => Ph _ _ m fun j hj => ZU hy V hV h j (by omega)
 have h3:dot y (unit n k) * jU n (units n C) V - sc n (ct (units n C) (wed (unit n k) (con y (om V)))) = 0:=((e.trans (hF.sub _ _ _)).symm.trans h1)
 rw [h2,dot_comm,wo hy hkn] at h3
 rcases Int.mul_eq_zero.1 (by omega:y.getD k 0 * jU n (units n C) V = 0) with e | e
 ·exact absurd e hk
 ·exact e
theorem aEp {n:Nat} {I:List Nat} {U:List (List Int)} {y:List Int} (hI:∀ c ∈ I,c < n) (hU:kH n U) (hy:y.length = n) (hon:On y I) (h:∀ u ∈ U,dot u y = 0) {k:Nat} (hk:y.getD k 0 ≠ 0):jU n U (units n I) = 0:=by
 have hkn:k < n:=Nat.lt_of_not_le fun hle => hk (jY (by omega))
 have hs:=On.sp (yU n I) I y hy (fun c hc => ⟨hI c hc,List.mem_map.2 ⟨c,hc,rfl⟩⟩) hon
 have h1:=uniq (u:=unit n k) hs hU (sW ..) h
 rw [wo hy hkn] at h1
 rcases Int.mul_eq_zero.1 h1 with e | e
 ·exact absurd e hk
 ·exact e
theorem aCx (a1 b1 c1 a2 b2 c2:Int):∃ x y z:Int,(x ≠ 0 ∨ y ≠ 0 ∨ z ≠ 0) ∧ a1 * x + b1 * y + c1 * z = 0 ∧ a2 * x + b2 * y + c2 * z = 0:=by
 by_cases h:b1 * c2 - c1 * b2 ≠ 0 ∨ c1 * a2 - a1 * c2 ≠ 0 ∨ a1 * b2 - b1 * a2 ≠ 0
 ·exact ⟨b1 * c2 - c1 * b2,c1 * a2 - a1 * c2,a1 * b2 - b1 * a2,h,by grind,by grind⟩
 ·have h1:b1 * c2 - c1 * b2 = 0:=Classical.byContradiction fun e => h (.inl e)
  have h2:c1 * a2 - a1 * c2 = 0:=Classical.byContradiction fun e => h (.inr (.inl e))
  have h3:a1 * b2 - b1 * a2 = 0:=Classical.byContradiction fun e => h (.inr (.inr e))
  by_cases e1:a1 = 0 ∧ b1 = 0
  ·obtain ⟨rfl,rfl⟩:=e1
   by_cases e2:c1 = 0
   ·subst e2
    by_cases e3:a2 = 0 ∧ b2 = 0
    ·obtain ⟨rfl,rfl⟩:=e3
     exact ⟨1,0,0,.inl (by decide),by omega,by omega⟩
    ·refine ⟨b2,-a2,0,?_,by omega,by grind⟩
     by_cases e4:b2 = 0
     ·exact .inr (.inl fun e => e3 ⟨by omega,e4⟩)
     ·exact .inl e4
   ·have ha2:a2 = 0:=by
     rcases Int.mul_eq_zero.1 (by omega:c1 * a2 = 0) with e | e
     ·exact absurd e e2
     ·exact e
    exact ⟨1,0,0,.inl (by decide),by omega,by rw [ha2]; omega⟩
  ·refine ⟨b1,-a1,0,?_,by grind,by grind⟩
   by_cases e4:b1 = 0
   ·exact .inr (.inl fun e => e1 ⟨by omega,e4⟩)
   ·exact .inl e4
def Pv (n:Nat) (M:eX) (B:Nat):Prop:=∀ (M':eX) (C:List Nat),yg M M' → C.length ≤ M.length → C.Nodup → (∀ c ∈ C,c < n) → (jU n (units n C) (kX M' C.length)).natAbs ≤ B
theorem aDp {a:eX} {i k:Nat} (h:a.length ≤ i):at2 a i k = 0:=by
 unfold at2
 rw [List.getD_eq_getElem?_getD (l:=a),List.getElem?_eq_none h]
 rfl
theorem aJk {n B:Nat} {M M':eX} {c:Nat} {s:BS} (hn:mV n M) (hc:c ≤ n) (hm:Pv n M B) (h:BInv n M c s M'):(∀ i k:Nat,(at2 s.a i k).natAbs ≤ B) ∧ s.last.natAbs ≤ B:=by
 have hC:∀ k ∈ s.piv.reverse,k < n:=fun k hk => by have:=h.pc k (by simpa using hk); omega
 have hnd:s.piv.reverse.Nodup:=List.pairwise_reverse.2 (h.nd.imp fun h => h.symm)
 have hrl:=h.rl
 have aLI:=h.re.len
 have hn':=h.re.rows hn
 refine ⟨fun i k => ?_,?_⟩
 ·by_cases hi:i < M.length
  ·by_cases hlo:s.piv.length ≤ i
   ·unfold at2
    rw [h.lo i hlo hi]
    by_cases hk:k < n
    ·by_cases Le:k ∈ s.piv.reverse
     ·rw [(zi (C:=s.piv.reverse) (TJ hn' (by omega)) (hn' i (by omega))).col k Le]
      exact Nat.zero_le _
     ·rw [jI,jB _ hk]
      have hre:=h.re.swap (r:=s.piv.length) (p:=i) (by omega) hi
      have:=hm (eP M' s.piv.length i) (k :: s.piv.reverse) hre (by simp; omega) (List.nodup_cons.2 ⟨Le,hnd⟩) fun x hx => by
       rcases List.mem_cons.1 hx with rfl | hx
       ·exact hk
       ·exact hC x hx
      have e:kX (eP M' s.piv.length i) (k :: s.piv.reverse).length = M'.getD i [] :: kX M' s.piv.length:=by
       rw [List.length_cons,List.length_reverse]
       show (eP M' s.piv.length i).getD s.piv.length [] :: kX (eP M' s.piv.length i) s.piv.length = _
       congr 1
       ·rw [zQ (by omega) (by omega)]
        by_cases e:s.piv.length = i
        ·rw [if_pos e,e]
        ·rw [if_neg e,if_pos rfl]
       ·exact Xb _ fun j hj => by rw [zQ (by omega) (by omega),if_neg (by omega),if_neg (by omega)]
      rw [e] at this
      exact this
    ·rw [jY (by rw [jI,fC]; omega)]; exact Nat.zero_le _
   ·have Qs:i < s.piv.length:=by omega
    have hb:=h.hi i Qs
    by_cases hk:k < n
    ·obtain ⟨C1,C2,hsp⟩:∃ C1 C2,s.piv.reverse = C1 ++ s.piv[i] :: C2:=List.append_of_mem (List.mem_reverse.2 (List.getElem_mem Qs))
     obtain ⟨sg,hsg,hbr⟩:=Yp (V:=kX M' s.piv.length) (n:=n) (C1:=C1) (C2:=C2) (c:=s.piv[i]) (by rw [← hsp]; exact hC) (by rw [← hsp]; exact hnd) (TJ hn' (by omega))
     rw [← hsp] at hbr
     have e:=hb.eq hC (by rw [h.last]; exact h.nz) hbr
     unfold at2
     rw [e,jB _ hk]
     have hsa:sg.natAbs = 1:=by
      have:=congrArg Int.natAbs hsg
      rw [Int.natAbs_mul] at this
      exact Nat.eq_one_of_mul_eq_one_right this
     rw [Int.natAbs_mul,hsa,Nat.one_mul]
     have aAR:=hnd
     rw [hsp] at aAR
     have hC2:∀ x ∈ C1 ++ C2,x < n:=fun x hx => hC x (by
      rw [hsp]
      rcases List.mem_append.1 hx with h | h
      ·exact List.mem_append_left _ h
      ·exact List.mem_append_right _ (List.mem_cons_of_mem _ h))
     by_cases Le:k ∈ C1 ++ C2
     ·have:jU n (units n (k :: (C1 ++ C2))) (kX M' s.piv.length) = 0:=Kq (sW n k) (units n (C1 ++ C2)) _ (yU n _) (List.mem_map.2 ⟨k,Le,rfl⟩)
      rw [this]; exact Nat.zero_le _
     ·have hlen:(k :: (C1 ++ C2)).length = s.piv.length:=by
       have:=congrArg List.length hsp
       simp at this ⊢
       omega
      have:=hm M' (k :: (C1 ++ C2)) h.re (by omega) (List.nodup_cons.2 ⟨Le,by
       have:=List.nodup_append.1 aAR
       refine List.nodup_append.2 ⟨this.1,(List.nodup_cons.1 this.2.1).2,fun a ha b hb => this.2.2 a ha b (List.mem_cons_of_mem _ hb)⟩⟩) fun x hx => by
       rcases List.mem_cons.1 hx with rfl | hx
       ·exact hk
       ·exact hC2 x hx
      rw [hlen] at this
      exact this
    ·unfold at2
     rw [jY (by rw [hb.len]; omega)]; exact Nat.zero_le _
  ·rw [aDp (by rw [h.len]; omega)]; exact Nat.zero_le _
 ·rw [← h.last]
  have:=hm M' s.piv.reverse h.re (by simpa using hrl) hnd hC
  rw [List.length_reverse] at this
  exact this
section
theorem Jh:∀ (N:Nat) (l:List Nat),l.Nodup → (∀ x ∈ l,x < N) → l.length ≤ N
 | 0,[],_,_ => Nat.le_refl _
 | 0,x :: l,_,h => by have:=h x List.mem_cons_self; omega
 | N + 1,l,hn,h => by
  have h1:(l.erase N).Nodup:=hn.erase N
  have ih:=Jh N (l.erase N) h1 fun x hx => by
   have:=(hn.mem_erase_iff).1 hx
   have:=h x this.2
   omega
  by_cases hm:N ∈ l
  ·rw [List.length_erase_of_mem hm] at ih; omega
  ·rw [List.erase_of_not_mem hm] at ih; omega
theorem aBm {N:Nat} {l:List Nat} (hn:l.Nodup) (h:∀ x ∈ l,x < N) (hl:N ≤ l.length + 1):∃ k0,∀ k,k < N → k ∉ l → k = k0:=by
 by_cases hx:∃ k0,k0 < N ∧ k0 ∉ l
 ·obtain ⟨k0,h1,h2⟩:=hx
  refine ⟨k0,fun k hk hkl => ?_⟩
  by_cases e:k = k0
  ·exact e
  ·have:=Jh N (k :: k0 :: l) (List.nodup_cons.2 ⟨by simp [e,hkl],List.nodup_cons.2 ⟨h2,hn⟩⟩) fun x hx => by
    rcases List.mem_cons.1 hx with rfl | hx
    ·exact hk
    ·rcases List.mem_cons.1 hx with rfl | hx
     ·exact h1
     ·exact h x hx
   simp at this
   omega
 ·exact ⟨0,fun k hk hkl => absurd ⟨k,hk,hkl⟩ hx⟩
theorem Yc {a:Int} {B:Nat} (h:a * a ≤ (B:Int) * B):a.natAbs ≤ B:=by
 refine Nat.le_of_not_lt fun hlt => ?_
 have h1:(B + 1) * (B + 1) ≤ a.natAbs * a.natAbs:=Nat.mul_le_mul hlt hlt
 have h2:((a.natAbs * a.natAbs:Nat):Int) = a * a:=by rw [← Int.natAbs_mul]; have:=sq_nonneg a; omega
 have h3:((B + 1) * (B + 1):Nat) = B * B + 2 * B + 1:=by grind
 have h4:((B * B:Nat):Int) = (B:Int) * B:=Int.natCast_mul ..
 omega
theorem aB5 {c:Int} (hc:0 ≤ c):∀ (V:List (List Int)),(∀ v ∈ V,dot v v ≤ c) → rZ V ≤ c ^ V.length
 | [],_ => by show (1:Int) ≤ c ^ 0; simp
 | v :: V,h => by
  have ih:=aB5 hc V fun v hv => h v (List.mem_cons_of_mem _ hv)
  show dot v v * rZ V ≤ c ^ (V.length + 1)
  rw [Int.pow_succ,Int.mul_comm]
  exact Int.mul_le_mul ih (h v List.mem_cons_self) (QY v) (Int.le_trans (OV V) ih)
theorem aI3 {r:Nat} (h:r ≤ 10):(64:Int) ^ r ≤ 1073741824 * 1073741824:=by
 have h1:(64:Nat) ^ r ≤ 64 ^ 10:=Nat.pow_le_pow_right (by decide) h
 have h2:((64:Nat) ^ 10:Nat) = 1073741824 * 1073741824:=by decide
 have h3:(((64:Nat) ^ r:Nat):Int) = (64:Int) ^ r:=by simp
 omega
def yv (N:Nat) (X Y:Nat → Int) (a b g:Int):List Int:=vec N fun k => if k % 2 = 0 then a - g * Y (k / 2) else b + g * X (k / 2)
structure GZ (N:Nat) (B:eX) (X Y:Nat → Int):Prop where
 len:∀ v ∈ B,v.length = N
 sq:∀ v ∈ B,dot v v ≤ 64
 kill:∀ v ∈ B,∀ a b g,dot v (yv N X Y a b g) = 0
 nz:B ≠ [] → ∀ a b g:Int,(a ≠ 0 ∨ b ≠ 0 ∨ g ≠ 0) → ∃ k,(yv N X Y a b g).getD k 0 ≠ 0
 n12:N ≤ 12
section
variable {N:Nat} {B:eX} {X Y:Nat → Int}
theorem aDc (k:Nat):∃ p q r:Int,∀ a b g,p * a + q * b + r * g = 0 → (yv N X Y a b g).getD k 0 = 0:=by
 by_cases hk:k < N
 ·by_cases h:k % 2 = 0
  ·exact ⟨1,0,- Y (k / 2),fun a b g e => by rw [yv,jB _ hk,if_pos h]; grind⟩
  ·exact ⟨0,1,X (k / 2),fun a b g e => by rw [yv,jB _ hk,if_neg h]; grind⟩
 ·exact ⟨0,0,0,fun a b g _ => jY (by rw [yv,fC]; omega)⟩
theorem aLE (w:List Int) (hw:w.length = N):∃ p q r:Int,∀ a b g,dot w (yv N X Y a b g) = p * a + q * b + r * g:=by
 refine ⟨dot w (yv N X Y 1 0 0),dot w (yv N X Y 0 1 0),dot w (yv N X Y 0 0 1),fun a b g => ?_⟩
 have h1:=Us b g (yv N X Y 0 1 0) (yv N X Y 0 0 1) (yv N X Y 0 b g) w (by simp [yv,fC]) (by simp [yv,fC]) fun k => by
  by_cases hk:k < N
  ·simp only [yv,jB _ hk]; split <;> grind
  ·rw [jY (v:=yv N X Y 0 b g) (by rw [yv,fC]; omega),jY (v:=yv N X Y 0 1 0) (by rw [yv,fC]; omega),jY (v:=yv N X Y 0 0 1) (by rw [yv,fC]; omega)]; simp
 have h2:=Us a 1 (yv N X Y 1 0 0) (yv N X Y 0 b g) (yv N X Y a b g) w (by simp [yv,fC]) (by simp [yv,fC]) fun k => by
  by_cases hk:k < N
  ·simp only [yv,jB _ hk]; split <;> grind
  ·rw [jY (v:=yv N X Y a b g) (by rw [yv,fC]; omega),jY (v:=yv N X Y 1 0 0) (by rw [yv,fC]; omega),jY (v:=yv N X Y 0 b g) (by rw [yv,fC]; omega)]; simp
 rw [dot_comm,h2,h1,dot_comm w,dot_comm w,dot_comm w]
 grind
theorem GZ.minors (h:GZ N B X Y):Pv N B 2000000000:=fun M' C hre ER hnd hC => by
 have hrows:mV N B:=fun i hi => h.len _ (by rw [List.getD_eq_getElem?_getD,List.getElem?_eq_getElem hi]; exact List.getElem_mem hi)
 have hmem:∀ v ∈ kX M' C.length,v ∈ B:=fun v hv => by
  obtain ⟨i,hi,rfl⟩:=TK hv
  obtain ⟨⟨f,f1,f2,f3⟩,hl⟩:=hre
  rw [f3 i (by omega),List.getD_eq_getElem?_getD,List.getElem?_eq_getElem (f1 i (by omega))]
  exact List.getElem_mem _
 have zo:kH N (kX M' C.length):=fun v hv => h.len v (hmem v hv)
 by_cases h10:C.length ≤ 10
 ·have h1:=aEn hC zo
  have h2:=aB5 (c:=64) (by decide) _ fun v hv => h.sq v (hmem v hv)
  rw [Xc] at h2
  have h3:=aI3 h10
  exact Nat.le_trans (Yc (B:=1073741824) (Int.le_trans h1 (Int.le_trans h2 h3))) (by decide)
 ·have hCN:=Jh N C hnd hC
  have Vh:=h.n12
  obtain ⟨k0,hk0⟩:=aBm hnd hC (by omega)
  obtain ⟨p,q,r,hy⟩:=aDc (N:=N) (X:=X) (Y:=Y) k0
  obtain ⟨a,b,g,hne,e1,_⟩:=aCx p q r 0 0 0
  have hB:B ≠ []:=fun e => by
   have:C.length ≤ 0:=by rw [e] at ER; exact ER
   omega
  obtain ⟨k,hk⟩:=h.nz hB a b g hne
  have:=aEo (y:=yv N X Y a b g) hC zo (fC ..) (fun j hj => by
   by_cases hjN:j < N
   ·rw [hk0 j hjN hj]; exact hy a b g e1
   ·exact jY (by rw [yv,fC]; omega)) (fun v hv => by rw [dot_comm]; exact h.kill v (hmem v hv) a b g) hk
  rw [this]
  exact Nat.zero_le _
def lm (B:eX) (ld:List Int) (j:Nat):List Int:=if j < B.length then B.getD j [] else ld
def yT (N n:Nat) (B:eX) (ld:List Int):eX:=(List.range N).map fun i => vec n fun j => (lm B ld j).getD i 0
theorem aCt {n i:Nat} {ld:List Int} (h:i < N):(yT N n B ld).getD i [] = vec n fun j => (lm B ld j).getD i 0:=by
 simp [yT,List.getD_eq_getElem?_getD,h]
theorem aCu {n:Nat} {ld:List Int}:(yT N n B ld).length = N:=by simp [yT]
theorem aCs {n:Nat} {ld:List Int} (hc:∀ j,j < n → (lm B ld j).length = N) {M':eX} {C:List Nat} (hre:yg (yT N n B ld) M') (ER:C.length ≤ N) (hC:∀ c ∈ C,c < n) :
  ∃ I:List Nat,I.Nodup ∧ (∀ i ∈ I,i < N) ∧ I.length = C.length ∧ jU n (units n C) (kX M' C.length) = jU N (C.map (lm B ld)) (units N I):=by
 obtain ⟨⟨f,f1,f2,f3⟩,hl⟩:=hre
 rw [aCu] at f1 f2 f3
 have hI:∀ r,r ≤ N → ∃ I:List Nat,I.Nodup ∧ (∀ i ∈ I,i < N ∧ ∃ j,j < r ∧ i = f j) ∧ I.length = r ∧ kX M' r = I.map fun i => (yT N n B ld).getD i []:=fun r => by
  induction r with
  | zero => exact fun _ => ⟨[],List.nodup_nil,fun i hi => (by cases hi),rfl,rfl⟩
  | succ r ih =>
   intro hr
   obtain ⟨I,i1,i2,i3,i4⟩:=ih (by omega)
   refine ⟨f r :: I,List.nodup_cons.2 ⟨fun hm => ?_,i1⟩,fun i hi => ?_,by simp [i3],?_⟩
   ·obtain ⟨_,j,hj,e⟩:=i2 _ hm
    have:=f2 r j (by omega) (by omega) e
    omega
   ·rcases List.mem_cons.1 hi with rfl | hi
    ·exact ⟨f1 r (by omega),r,by omega,rfl⟩
    ·obtain ⟨a,j,hj,e⟩:=i2 i hi
     exact ⟨a,j,by omega,e⟩
   ·show M'.getD r [] :: kX M' r = _
    rw [f3 r (by omega),i4]
    rfl
 obtain ⟨I,i1,i2,i3,i4⟩:=hI C.length ER
 refine ⟨I,i1,fun i hi => (i2 i hi).1,i3,?_⟩
 rw [i4]
 have:=aAE (n:=n) (N:=N) (C.map fun c => (unit n c,lm B ld c)) (I.map fun i => ((yT N n B ld).getD i [],unit N i)) (fun u hu => by
  obtain ⟨c,hcC,rfl⟩:=List.mem_map.1 hu
  exact ⟨sW ..,hc c (hC c hcC)⟩) (fun v hv => by
  obtain ⟨i,hi,rfl⟩:=List.mem_map.1 hv
  exact ⟨by rw [aCt (i2 i hi).1,fC],sW ..⟩) (fun u hu v hv => by
  obtain ⟨c,hcC,rfl⟩:=List.mem_map.1 hu
  obtain ⟨i,hi,rfl⟩:=List.mem_map.1 hv
  have hiN:=(i2 i hi).1
  have hcn:=hC c hcC
  show dot (unit n c) ((yT N n B ld).getD i []) = dot (lm B ld c) (unit N i)
  rw [aCt hiN,wo (fC ..) hcn,jB _ hcn,dot_comm,wo (hc c hcn) hiN])
 rw [List.map_map,List.map_map,List.map_map,List.map_map] at this
 exact this
theorem aB4 {ld:List Int} {L:Int} (h:GZ N B X Y) (hL:64 ≤ L) (hld:dot ld ld ≤ L):∀ (C:List Nat),C.Nodup → (∀ c ∈ C,c ≤ B.length) → (B.length ∉ C → rZ (C.map (lm B ld)) ≤ 64 ^ C.length) ∧ rZ (C.map (lm B ld)) ≤ L * 64 ^ (C.length - 1)
 | [],_,_ => ⟨fun _ => Int.le_refl _,by show 1 ≤ L * 1; omega⟩
 | c :: C,hn,hC => by
  have hn':=List.nodup_cons.1 hn
  obtain ⟨h1,h2⟩:=aB4 h hL hld C hn'.2 fun x hx => hC x (List.mem_cons_of_mem _ hx)
  have hcc:=hC c List.mem_cons_self
  have hp:=OV (C.map (lm B ld))
  have hbar:c < B.length → dot (lm B ld c) (lm B ld c) ≤ 64:=fun hlt => by
   unfold lm
   rw [if_pos hlt]
   exact h.sq _ (by rw [List.getD_eq_getElem?_getD,List.getElem?_eq_getElem hlt]; exact List.getElem_mem hlt)
  have aAT:(0:Int) ≤ 64 ^ C.length:=Int.pow_nonneg (by decide)
  have e:rZ ((c :: C).map (lm B ld)) = dot (lm B ld c) (lm B ld c) * rZ (C.map (lm B ld)):=rfl
  rw [e,List.length_cons,Nat.add_sub_cancel]
  refine ⟨fun hm => ?_,?_⟩
  ·have hlt:c < B.length:=by
    have:c ≠ B.length:=fun e => hm (by rw [e]; exact List.mem_cons_self)
    omega
   rw [Int.pow_succ,Int.mul_comm]
   exact Int.mul_le_mul (h1 fun hx => hm (List.mem_cons_of_mem _ hx)) (hbar hlt) (QY _) aAT
  ·by_cases hlt:c < B.length
   ·by_cases hm:B.length ∈ C
    ·have hC1:1 ≤ C.length:=List.length_pos_of_mem hm
     have e2:L * 64 ^ C.length = 64 * (L * 64 ^ (C.length - 1)):=by
      conv => lhs; rw [show C.length = (C.length - 1) + 1 by omega,Int.pow_succ]
      grind
     rw [e2]
     exact Int.mul_le_mul (hbar hlt) h2 hp (by decide)
    ·have:=Int.mul_le_mul (hbar hlt) (h1 hm) hp (by decide)
     exact Int.le_trans this (Int.mul_le_mul_of_nonneg_right hL aAT)
   ·have hce:c = B.length:=by omega
    have hm:B.length ∉ C:=by rw [← hce]; exact hn'.1
    have hdl:dot (lm B ld c) (lm B ld c) ≤ L:=by unfold lm; rw [if_neg hlt]; exact hld
    exact Int.mul_le_mul hdl (h1 hm) hp (by omega)
theorem aI4 {r:Nat} (h:r ≤ 9):(64:Int) ^ r ≤ 18014398509481984:=by
 have h1:(64:Nat) ^ r ≤ 64 ^ 9:=Nat.pow_le_pow_right (by decide) h
 have h2:((64:Nat) ^ 9:Nat) = 18014398509481984:=by decide
 have h3:(((64:Nat) ^ r:Nat):Int) = (64:Int) ^ r:=by simp
 omega
theorem GZ.turned (h:GZ N B X Y) {n:Nat} {ld:List Int} (hn:n ≤ B.length + 1) (hl:n = B.length + 1 → ld.length = N) (hld:dot ld ld ≤ 192):Pv n (yT N n B ld) 2000000000:=fun M' C hre ER hnd hC => by
 rw [aCu] at ER
 have hcl:∀ j,j < n → (lm B ld j).length = N:=fun j hj => by
  unfold lm
  split
  ·rename_i hlt
   exact h.len _ (by rw [List.getD_eq_getElem?_getD,List.getElem?_eq_getElem hlt]; exact List.getElem_mem hlt)
  ·exact hl (by omega)
 obtain ⟨I,i1,i2,i3,i4⟩:=aCs hcl hre ER hC
 rw [i4]
 have hU:kH N (C.map (lm B ld)):=fun u hu => by
  obtain ⟨c,hcC,rfl⟩:=List.mem_map.1 hu
  exact hcl c (hC c hcC)
 by_cases h10:C.length ≤ 10
 ·have h1:=aAH N (C.map (lm B ld)) (units N I) hU (yU N I)
  rw [XR I i2,Int.mul_one] at h1
  have h2:=(aB4 h (L:=192) (by decide) hld C hnd fun c hcC => by have:=hC c hcC; omega).2
  have h3:=aI4 (show C.length - 1 ≤ 9 by omega)
  have h4:(192:Int) * 64 ^ (C.length - 1) ≤ 192 * 18014398509481984:=Int.mul_le_mul_of_nonneg_left h3 (by decide)
  exact Yc (Int.le_trans h1 (Int.le_trans h2 (Int.le_trans h4 (by decide))))
 ·have hIN:=Jh N I i1 i2
  have Vh:=h.n12
  obtain ⟨k0,hk0⟩:=aBm i1 i2 (by omega)
  obtain ⟨p,q,r,hy⟩:=aDc (N:=N) (X:=X) (Y:=Y) k0
  obtain ⟨p2,q2,r2,hy2⟩:∃ p q r:Int,∀ a b g,p * a + q * b + r * g = 0 → n = B.length + 1 → dot ld (yv N X Y a b g) = 0:=by
   by_cases e:n = B.length + 1
   ·obtain ⟨p,q,r,hh⟩:=aLE (X:=X) (Y:=Y) ld (hl e)
    exact ⟨p,q,r,fun a b g e _ => by rw [hh,e]⟩
   ·exact ⟨0,0,0,fun a b g _ e' => absurd e' e⟩
  obtain ⟨a,b,g,hne,e1,e2⟩:=aCx p q r p2 q2 r2
  have hB:B ≠ []:=fun e => by
   have:=Jh n C hnd hC
   rw [e] at hn
   simp at hn
   omega
  obtain ⟨k,hk⟩:=h.nz hB a b g hne
  have:=aEp (y:=yv N X Y a b g) i2 hU (fC ..) (fun j hj => by
   by_cases hjN:j < N
   ·rw [hk0 j hjN hj]; exact hy a b g e1
   ·exact jY (by rw [yv,fC]; omega)) (fun u hu => by
   obtain ⟨c,hcC,rfl⟩:=List.mem_map.1 hu
   have hcn:=hC c hcC
   unfold lm
   split
   ·rename_i hlt
    exact h.kill _ (by rw [List.getD_eq_getElem?_getD,List.getElem?_eq_getElem hlt]; exact List.getElem_mem hlt) a b g
   ·exact hy2 a b g e2 (by omega)) hk
  rw [this]
  exact Nat.zero_le _
end
def vS (N i j:Nat) (dx dy:Int):List Int:=((((List.replicate N 0).set i dx).set (i + 1) dy).set j (-dx)).set (j + 1) (-dy)
theorem aCE (N i j:Nat) (dx dy:Int):(vS N i j dx dy).length = N:=by simp [vS]
theorem aCC {N i j:Nat} {dx dy:Int} {y:List Int} (hy:y.length = N) (h1:i + 1 < j) (h2:j + 1 < N):dot (vS N i j dx dy) y = dx * y.getD i 0 + dy * y.getD (i + 1) 0 - dx * y.getD j 0 - dy * y.getD (j + 1) 0:=by
 have g0:∀ k,(List.replicate N (0:Int)).getD k 0 = 0:=fun k => by
  simp only [List.getD_eq_getElem?_getD,List.getElem?_replicate]
  split <;> rfl
 unfold vS
 rw [LC _ _ _ _ (by simp; omega) (by simp; omega),LC _ _ _ _ (by simp; omega) (by simp; omega),LC _ _ _ _ (by simp; omega) (by simp; omega),LC _ _ _ _ (by simp; omega) (by simp; omega),Zb,
  qB (by simp; omega),if_neg (by omega),qB (by simp; omega),if_neg (by omega),qB (by simp; omega),if_neg (by omega),g0,qB (by simp; omega),if_neg (by omega),qB (by simp; omega),if_neg (by omega),g0,
  qB (by simp; omega),if_neg (by omega),g0,g0]
 grind
theorem aCD {N i j:Nat} {dx dy:Int} (h1:i + 1 < j) (h2:j + 1 < N):(vS N i j dx dy).getD i 0 = dx ∧ (vS N i j dx dy).getD (i + 1) 0 = dy ∧ (vS N i j dx dy).getD j 0 = -dx ∧ (vS N i j dx dy).getD (j + 1) 0 = -dy:=by
 unfold vS
 refine ⟨?_,?_,?_,?_⟩
 ·rw [qB (by simp; omega),if_neg (by omega),qB (by simp; omega),if_neg (by omega),qB (by simp; omega),if_neg (by omega),qB (by simp; omega),if_pos rfl]
 ·rw [qB (by simp; omega),if_neg (by omega),qB (by simp; omega),if_neg (by omega),qB (by simp; omega),if_pos rfl]
 ·rw [qB (by simp; omega),if_neg (by omega),qB (by simp; omega),if_pos rfl]
 ·rw [qB (by simp; omega),if_pos rfl]
theorem aJM {N i j:Nat} {dx dy:Int} (h1:i + 1 < j) (h2:j + 1 < N):dot (vS N i j dx dy) (vS N i j dx dy) = 2 * (dx * dx + dy * dy):=by
 obtain ⟨a,b,c,d⟩:=aCD (N:=N) (dx:=dx) (dy:=dy) h1 h2
 rw [aCC (aCE ..) h1 h2,a,b,c,d]
 grind
end
def Zo (n:Nat) (V:List (List Int)):Prop:=∀ m:List Bool,m.length = n → om V m = 0
theorem aK4 {n:Nat} {p:List Int} (hp:p.length = n) (x:Ext) (m:List Bool) (hm:m.length = n):wed p (wed p x) m = 0:=by
 have:=BP p p x m (by omega) (by omega)
 omega
theorem Zo.cons {n:Nat} {p:List Int} {V:List (List Int)} (h:Zo n V):Zo n (p :: V):=fun m hm => Ph p _ m fun k hk => h k (by omega)
theorem aBk {n:Nat} {p:List Int} (hp:p.length = n):∀ (V1 V2:List (List Int)),(∀ v ∈ V1,v.length = n) → ∃ s:Int,s * s = 1 ∧ ∀ m:List Bool,m.length = n → om (V1 ++ p :: V2) m = s * om (p :: (V1 ++ V2)) m
 | [],V2,_ => ⟨1,rfl,fun m _ => by rw [Int.one_mul]; rfl⟩
 | q :: V1,V2,h => by
  obtain ⟨s,hs,he⟩:=aBk hp V1 V2 fun v hv => h v (List.mem_cons_of_mem _ hv)
  refine ⟨-s,by rw [Int.neg_mul_neg]; exact hs,fun m hm => ?_⟩
  have hq:q.length = n:=h q List.mem_cons_self
  show wed q (om (V1 ++ p :: V2)) m = -s * wed p (wed q (om (V1 ++ V2))) m
  rw [zU q _ (fun m => s * wed p (om (V1 ++ V2)) m + 0 * om V2 m) m fun k hk => by rw [he k (by omega),Int.zero_mul,Int.add_zero]; rfl,zV,BP q p _ m (by omega) (by omega),Int.zero_mul,Int.add_zero,Int.mul_neg,Int.neg_mul]
theorem Zo.front {n:Nat} {p:List Int} (hp:p.length = n) {V1 V2:List (List Int)} (h1:∀ v ∈ V1,v.length = n) (h:Zo n (p :: (V1 ++ V2))):Zo n (V1 ++ p :: V2):=fun m hm => by
 obtain ⟨s,_,he⟩:=aBk hp V1 V2 h1
 rw [he m hm,h m hm,Int.mul_zero]
def zN (n c:Nat) (p v:List Int):List Int:=vec n fun k => p.getD c 0 * v.getD k 0 + (- v.getD c 0) * p.getD k 0
theorem Xa {n c:Nat} {p v:List Int} (hp:p.length = n) (hv:v.length = n) (k:Nat):(zN n c p v).getD k 0 = p.getD c 0 * v.getD k 0 + (- v.getD c 0) * p.getD k 0:=by
 by_cases hk:k < n
 ·exact jB _ hk
 ·rw [jY (by unfold zN; rw [fC]; omega),jY (v:=v) (k:=k) (by omega),jY (v:=p) (k:=k) (by omega)]
  simp
theorem aBl {n c:Nat} {p:List Int} (hp:p.length = n):∀ (V:List (List Int)),(∀ v ∈ V,v.length = n) → ∀ m:List Bool,m.length = n → om (p :: V.map (zN n c p)) m = (p.getD c 0) ^ V.length * om (p :: V) m
 | [],_,m,_ => by
  simp
 | v :: V,h,m,hm => by
  have hv:v.length = n:=h v List.mem_cons_self
  have ih:=aBl (c:=c) hp V fun u hu => h u (List.mem_cons_of_mem _ hu)
  have hr:(zN n c p v).length = n:=fC ..
  show wed p (wed (zN n c p v) (om (V.map (zN n c p)))) m = _ * wed p (wed v (om V)) m
  have ih:∀ m:List Bool,m.length = n → wed p (om (V.map (zN n c p))) m = p.getD c 0 ^ V.length * wed p (om V) m:=ih
  generalize om (V.map (zN n c p)) = X at ih
  rw [zU p _ (fun m => p.getD c 0 * wed v X m + (- v.getD c 0) * wed p X m) m fun k hk => BO _ _ v p _ X k (by omega) (by omega) (Xa hp hv),zV,aK4 hp X m hm,Int.mul_zero,Int.add_zero,BP p v X m (by omega) (by omega)]
  have e:wed v (wed p X) m = (p.getD c 0) ^ V.length * wed v (wed p (om V)) m:=by
   rw [zU v _ (fun m => (p.getD c 0) ^ V.length * wed p (om V) m + 0 * om V m) m fun k hk => by
    rw [ih k (by omega),Int.zero_mul,Int.add_zero],zV,Int.zero_mul,Int.add_zero]
  rw [e,BP v p (om V) m (by omega) (by omega),List.length_cons,Int.pow_succ]
  grind
theorem XI {n:Nat}:∀ (C:List Nat) (S:List Int → Prop),(∀ y,S y → y.length = n) → (∀ u v y (a b:Int),S u → S v → y.length = n → (∀ k:Nat,y.getD k 0 = a * u.getD k 0 + b * v.getD k 0) → S y) → (∀ y,S y → (∀ c ∈ C,y.getD c 0 = 0) → ∀ k:Nat,y.getD k 0 = 0) → ∀ V:List (List Int),(∀ v ∈ V,S v) → C.length < V.length → Zo n V
 | [],S,hl,hc,hd,[],_,h => absurd h (Nat.lt_irrefl _)
 | [],S,hl,hc,hd,v :: V,hV,_ => fun m hm => by
  have hv:=hV v List.mem_cons_self
  have h0:=hd v hv fun c h => by cases h
  show wed v (om V) m = 0
  rw [BO 0 0 v v v (om V) m rfl rfl fun k => by rw [h0 k]; omega]
  omega
 | c :: C,S,hl,hc,hd,V,hV,h => by
  by_cases h0:∀ v ∈ V,v.getD c 0 = 0
  ·refine XI C (fun y => S y ∧ y.getD c 0 = 0) (fun y hy => hl y hy.1) (fun u v y a b hu hv hy e => ⟨hc u v y a b hu.1 hv.1 hy e,by rw [e c,hu.2,hv.2]; omega⟩) (fun y hy h1 => hd y hy.1 fun k hk => ?_) V (fun v hv => ⟨hV v hv,h0 v hv⟩) (by rw [List.length_cons] at h; omega)
   rcases List.mem_cons.1 hk with rfl | hk
   ·exact hy.2
   ·exact h1 k hk
  ·obtain ⟨p,hp⟩:=Classical.not_forall.1 h0
   obtain ⟨Vk,hpc⟩:=Classical.not_imp.1 hp
   obtain ⟨V1,V2,rfl⟩:=List.append_of_mem Vk
   have hpl:=hl p (hV p Vk)
   have hin:∀ v ∈ V1 ++ V2,S v:=fun v hv => hV v (by
    rcases List.mem_append.1 hv with hv | hv
    ·exact List.mem_append_left _ hv
    ·exact List.mem_append_right _ (List.mem_cons_of_mem _ hv))
   have hz:=XI C (fun y => S y ∧ y.getD c 0 = 0) (fun y hy => hl y hy.1) (fun u v y a b hu hv hy e => ⟨hc u v y a b hu.1 hv.1 hy e,by rw [e c,hu.2,hv.2]; omega⟩) (fun y hy h1 => hd y hy.1 fun k hk => by
    rcases List.mem_cons.1 hk with rfl | hk
    ·exact hy.2
    ·exact h1 k hk) ((V1 ++ V2).map (zN n c p)) (fun v hv => by
     obtain ⟨u,hu,rfl⟩:=List.mem_map.1 hv
     have wI:=hl u (hin u hu)
     refine ⟨hc u p _ _ _ (hin u hu) (hV p Vk) (fC ..) (Xa hpl wI),?_⟩
     rw [Xa hpl wI,Int.neg_mul,Int.mul_comm]
     omega) (by rw [List.length_map,List.length_append]; rw [List.length_append,List.length_cons,List.length_cons] at h; omega)
   refine Zo.front hpl (fun v hv => hl v (hin v (List.mem_append_left _ hv))) fun m hm => ?_
   have e:=aBl (c:=c) hpl (V1 ++ V2) (fun v hv => hl v (hin v hv)) m hm
   rw [show om (p :: (V1 ++ V2).map (zN n c p)) m = 0 from Zo.cons hz m hm] at e
   rcases Int.mul_eq_zero.1 e.symm with e | e
   ·exact absurd e (Int.pow_ne_zero hpc)
   ·exact e
theorem Zo.jU {n:Nat} {U V:List (List Int)} (h:Zo n V):jU n U V = 0:=(ji.ct (ji.sc n) U).zero _ h
structure wW (n:Nat) (M:eX) (r:Nat) (V:List (List Int)):Prop where
 len:V.length = r
 ind:¬ Zo n V
 mem:∀ v ∈ V,v ∈ M
 all:kH n V
 cols:∃ C:List Nat,C.length = r ∧ ∀ y,Sp n V y → (∀ c ∈ C,y.getD c 0 = 0) → ∀ k:Nat,y.getD k 0 = 0
 span:∀ x ∈ M,Sp n V x
theorem Z9 {M:eX} {i:Nat} (h:i < M.length):M.getD i [] ∈ M:=by
 rw [List.getD_eq_getElem?_getD,List.getElem?_eq_getElem h]
 exact List.getElem_mem h
theorem aH2 {N:Nat} {f:Nat → Nat} (h1:∀ i,i < N → f i < N) (h2:∀ i j,i < N → j < N → f i = f j → i = j) {j:Nat} (hj:j < N):∃ i,i < N ∧ f i = j:=by
 apply Classical.byContradiction
 intro hn
 have hnd:(j :: (List.range N).map f).Nodup:=by
  refine List.nodup_cons.2 ⟨fun h => ?_,?_⟩
  ·obtain ⟨i,hi,e⟩:=List.mem_map.1 h
   exact hn ⟨i,List.mem_range.1 hi,e⟩
  ·refine List.pairwise_map.2 (List.nodup_range.imp_of_mem fun {a b} ha hb hab e => hab ?_)
   exact h2 a b (List.mem_range.1 ha) (List.mem_range.1 hb) e
 have:=Jh N _ hnd fun x hx => by
  rcases List.mem_cons.1 hx with rfl | hx
  ·exact hj
  ·obtain ⟨i,hi,rfl⟩:=List.mem_map.1 hx
   exact h1 i (List.mem_range.1 hi)
 rw [List.length_cons,List.length_map,List.length_range] at this
 omega
theorem UZ {n:Nat} {M:eX} (hrows:mV n M):∃ V,wW n M (iE n M n).piv.length V:=by
 obtain ⟨M',h⟩:=Bc hrows n (Nat.le_refl _)
 generalize iE n M n = s at h
 have aAV:=h.re.rows hrows
 obtain ⟨⟨f,f1,f2,f3⟩,hl⟩:=h.re
 have hall:=TJ aAV (show s.piv.length ≤ M'.length by rw [hl]; exact h.rl)
 have hd:jU n (units n s.piv.reverse) (kX M' s.piv.length) ≠ 0:=by rw [h.last]; exact h.nz
 refine ⟨kX M' s.piv.length,Xc ..,fun hz => hd hz.jU,fun v hv => ?_,hall,⟨s.piv,rfl,fun y hy hc k => ?_⟩,fun x hx => ?_⟩
 ·obtain ⟨i,hi,rfl⟩:=TK hv
  have hi':i < M.length:=by have:=h.rl; omega
  rw [f3 i hi']
  exact Z9 (f1 i hi')
 ·by_cases hk:k < n
  ·have:=uniq (u:=unit n k) hy (yU n s.piv.reverse) (sW ..) fun w hw => by
    obtain ⟨c,hcm,rfl⟩:=List.mem_map.1 hw
    have hcp:c ∈ s.piv:=by simpa using hcm
    rw [wo hy.1 (h.pc c hcp)]
    exact hc c hcp
   rw [wo hy.1 hk] at this
   rcases Int.mul_eq_zero.1 this with e | e
   ·exact e
   ·exact absurd e hd
  ·exact jY (by rw [hy.1]; omega)
 ·obtain ⟨j,hj,rfl⟩:=List.getElem_of_mem hx
  obtain ⟨i,hi,e⟩:=aH2 f1 f2 hj
  have e2:M[j] = M'.getD i []:=by
   rw [f3 i hi,e,List.getD_eq_getElem?_getD,List.getElem?_eq_getElem hj]
   rfl
  rw [e2]
  have hxl:(M'.getD i []).length = n:=aAV i (by omega)
  by_cases hir:i < s.piv.length
  ·refine Sp.mem hall ?_
   have:∀ r,i < r → M'.getD i [] ∈ kX M' r:=by
    intro r
    induction r with
    | zero => intro h; omega
    | succ r ih =>
     intro h
     show M'.getD i [] ∈ M'.getD r [] :: kX M' r
     by_cases e:i = r
     ·rw [e]; exact List.mem_cons_self
     ·exact List.mem_cons_of_mem _ (ih (by omega))
   exact this _ hir
  ·have h0:∀ k:Nat,(jI n s.piv.reverse (kX M' s.piv.length) (M'.getD i [])).getD k 0 = 0:=fun k => by
    by_cases hk:k < n
    ·rw [← h.lo i (by omega) hi]
     exact h.zero i (by omega) hi k hk
    ·exact jY (by rw [jI,fC]; omega)
   have hs:=(zi (C:=s.piv.reverse) hall hxl).sp
   refine ⟨hxl,fun m hm => ?_⟩
   have h1:=hs.2 m hm
   rw [BO (- jU n (units n s.piv.reverse) (kX M' s.piv.length)) 0 (M'.getD i []) (M'.getD i []) _ _ m (by rw [fC]; exact hxl) (by rw [fC]; exact hxl) fun k => by
    by_cases hk:k < n
    ·rw [jB _ hk,h0 k,Int.neg_mul]; omega
    ·rw [jY (by rw [fC]; omega),jY (v:=M'.getD i []) (by omega)]; omega] at h1
   rw [Int.zero_mul,Int.add_zero] at h1
   rcases Int.mul_eq_zero.1 h1 with e | e
   ·exact absurd (Int.neg_eq_zero.1 e) hd
   ·exact e
theorem Sp.lin {n:Nat} {V:List (List Int)}:∀ u v y (a b:Int),Sp n V u → Sp n V v → y.length = n → (∀ k:Nat,y.getD k 0 = a * u.getD k 0 + b * v.getD k 0) → Sp n V y:=fun u v y a b hu hv hy e => Sp.comb a b hu hv hy e
theorem wW.le {n r r2:Nat} {M M2:eX} {V V2:List (List Int)} (h:wW n M r V) (h2:wW n M2 r2 V2) {W:List (List Int)} (hi:¬ Zo n W) (hw:∀ v ∈ W,Sp n V2 v):W.length ≤ r2:=by
 apply Classical.byContradiction
 intro hn
 obtain ⟨C,c1,c2⟩:=h2.cols
 exact hi (XI C (Sp n V2) (fun y hy => hy.1) Sp.lin c2 W hw (by omega))
theorem wW.ins {n r r2:Nat} {M M2:eX} {V V2:List (List Int)} (h:wW n M r V) (h2:wW n M2 r2 V2) {x:List Int} (hx:x.length = n) (h12:∀ v ∈ M,v ∈ M2) (h21:∀ v ∈ M2,v ∈ M ∨ v = x):r ≤ r2 ∧ r2 ≤ r + 1:=by
 refine ⟨?_,?_⟩
 ·have:=wW.le h h2 h.ind fun v hv => h2.span v (h12 v (h.mem v hv))
  rw [h.len] at this
  exact this
 ·by_cases hm:x ∈ V2
  ·obtain ⟨A,B,e⟩:=List.append_of_mem hm
   have hall:=h2.all
   rw [e] at hall
   have hA:∀ v ∈ A,v.length = n:=fun v hv => hall v (List.mem_append_left _ hv)
   have hAB:kH n (A ++ B):=fun v hv => by
    rcases List.mem_append.1 hv with hv | hv
    ·exact hA v hv
    ·exact hall v (List.mem_append_right _ (List.mem_cons_of_mem _ hv))
   have hno:x ∉ A ++ B:=fun hxm => h2.ind (by
    rw [e]
    exact Zo.front hx hA fun m hm => (Sp.mem hAB hxm).2 m hm)
   have aGC:¬ Zo n (A ++ B):=fun hz => h2.ind (by rw [e]; exact Zo.front hx hA hz.cons)
   have:=wW.le h2 h aGC fun v hv => h.span v (by
    have hv2:v ∈ V2:=by
     rw [e]
     rcases List.mem_append.1 hv with hv | hv
     ·exact List.mem_append_left _ hv
     ·exact List.mem_append_right _ (List.mem_cons_of_mem _ hv)
    rcases h21 v (h2.mem v hv2) with hh | hh
    ·exact hh
    ·exact absurd (hh ▸ hv) hno)
   have hlen:=h2.len
   rw [e,List.length_append,List.length_cons] at hlen
   rw [List.length_append] at this
   omega
  ·have:=wW.le h2 h h2.ind fun v hv => h.span v (by
    rcases h21 v (h2.mem v hv) with hh | hh
    ·exact hh
    ·exact absurd (hh ▸ hv) hm)
   rw [h2.len] at this
   omega
end Go.Mx
end
section
namespace Go.Fw
section
def lk {α:Type}:List (Nat × α) → Nat → Option α
 | [],_ => none
 | (k,v) :: r,t => bif Nat.beq k t then some v else lk r t
structure Ctx where
 w0:World
 U0:Nat → Prop
 R0:Nat → Prop
 g0:Nat → GS
 N:Nat
 pn:List Nat
structure St (P:Program) (C:Ctx) (σ:Slots) (m:Mem) (R B:Nat → Prop) (g:Nat → GS) (a:Act) (w:World):Prop where
 wf:WF R B g w
 nd:a.defers = []
 sz:a.tmps.size = C.N
 sl:∀ t v,lk σ t = some v → RA P w R B g v (a.tmps.getD t undef)
 ob:∀ n o,lk m n = some o → RO P w R B g n o
 ow:∀ n o b,lk m n = some o → (g n).has b → C.w0.heap.size ≤ b ∨ C.U0 b
 perm:∀ b,R b → C.R0 b ∨ C.w0.heap.size ≤ b
 r0:∀ b,C.R0 b → R b
 os:w.os = C.w0.os
 tape:w.tape = C.w0.tape
 output:w.output = C.w0.output
 size:C.w0.heap.size ≤ w.heap.size
 heap:∀ b,b < C.w0.heap.size → ¬ C.U0 b → w.heap[b]? = C.w0.heap[b]?
 pin:∀ n ∈ C.pn,g n = C.g0 n
 shp:∀ n ∈ C.pn,∀ b cur e,(C.g0 n).has b → C.w0.heap[b]? = some (.cells cur e (0,0)) → ∃ cur',w.heap[b]? = some (.cells cur' e (0,0)) ∧ cur'.size = cur.size
def LT (P:Program) (o:Oper) (ins:List (Operand × AV)) (us:Mem) (v:AV) (df:Mem) (W X:List Nat):Prop :=
 ∀ (R B:Nat → Prop) (g:Nat → GS) (w:World) (a:Act),WF R B g w → (∀ p ∈ ins,RA P w R B g p.2 (a.eval p.1)) → (∀ p ∈ us,RO P w R B g p.1 p.2) →
  ∀ (K:Act → World → Prop) (Q:Exit → Act → World → Prop),
   (∀ u R' B' g' w',iH R B g w W X R' B' g' w' → (∀ b,R' b → R b ∨ w.heap.size ≤ b) → (o.dst.isSome = true → RA P w' R' B' g' v u) → (∀ p ∈ df,RO P w' R' B' g' p.1 p.2) → K (a.put o.dst u) w') → o.wp P a w K Q
def fQ (σ:Slots):Operand → AV → Prop
 | .tmp t,v => lk σ t = some v
 | .const c,v => v = .s (.c (.pv (.sc c))) ∧ c.oneCell' = true
 | .func f,v => v = .s (.c (.fn f []))
 | .global _,_ => False
def EvL (σ:Slots):List (Operand × AV) → Prop
 | [] => True
 | (x,v) :: r => fQ σ x v ∧ EvL σ r
def oV (m:Mem):Mem → Prop
 | [] => True
 | (n,o) :: r => lk m n = some o ∧ oV m r
def fB (σ:Slots) (d:Option Tmp) (v:AV):Slots:=match d with
 | some t => (t,v) :: σ
 | none => σ
def gU (N:Nat) (d:Option Tmp):Bool:=match d with
 | some t => Nat.blt t N
 | none => true
section
variable {P:Program} {C:Ctx} {σ σ':Slots} {m m':Mem} {R B:Nat → Prop} {g:Nat → GS} {a:Act} {w:World}
theorem fQ.ra (hs:St P C σ m R B g a w) {x:Operand} {v:AV} (h:fQ σ x v):RA P w R B g v (a.eval x):=by
 cases x with
 | tmp t => exact hs.sl t v h
 | const c =>
  obtain ⟨rfl,h1⟩:=h
  exact ⟨h1,.sc h1⟩
 | func f =>
  subst h
  exact ⟨rfl,[],rfl,rfl,fun k n hk => by simp at hk⟩
 | global n => exact h.elim
theorem EvL.ra (hs:St P C σ m R B g a w):∀ {ins:List (Operand × AV)},EvL σ ins → ∀ p ∈ ins,RA P w R B g p.2 (a.eval p.1)
 | [],_,p,hp => by cases hp
 | (x,v) :: r,h,p,hp => by
  cases hp with
  | head => exact fQ.ra hs h.1
  | tail _ hp => exact EvL.ra hs h.2 p hp
theorem oV.ro (hs:St P C σ m R B g a w):∀ {us:Mem},oV m us → ∀ p ∈ us,RO P w R B g p.1 p.2 ∧ lk m p.1 = some p.2
 | [],_,p,hp => by cases hp
 | (n,o) :: r,h,p,hp => by
  cases hp with
  | head => exact ⟨hs.ob n o h.1,h.1⟩
  | tail _ hp => exact oV.ro hs h.2 p hp
theorem IC (X:List Nat):∀ (σ:Slots) (t:Nat),lk (lK X σ) t = (lk σ t).map (pK X)
 | [],_ => rfl
 | (k,v) :: r,t => by
  show (bif Nat.beq k t then some (pK X v) else lk (lK X r) t) = Option.map (pK X) (bif Nat.beq k t then some v else lk r t)
  cases Nat.beq k t
  ·exact IC X r t
  ·rfl
theorem IB (X:List Nat):∀ (m:Mem) (n:Nat) (o:Ob),lk (jV X m) n = some o → n ∉ X ∧ ∃ o0,lk m n = some o0 ∧ o = lD X o0
 | [],_,_,h => by cases h
 | (k,v) :: r,n,o,h => by
  unfold jV at h
  cases hk:X.elem k with
  | true =>
   rw [hk,cond_true] at h
   obtain ⟨h1,o0,h2,h3⟩:=IB X r n o h
   refine ⟨h1,o0,?_,h3⟩
   show (bif Nat.beq k n then some v else lk r n) = some o0
   cases hb:Nat.beq k n with
   | false => exact h2
   | true =>
    have:=Nat.eq_of_beq_eq_true hb
    subst this
    exact absurd (List.mem_of_elem_eq_true hk) h1
  | false =>
   rw [hk,cond_false] at h
   change (bif Nat.beq k n then some (lD X v) else lk (jV X r) n) = some o at h
   show n ∉ X ∧ ∃ o0,(bif Nat.beq k n then some v else lk r n) = some o0 ∧ o = lD X o0
   cases hb:Nat.beq k n with
   | false =>
    rw [hb] at h
    exact IB X r n o h
   | true =>
    rw [hb,cond_true] at h
    have:=Nat.eq_of_beq_eq_true hb
    subst this
    injection h with h
    exact ⟨l9 hk,v,rfl,h.symm⟩
theorem Wp {α:Type}:∀ (x y:List (Nat × α)) (n:Nat) (o:α),lk (x ++ y) n = some o → (∃ p ∈ x,p.1 = n ∧ p.2 = o) ∨ (n ∉ x.map (·.1) ∧ lk y n = some o)
 | [],_,_,_,h => .inr ⟨by simp,h⟩
 | (k,v) :: r,y,n,o,h => by
  change (bif Nat.beq k n then some v else lk (r ++ y) n) = some o at h
  cases hb:Nat.beq k n with
  | true =>
   rw [hb,cond_true] at h
   injection h with h
   exact .inl ⟨(k,v),List.mem_cons_self,Nat.eq_of_beq_eq_true hb,h⟩
  | false =>
   rw [hb,cond_false] at h
   rcases Wp r y n o h with ⟨p,hp,h1,h2⟩ | ⟨h0,h1⟩
   ·exact .inl ⟨p,List.mem_cons_of_mem _ hp,h1,h2⟩
   ·refine .inr ⟨fun hm => ?_,h1⟩
    cases hm with
    | head => exact Nat.ne_of_beq_eq_false hb rfl
    | tail _ hm => exact h0 hm
theorem VI (a:Act) (d t:Nat) (u:Value) (hd:d < a.tmps.size):(a.put (some d) u).tmps.getD t undef = if d = t then u else a.tmps.getD t undef:=by
 show (a.tmps.setIfInBounds d u).getD t undef = _
 simp only [Array.getD_eq_getD_getElem?,Array.getElem?_setIfInBounds]
 split
 ·subst_vars; simp [hd]
 ·rfl
theorem XU (a:Act) (d:Option Tmp) (u:Value):(a.put d u).tmps.size = a.tmps.size:=by cases d <;> simp [Act.put]
theorem XT (a:Act) (d:Option Tmp) (u:Value):(a.put d u).defers = a.defers:=by cases d <;> rfl
theorem St.step (hs:St P C σ m R B g a w) {us df:Mem} {W X:List Nat} {d:Option Tmp} {v:AV} {u:Value} {R' B':Nat → Prop} {g':Nat → GS} {w':World}
  (hus:oV m us) (hW:∀ n ∈ W,(n ∈ X ∨ n ∈ df.map (·.1)) ∧ ∃ o,(n,o) ∈ us) (hdf:∀ p ∈ df,p.1 ∈ X ∨ p.1 ∈ W) (hd:gU C.N d = true) (hpn:∀ n ∈ X,n ∉ C.pn)
  (had:iH R B g w W X R' B' g' w') (hR:∀ b,R' b → R b ∨ w.heap.size ≤ b) (hv:d.isSome = true → RA P w' R' B' g' v u) (hob:∀ p ∈ df,RO P w' R' B' g' p.1 p.2) :
  St P C (fB (lK X σ) d v) (df ++ jV X m) R' B' g' (a.put d u) w':=by
 have VO:∀ n ∈ W,∀ b,(g n).has b → C.w0.heap.size ≤ b ∨ C.U0 b:=fun n hn b hb => by
  obtain ⟨_,o,ho⟩:=hW n hn
  exact hs.ow n o b (oV.ro hs hus (n,o) ho).2 hb
 refine ⟨had.wf,(XT a d u).trans hs.nd,(XU a d u).trans hs.sz,fun t v' ht => ?_,fun n o hn => ?_,fun n o b hn hb => ?_,fun b hb => ?_,fun b hb => had.r b (hs.r0 b hb),had.os.trans hs.os,had.tape.trans hs.tape,
  had.output.trans hs.output,Nat.le_trans hs.size had.size,fun b hb hu => ?_,fun n hn => (had.names n fun h => hpn n h hn).trans (hs.pin n hn),fun n hn b cur e hg hh => ?_⟩
 ·have base:∀ t v',lk (lK X σ) t = some v' → RA P w' R' B' g' v' (a.tmps.getD t undef):=fun t v' ht => by
   rw [IC] at ht
   cases hl:lk σ t with
   | none => rw [hl] at ht; cases ht
   | some v0 =>
    rw [hl] at ht
    injection ht with ht
    subst ht
    exact had.ra hs.wf (hs.sl t v0 hl)
  cases d with
  | none => exact base t v' ht
  | some d =>
   have hlt:d < a.tmps.size:=by rw [hs.sz]; exact Nat.le_of_ble_eq_true hd
   rw [VI a d t u hlt]
   change (bif Nat.beq d t then some v else lk (lK X σ) t) = some v' at ht
   cases hb:Nat.beq d t with
   | true =>
    rw [hb,cond_true] at ht
    injection ht with ht
    subst ht
    rw [if_pos (Nat.eq_of_beq_eq_true hb)]
    exact hv rfl
   | false =>
    rw [hb,cond_false] at ht
    rw [if_neg (Nat.ne_of_beq_eq_false hb)]
    exact base t v' ht
 ·rcases Wp _ _ _ _ hn with ⟨p,hp,h1,h2⟩ | ⟨hnd,h1⟩
  ·subst h1; subst h2; exact hob p hp
  ·obtain ⟨h2,o0,h3,h4⟩:=IB X m n o h1
   subst h4
   exact had.ro hs.wf h2 (fun mg => by
    rcases (hW n mg).1 with h5 | h5
    ·exact h2 h5
    ·exact hnd h5) (hs.ob n o0 h3)
 ·rcases Wp _ _ _ _ hn with ⟨p,hp,h1,h2⟩ | ⟨hnd,h1⟩
  ·subst h1
   by_cases hX:p.1 ∈ X
   ·rcases had.fresh p.1 hX b hb with h3 | ⟨k,hk,h3⟩
    ·exact .inl (Nat.le_trans hs.size h3)
    ·exact VO k hk b h3
   ·rw [had.names p.1 hX] at hb
    exact VO p.1 ((hdf p hp).resolve_left hX) b hb
  ·obtain ⟨h2,o0,h3,_⟩:=IB X m n o h1
   rw [had.names n h2] at hb
   exact hs.ow n o0 b h3 hb
 ·rcases hR b hb with h1 | h1
  ·exact hs.perm b h1
  ·exact .inr (Nat.le_trans hs.size h1)
 ·rw [had.heap b (Nat.lt_of_lt_of_le hb hs.size) fun n hn he => by
   rcases VO n hn b he with h1 | h1
   ·omega
   ·exact hu h1]
  exact hs.heap b hb hu
 ·obtain ⟨c1,h1,h2⟩:=hs.shp n hn b cur e hg hh
  obtain ⟨c2,h3,h4⟩:=had.SK hs.wf (fun h => hpn n h hn) (by rw [hs.pin n hn]; exact hg) h1
  exact ⟨c2,h3,h4.trans h2⟩
theorem St.weak (hs:St P C σ m R B g a w) (h1:∀ t v,lk σ' t = some v → lk σ t = some v) (h2:∀ n o,lk m' n = some o → lk m n = some o):St P C σ' m' R B g a w :=
 { hs with sl:=fun t v h => hs.sl t v (h1 t v h),ob:=fun n o h => hs.ob n o (h2 n o h),ow:=fun n o b h => hs.ow n o b (h2 n o h) }
end
inductive It where
 | code (c:Code)
 | blk (id:Nat)
abbrev Post:=Exit → Slots → Mem → Prop
def lift (P:Program) (C:Ctx) (Q:Post) (e:Exit) (a:Act) (w:World):Prop:=∃ σ m R B g,St P C σ m R B g a w ∧ Q e σ m
def kI (P:Program) (Q:Exit → Act → World → Prop):List It → Exit → Act → World → Prop
 | [],e,a,w => Q e a w
 | .code c :: is,e,a,w => match e with
  | .normal => c.wp P (kI P Q is) a w
  | e => kI P Q is e a w
 | .blk id :: is,e,a,w => match e with
  | .exit id' => if id' = id then kI P Q is .normal a w else kI P Q is (.exit id') a w
  | e => kI P Q is e a w
def iM (P:Program) (C:Ctx) (is:List It) (e:Exit) (σ:Slots) (m:Mem) (Q:Post):Prop :=
 ∀ R B g a w,St P C σ m R B g a w → kI P (lift P C Q) is e a w
abbrev jR (P:Program) (C:Ctx) (is:List It) (σ:Slots) (m:Mem) (Q:Post):Prop:=iM P C is .normal σ m Q
def vX (P:Program) (C:Ctx) (ops:Array Oper) (rest:List Oper) (is:List It) (σ:Slots) (m:Mem) (Q:Post):Prop :=
 ∀ R B g a w,St P C σ m R B g a w → wpList P ops (kI P (lift P C Q) is) rest a w
def aj (P:Program) (C:Ctx) (σ:Slots) (m:Mem) (σ':Slots) (m':Mem):Prop :=
 ∀ R B g a w,St P C σ m R B g a w → ∃ R' B' g',St P C σ' m' R' B' g' a w
def aC {τ:Type} (P:Program) (C:Ctx) (is:List It) (σ:Slots) (m:Mem) (M:Option τ) (K:τ → Post):Prop:=∀ t,M = some t → jR P C is σ m (K t)
def aDd {τ:Type} (P:Program) (C:Ctx) (is:List It) (e:Exit) (σ:Slots) (m:Mem) (M:Option τ) (K:τ → Post):Prop:=∀ t,M = some t → iM P C is e σ m (K t)
def aT {τ:Type} (P:Program) (C:Ctx) (ops:Array Oper) (rest:List Oper) (is:List It) (σ:Slots) (m:Mem) (M:Option τ) (K:τ → Post):Prop:=∀ t,M = some t → vX P C ops rest is σ m (K t)
def bW {σ τ:Type} (b:σ → Option (σ ⊕ τ)):Nat → σ → Option τ
 | 0,_ => none
 | n + 1,s => match b s with
  | none => none
  | some (.inl s') => bW b n s'
  | some (.inr t) => some t
section
variable {P:Program} {C:Ctx} {σ σ':Slots} {m m':Mem} {is:List It} {Q:Post} {ops:Array Oper} {rest:List Oper} {τ υ:Type} {M:Option τ} {K:τ → Post}
theorem iM.ent {e:Exit} (h:aj P C σ m σ' m') (k:iM P C is e σ' m' Q):iM P C is e σ m Q:=fun R B g a w hs => by
 obtain ⟨R',B',g',hs'⟩:=h R B g a w hs
 exact k _ _ _ _ _ hs'
theorem jR.nil (h:Q .normal σ m):jR P C [] σ m Q:=fun R B g a w hs => ⟨σ,m,R,B,g,hs,h⟩
theorem jR.skip (h:jR P C is σ m Q):jR P C (.code .skip :: is) σ m Q:=fun R B g a w hs => wp_skip (h R B g a w hs)
theorem jR.blk {id:Nat} (h:jR P C is σ m Q):jR P C (.blk id :: is) σ m Q:=fun R B g a w hs => h R B g a w hs
theorem jR.seq {x y:Code} (h:jR P C (.code x :: .code y :: is) σ m Q):jR P C (.code (.seq x y) :: is) σ m Q:=fun R B g a w hs =>
 wp_seq (wp_mono (h R B g a w hs) fun e a w he => by cases e <;> exact he)
theorem jR.block {id:Nat} {c:Code} (h:jR P C (.code c :: .blk id :: is) σ m Q):jR P C (.code (.block id c) :: is) σ m Q:=fun R B g a w hs =>
 wp_block (wp_mono (h R B g a w hs) fun e a w he => by
  cases e with
  | exit id' =>
   exact he
  | _ => exact he)
theorem jR.exit {id:Nat} (h:iM P C is (.exit id) σ m Q):jR P C (.code (.exit id) :: is) σ m Q:=fun R B g a w hs => wp_exit (h R B g a w hs)
theorem jR.ret (h:iM P C is .ret σ m Q):jR P C (.code .ret :: is) σ m Q:=fun R B g a w hs => wp_ret (h R B g a w hs)
theorem iM.nil {e:Exit} (h:Q e σ m):iM P C [] e σ m Q:=fun R B g a w hs => ⟨σ,m,R,B,g,hs,h⟩
theorem iM.aE8 {id:Nat} (h:jR P C is σ m Q):iM P C (.blk id :: is) (.exit id) σ m Q:=fun R B g a w hs => by
 show (if id = id then _ else _)
 rw [if_pos rfl]
 exact h R B g a w hs
theorem iM.Zu {id id':Nat} (hne:id' ≠ id) (h:iM P C is (.exit id') σ m Q):iM P C (.blk id :: is) (.exit id') σ m Q:=fun R B g a w hs => by
 show (if id' = id then _ else _)
 rw [if_neg hne]
 exact h R B g a w hs
theorem iM.Zt {id:Nat} {c:Code} (h:iM P C is (.exit id) σ m Q):iM P C (.code c :: is) (.exit id) σ m Q:=fun R B g a w hs => h R B g a w hs
theorem iM.aJH {id:Nat} (h:iM P C is .ret σ m Q):iM P C (.blk id :: is) .ret σ m Q:=fun R B g a w hs => h R B g a w hs
theorem iM.aJI {c:Code} (h:iM P C is .ret σ m Q):iM P C (.code c :: is) .ret σ m Q:=fun R B g a w hs => h R B g a w hs
def EM (id:Nat):List It → List It
 | [] => []
 | .code _ :: is => EM id is
 | .blk i :: is => bif Nat.beq i id then is else EM id is
def xq (id:Nat):List It → Bool
 | [] => false
 | .code _ :: is => xq id is
 | .blk i :: is => Nat.beq i id || xq id is
theorem iM.LK {id:Nat}:∀ {is:List It},xq id is = true → jR P C (EM id is) σ m Q → iM P C is (.exit id) σ m Q
 | [],h,_ => by cases h
 | .code c :: is,h,k => iM.Zt (iM.LK (is:=is) h k)
 | .blk i :: is,h,k => by
  unfold xq at h
  unfold EM at k
  cases hb:Nat.beq i id with
  | true =>
   rw [hb,cond_true] at k
   have:=Nat.eq_of_beq_eq_true hb
   subst this
   exact iM.aE8 k
  | false =>
   rw [hb,cond_false] at k
   rw [hb,Bool.false_or] at h
   exact iM.Zu (Ne.symm (Nat.ne_of_beq_eq_false hb)) (iM.LK (is:=is) h k)
theorem iM.TD:∀ {is:List It},Q .ret σ m → iM P C is .ret σ m Q
 | [],h => iM.nil h
 | .code _ :: is,h => iM.aJI (iM.TD (is:=is) h)
 | .blk _ :: is,h => iM.aJH (iM.TD (is:=is) h)
theorem jR.cond {c:Operand} {x y:Code} {b:Bool} (hc:fQ σ c (.s (.c (.pv (.sc (.bool b)))))) (ht:b = true → jR P C (.code x :: is) σ m Q) (hf:b = false → jR P C (.code y :: is) σ m Q) :
  jR P C (.code (.cond c x y) :: is) σ m Q:=fun R B g a w hs => by
 have hv:=fQ.ra hs hc
 have he:a.eval c = .bool b:=by
  obtain ⟨_,h2⟩:=hv
  generalize a.eval c = v at h2
  cases h2
  rfl
 refine wp_cond_split he (fun h => ?_) (fun h => ?_)
 ·exact ht h R B g a w hs
 ·exact hf h R B g a w hs
theorem jR.region {id:Nat} {l:List Oper} (h:vX P C l.toArray l is σ m Q):jR P C (.code (.region id l.toArray false) :: is) σ m Q:=fun R B g a w hs => wp_region_lit (h R B g a w hs)
theorem vX.nil (h:jR P C is σ m Q):vX P C ops [] is σ m Q:=fun R B g a w hs => wpList_nil (h R B g a w hs)
def fF (W X:List Nat):Bool:=W.all X.elem
def mY (X Y:List Nat):Bool:=X.all fun n => !Y.elem n
theorem QX {X Y:List Nat} (h:mY X Y = true):∀ n ∈ X,n ∉ Y:=fun n hn => by
 have:=List.all_eq_true.1 h n hn
 exact l9 (by simpa using this)
def keys {α:Type} (l:List (Nat × α)):List Nat:=l.map (·.1)
theorem wV {W X:List Nat} (h:fF W X = true):∀ n ∈ W,n ∈ X:=fun n hn => List.mem_of_elem_eq_true (List.all_eq_true.1 h n hn)
theorem mem_keys {α:Type} {l:List (Nat × α)} {n:Nat} (h:n ∈ keys l):∃ o,(n,o) ∈ l:=by
 obtain ⟨p,hp,rfl⟩:=List.mem_map.1 h
 exact ⟨p.2,hp⟩
def gX (ops:Array Oper) (σ:Slots) (o:Oper) (b:Bool):Prop:=match o.guard with
 | none => b = true
 | some (j,want) => ∃ d,(ops[j]?).bind (·.dst) = some d ∧ ((∃ c,lk σ d = some (.s (.c (.pv (.sc (.bool c))))) ∧ b = (c == want)) ∨ (lk σ d = some (.dW []) ∧ b = false))
theorem gX.wanted {o:Oper} {b:Bool} {R B:Nat → Prop} {g:Nat → GS} {a:Act} {w:World} (hs:St P C σ m R B g a w) (h:gX ops σ o b):Region.wanted o (yielded ops a.tmps) = b:=by
 unfold gX at h
 unfold Region.wanted
 split at h
 ·rename_i hg; rw [hg]; exact h.symm
 ·rename_i j want hg
  obtain ⟨d,h1,⟨c,h2,h3⟩ | ⟨h2,h3⟩⟩:=h
  ·rw [hg]
   have hv:=hs.sl d _ h2
   have he:a.tmps.getD d undef = .bool c:=by
    obtain ⟨_,hv⟩:=hv
    generalize a.tmps.getD d undef = v at hv
    cases hv
    rfl
   have he':a.tmps[d]? = some (.bool c):=by
    rw [Array.getD_eq_getD_getElem?] at he
    cases hx:a.tmps[d]? with
    | none => rw [hx] at he; simp [undef] at he
    | some v => rw [hx] at he; simpa using he
   have hy:yielded ops a.tmps j = some c:=by
    unfold yielded
    rw [h1]
    simp [he']
   simp only [hy]
   rw [h3]
   cases c <;> cases want <;> rfl
  ·rw [hg]
   obtain ⟨vs,hv,hl,_⟩:=hs.sl d _ h2
   have hvs:vs = []:=List.eq_nil_of_length_eq_zero hl
   subst hvs
   have hy:yielded ops a.tmps j = none:=by
    unfold yielded
    rw [h1]
    simp only [Option.bind_some]
    rw [Array.getD_eq_getD_getElem?] at hv
    cases hx:a.tmps[d]? with
    | none => rfl
    | some v =>
     rw [hx] at hv
     have:v = .tuple #[]:=by simpa using hv
     subst this
     rfl
   simp only [hy]
   rw [h3]
   rfl
theorem vX.step {o:Oper} {ins:List (Operand × AV)} {us df:Mem} {v:AV} {W X:List Nat} (hlt:LT P o ins us v df W X) (hi:EvL σ ins) (hu:oV m us) (hg:gX ops σ o true)
  (hside:(gU C.N o.dst && fF W (X ++ keys df) && fF W (keys us) && fF (keys df) (X ++ W) && mY X C.pn) = true) (h:vX P C ops rest is (fB (lK X σ) o.dst v) (df ++ jV X m) Q):vX P C ops (o :: rest) is σ m Q:=fun R B g a w hs => by
 simp only [Bool.and_eq_true] at hside
 obtain ⟨⟨⟨⟨h1,h2⟩,h3⟩,h4⟩,h5⟩:=hside
 refine wpList_step fun K' hK' => ?_
 rw [if_pos (hg.wanted hs)]
 refine hlt R B g w a hs.wf (EvL.ra hs hi) (fun p hp => (oV.ro hs hu p hp).1) K' _ fun u R' B' g' w' had hR hv hob => ?_
 exact hK' _ _ (h _ _ _ _ _ (hs.step hu (fun n hn => ⟨List.mem_append.1 (wV h2 n hn),mem_keys (wV h3 n hn)⟩) (fun p hp => List.mem_append.1 (wV h4 p.1 (List.mem_map.2 ⟨p,hp,rfl⟩))) h1 (QX h5) had hR hv hob))
theorem vX.skip {o:Oper} (hg:gX ops σ o false) (hd:gU C.N o.dst = true) (h:vX P C ops rest is (fB σ o.dst (.dW [])) m Q):vX P C ops (o :: rest) is σ m Q:=fun R B g a w hs => by
 refine wpList_step fun K' hK' => ?_
 rw [if_neg (by rw [hg.wanted hs]; exact Bool.false_ne_true)]
 refine hK' _ _ (h R B g _ w ?_)
 refine { hs with nd:=(XT a _ _).trans hs.nd,sz:=(XU a _ _).trans hs.sz,sl:=fun t v ht => ?_ }
 cases hdst:o.dst with
 | none => rw [hdst] at ht; exact hs.sl t v ht
 | some d =>
  rw [hdst] at ht hd
  have hlt:d < a.tmps.size:=by rw [hs.sz]; exact Nat.le_of_ble_eq_true hd
  rw [VI a d t undef hlt]
  change (bif Nat.beq d t then some (AV.dW []) else lk σ t) = some v at ht
  cases hb:Nat.beq d t with
  | true =>
   rw [hb,cond_true] at ht
   injection ht with ht
   subst ht
   rw [if_pos (Nat.eq_of_beq_eq_true hb)]
   exact ⟨[],rfl,rfl,fun k x hk => by simp at hk⟩
  | false =>
   rw [hb,cond_false] at ht
   rw [if_neg (Nat.ne_of_beq_eq_false hb)]
   exact hs.sl t v ht
theorem aC.of (h:∀ t,M = some t → jR P C is σ m (K t)):aC P C is σ m M K:=h
theorem aC.seq {x y:Code} (h:aC P C (.code x :: .code y :: is) σ m M K):aC P C (.code (.seq x y) :: is) σ m M K:=fun t ht => jR.seq (h t ht)
theorem aC.skip (h:aC P C is σ m M K):aC P C (.code .skip :: is) σ m M K:=fun t ht => jR.skip (h t ht)
theorem aC.blk {id:Nat} (h:aC P C is σ m M K):aC P C (.blk id :: is) σ m M K:=fun t ht => jR.blk (h t ht)
theorem aC.block {id:Nat} {c:Code} (h:aC P C (.code c :: .blk id :: is) σ m M K):aC P C (.code (.block id c) :: is) σ m M K:=fun t ht => jR.block (h t ht)
theorem aC.exit {id:Nat} (hb:xq id is = true) (h:aC P C (EM id is) σ m M K):aC P C (.code (.exit id) :: is) σ m M K:=fun t ht => jR.exit (iM.LK hb (h t ht))
theorem aC.aE9 {id:Nat} {t:τ} (h:iM P C is (.exit id) σ m (K t)):aC P C (.code (.exit id) :: is) σ m (some t) K:=fun t' ht => by
 injection ht with ht
 subst ht
 exact jR.exit h
theorem aC.ret {t:τ} (h:K t .ret σ m):aC P C (.code .ret :: is) σ m (some t) K:=fun t' ht => by
 injection ht with ht
 subst ht
 exact jR.ret (iM.TD h)
theorem aC.nil {t:τ} (h:K t .normal σ m):aC P C [] σ m (some t) K:=fun t' ht => by
 injection ht with ht
 subst ht
 exact jR.nil h
theorem aC.region {id:Nat} {l:List Oper} (h:aT P C l.toArray l is σ m M K):aC P C (.code (.region id l.toArray false) :: is) σ m M K:=fun t ht => jR.region (h t ht)
theorem aC.ent (h:aj P C σ m σ' m') (k:aC P C is σ' m' M K):aC P C is σ m M K:=fun t ht => iM.ent h (k t ht)
theorem aC.bind {x:Option υ} {f:υ → Option τ} (h:∀ u,x = some u → aC P C is σ m (f u) K):aC P C is σ m (x.bind f) K:=fun t ht => by
 obtain ⟨u,hu,hf⟩:=Option.bind_eq_some_iff.1 ht
 exact h u hu t hf
theorem aC.cond {c:Operand} {x y:Code} {b:Bool} {M1 M2:Option τ} (hc:fQ σ c (.s (.c (.pv (.sc (.bool b)))))) (ht:b = true → aC P C (.code x :: is) σ m M1 K)
  (hf:b = false → aC P C (.code y :: is) σ m M2 K):aC P C (.code (.cond c x y) :: is) σ m (bif b then M1 else M2) K:=fun t h => by
 refine jR.cond hc (fun hb => ?_) (fun hb => ?_)
 ·subst hb; exact ht rfl t h
 ·subst hb; exact hf rfl t h
theorem aC.split {b:Bool} {M1 M2:Option τ} (ht:b = true → aC P C is σ m M1 K) (hf:b = false → aC P C is σ m M2 K):aC P C is σ m (bif b then M1 else M2) K:=fun t h => by
 cases hb:b with
 | true => rw [hb] at h; exact ht hb t h
 | false => rw [hb] at h; exact hf hb t h
theorem aC.none:aC P C is σ m (none:Option τ) K:=fun t h => by cases h
theorem aT.nil (h:aC P C is σ m M K):aT P C ops [] is σ m M K:=fun t ht => vX.nil (h t ht)
theorem aT.bind {x:Option υ} {f:υ → Option τ} (h:∀ u,x = some u → aT P C ops rest is σ m (f u) K):aT P C ops rest is σ m (x.bind f) K:=fun t ht => by
 obtain ⟨u,hu,hf⟩:=Option.bind_eq_some_iff.1 ht
 exact h u hu t hf
theorem aT.split {b:Bool} {M1 M2:Option τ} (ht:b = true → aT P C ops rest is σ m M1 K) (hf:b = false → aT P C ops rest is σ m M2 K):aT P C ops rest is σ m (bif b then M1 else M2) K:=fun t h => by
 cases hb:b with
 | true => rw [hb] at h; exact ht hb t h
 | false => rw [hb] at h; exact hf hb t h
theorem aT.step {o:Oper} {ins:List (Operand × AV)} {us df:Mem} {v:AV} {W X:List Nat} (hlt:LT P o ins us v df W X) (hi:EvL σ ins) (hu:oV m us) (hg:gX ops σ o true)
  (hside:(gU C.N o.dst && fF W (X ++ keys df) && fF W (keys us) && fF (keys df) (X ++ W) && mY X C.pn) = true) (h:aT P C ops rest is (fB (lK X σ) o.dst v) (df ++ jV X m) M K):aT P C ops (o :: rest) is σ m M K :=
 fun t ht => vX.step hlt hi hu hg hside (h t ht)
theorem aT.skip {o:Oper} (hg:gX ops σ o false) (hd:gU C.N o.dst = true) (h:aT P C ops rest is (fB σ o.dst (.dW [])) m M K):aT P C ops (o :: rest) is σ m M K :=
 fun t ht => vX.skip hg hd (h t ht)
theorem Yj:∀ l:List Nat,l.any (List.elem · []) = false
 | [] => rfl
 | _ :: r => Yj r
theorem RY (x:CV):cO [] x = x:=by
 cases x with
 | fn f caps => show (bif caps.any (List.elem · []) then CV.junk else CV.fn f caps) = _; rw [Yj]; rfl
 | _ => rfl
theorem aAx (x:SV):qi [] x = x:=by
 cases x with
 | c x => simp [qi,RY]
 | agg cs => simp [qi,List.map_congr_left (fun x _ => RY x)]
theorem aID (x:AV):pK [] x = x:=by
 cases x with
 | s x => simp [pK,aAx]
 | dW xs => simp [pK,List.map_congr_left (fun x _ => aAx x)]
theorem aIG (x:Ob):lD [] x = x:=by
 cases x with
 | row e els => simp [lD,List.map_congr_left (fun x _ => RY x)]
 | fA e els => rfl
 | mp es => rfl
 | pool e rows => rfl
 | dh e p lens => rfl
 | lW e p q fs => rfl
 | unk => rfl
theorem NE (σ:Slots):lK [] σ = σ:=by
 unfold lK
 rw [List.map_congr_left (g:=id) fun p _ => by rw [aID]; rfl,List.map_id]
theorem H6:∀ m:Mem,jV [] m = m
 | [] => rfl
 | (n,o) :: r => by simp [jV,List.elem,aIG,H6 r]
theorem aT.pure {o:Oper} {ins:List (Operand × AV)} {us:Mem} {v:AV} (hlt:LT P o ins us v [] [] []) (hi:EvL σ ins) (hu:oV m us) (hg:gX ops σ o true)
  (hd:gU C.N o.dst = true) (h:aT P C ops rest is (fB σ o.dst v) m M K):aT P C ops (o :: rest) is σ m M K :=
 aT.step hlt hi hu hg (by rw [hd]; rfl) (by rw [NE,H6]; exact h)
theorem aC.join {c:Code} {M1:Option υ} {f:υ → Option τ} (S:υ → Slots × Mem) (h1:aC P C [.code c] σ m M1 fun t e σ' m' => e = .normal ∧ aj P C σ' m' (S t).1 (S t).2)
  (h2:∀ t,M1 = some t → aC P C is (S t).1 (S t).2 (f t) K):aC P C (.code c :: is) σ m (M1.bind f) K:=fun t ht R B g a w hs => by
 obtain ⟨u,hu,hf⟩:=Option.bind_eq_some_iff.1 ht
 refine wp_mono (h1 u hu R B g a w hs) fun e a w he => ?_
 obtain ⟨σ',m',R',B',g',hs',rfl,hent⟩:=he
 obtain ⟨R2,B2,g2,hs2⟩:=hent _ _ _ _ _ hs'
 exact h2 u hu t hf _ _ _ _ _ hs2
theorem jR.loop {σs:Type} {body:Code} (bm:σs → Option (σs ⊕ τ)) (S:σs → Slots × Mem) (Lv:τ → Post)
  (hb:∀ s,aC P C [.code body] (S s).1 (S s).2 (bm s) fun o e σ m => match o with
   | .inl s' => e = .normal ∧ aj P C σ m (S s').1 (S s').2
   | .inr t => e ≠ .normal ∧ Lv t e σ m)
  (t:τ) (hl:∀ e σ m,Lv t e σ m → iM P C is e σ m Q):∀ (n:Nat) (s:σs),bW bm n s = some t → jR P C (.code (.loop body) :: is) (S s).1 (S s).2 Q:=by
 intro n s hM R B g a w hs
 refine wp_loop_rounds n ?_
 induction n generalizing s R B g a w with
 | zero => cases hM
 | succ n ih =>
  rw [rounds_succ]
  unfold bW at hM
  cases hbs:bm s with
  | none => rw [hbs] at hM; cases hM
  | some o =>
   rw [hbs] at hM
   refine wp_mono (hb s o hbs R B g a w hs) fun e a' w' he => ?_
   obtain ⟨σ',m',R',B',g',hs',hp⟩:=he
   cases o with
   | inl s' =>
    obtain ⟨rfl,hent⟩:=hp
    obtain ⟨R2,B2,g2,hs2⟩:=hent _ _ _ _ _ hs'
    exact ih s' hM _ _ _ _ _ hs2
   | inr t' =>
    obtain ⟨hne,hlv⟩:=hp
    change some t' = some t at hM
    injection hM with hM
    subst hM
    have hk:=hl e σ' m' hlv _ _ _ _ _ hs'
    cases e with
    | normal => exact absurd rfl hne
    | _ => exact hk
theorem aC.loop {σs:Type} {body:Code} (bm:σs → Option (σs ⊕ υ)) (S:σs → Slots × Mem) (Lv:υ → Post) {f:υ → Option τ} {n:Nat} {s:σs}
  (hb:∀ s,aC P C [.code body] (S s).1 (S s).2 (bm s) fun o e σ m => match o with
   | .inl s' => e = .normal ∧ aj P C σ m (S s').1 (S s').2
   | .inr t => e ≠ .normal ∧ Lv t e σ m)
  (h0:aj P C σ m (S s).1 (S s).2) (hl:∀ u e σ m,bW bm n s = some u → Lv u e σ m → aDd P C is e σ m (f u) K):aC P C (.code (.loop body) :: is) σ m ((bW bm n s).bind f) K:=fun t ht => by
 obtain ⟨u,hu,hf⟩:=Option.bind_eq_some_iff.1 ht
 exact iM.ent h0 (jR.loop bm S Lv hb u (fun e σ m hlv => hl u e σ m hu hlv t hf) n s hu)
end
end
section
abbrev iC (n:Int):CV:=.pv (.sc (.int .i64 n))
abbrev bC (b:Bool):CV:=.pv (.sc (.bool b))
abbrev sC (v:Value):CV:=.pv (.sc v)
abbrev Cc (x:CV):AV:=.s (.c x)
abbrev Ag (cs:List CV):AV:=.s (.agg cs)
abbrev Iv (n:Int):AV:=.s (.c (.pv (.sc (.int .i64 n))))
abbrev Bv (b:Bool):AV:=.s (.c (.pv (.sc (.bool b))))
abbrev Sv (v:Value):AV:=.s (.c (.pv (.sc v)))
abbrev aO:Value:=.slice none 0 0
def aB (n:Int):Int:=IntKind.i64.wrap n
theorem Fz {n:Int} (h1:-9223372036854775808 ≤ n) (h2:n ≤ 9223372036854775807):aB n = n:=by
 unfold aB; rw [IntKind.wrap_i64]; omega
theorem mJ {P:Program} {w:World} {R B:Nat → Prop} {g:Nat → GS} {c v:Value} (h:RA P w R B g (.s (.c (.pv (.sc c)))) v):v = c:=by
 obtain ⟨_,h2⟩:=h
 cases h2
 rfl
theorem qx {P:Program} {w:World} {R B:Nat → Prop} {g:Nat → GS} {c:Value} (h:c.oneCell' = true):RA P w R B g (.s (.c (.pv (.sc c)))) c:=⟨h,.sc h⟩
theorem iH.refl {R B:Nat → Prop} {g:Nat → GS} {w:World} (h:WF R B g w):iH R B g w [] [] R B g w :=
 ⟨h,fun _ h => h,fun _ h => h,rfl,rfl,rfl,Nat.le_refl _,fun _ _ _ => rfl,fun _ _ => rfl,fun n hn => (by cases hn),fun n hn => (by cases hn)⟩
section
variable {P:Program} {o:Oper} {us:Mem}
theorem LT.calm {ins:List (Operand × AV)} {v:AV}
  (h:∀ R B g w (a:Act),WF R B g w → (∀ p ∈ ins,RA P w R B g p.2 (a.eval p.1)) → (∀ p ∈ us,RO P w R B g p.1 p.2) → ∃ u,(execOp a.eval o).run P w = .ok (.value u) w ∧ RA P w R B g v u):LT P o ins us v [] [] []:=by
 intro R B g w a hw hi hu K Q hK
 obtain ⟨u,hr,hv⟩:=h R B g w a hw hi hu
 unfold Oper.wp
 rw [hr]
 exact hK u R B g w (.refl hw) (fun b hb => .inl hb) (fun _ => hv) (fun p hp => by cases hp)
theorem in1 {P:Program} {w:World} {R B:Nat → Prop} {g:Nat → GS} {a:Act} {x:Operand} {v:AV} {r:List (Operand × AV)} (h:∀ p ∈ (x,v) :: r,RA P w R B g p.2 (a.eval p.1)):RA P w R B g v (a.eval x):=h (x,v) List.mem_cons_self
theorem in2 {P:Program} {w:World} {R B:Nat → Prop} {g:Nat → GS} {a:Act} {x y:Operand} {v u:AV} {r:List (Operand × AV)} (h:∀ p ∈ (x,v) :: (y,u) :: r,RA P w R B g p.2 (a.eval p.1)):RA P w R B g u (a.eval y):=h (y,u) (List.mem_cons_of_mem _ List.mem_cons_self)
theorem xW {P:Program} {w:World} {R B:Nat → Prop} {g:Nat → GS} {n:Nat} {ob:Ob} {r:Mem} (h:∀ p ∈ (n,ob) :: r,RO P w R B g p.1 p.2):RO P w R B g n ob:=h (n,ob) List.mem_cons_self
theorem us2 {P:Program} {w:World} {R B:Nat → Prop} {g:Nat → GS} {n k:Nat} {ob oc:Ob} {r:Mem} (h:∀ p ∈ (n,ob) :: (k,oc) :: r,RO P w R B g p.1 p.2):RO P w R B g k oc:=h (k,oc) (List.mem_cons_of_mem _ List.mem_cons_self)
theorem LT.move {x:Operand} {v:AV} (ho:o.op = .move x):LT P o [(x,v)] [] v [] [] []:=.calm fun R B g w a _ hi _ => ⟨a.eval x,by simp [execOp,ho],in1 hi⟩
theorem LT.assign {x:Operand} {v:AV} (ho:o.op = .assign x):LT P o [(x,v)] [] v [] [] []:=.calm fun R B g w a _ hi _ => ⟨a.eval x,by simp [execOp,ho],in1 hi⟩
theorem LT.pU {c x y:Operand} {v:AV} {b:Bool} (ho:o.op = .pick c x y) (hb:b = true):LT P o [(c,Bv b),(x,v)] [] v [] [] []:=.calm fun R B g w a _ hi _ =>
 ⟨a.eval x,by simp [execOp,ho,mJ (in1 hi),hb,asBool],in2 hi⟩
theorem LT.wO {c x y:Operand} {v:AV} {b:Bool} (ho:o.op = .pick c x y) (hb:b = false):LT P o [(c,Bv b),(y,v)] [] v [] [] []:=.calm fun R B g w a _ hi _ =>
 ⟨a.eval y,by simp [execOp,ho,mJ (in1 hi),hb,asBool],in2 hi⟩
theorem LT.bin {op:BinOp} {t t':TypeId} {x y:Operand} {k k':IntKind} {m n:Int} {r:Value} (ho:o.op = .binOp op t x y t') (hr:r.oneCell' = true) (h:binOp op t (.int k m) (.int k' n) = pure r) :
  LT P o [(x,Sv (.int k m)),(y,Sv (.int k' n))] [] (Sv r) [] [] []:=.calm fun R B g w a _ hi _ =>
 ⟨r,by simp [execOp,ho,mJ (in1 hi),mJ (in2 hi),eqGuard_at_int,h],qx hr⟩
section
variable {t t':TypeId} {x y:Operand} {k:IntKind} {m n:Int}
theorem LT.add (ho:o.op = .binOp .add t x y t'):LT P o [(x,Iv m),(y,Iv n)] [] (Iv (aB (m + n))) [] [] []:=.bin ho rfl (by rw [binOp_add]; rfl)
theorem LT.sub (ho:o.op = .binOp .sub t x y t'):LT P o [(x,Iv m),(y,Iv n)] [] (Iv (aB (m - n))) [] [] []:=.bin ho rfl (by rw [binOp_sub]; rfl)
theorem LT.mul (ho:o.op = .binOp .mul t x y t'):LT P o [(x,Iv m),(y,Iv n)] [] (Iv (aB (m * n))) [] [] []:=.bin ho rfl (by rw [binOp_mul]; rfl)
theorem LT.quo (ho:o.op = .binOp .quo t x y t') (hn:n ≠ 0):LT P o [(x,Iv m),(y,Iv n)] [] (Iv (aB (m.tdiv n))) [] [] []:=.bin ho rfl (by rw [binOp_quo]; simp [Op.intDiv,hn]; rfl)
theorem LT.rem (ho:o.op = .binOp .rem t x y t') (hn:n ≠ 0):LT P o [(x,Iv m),(y,Iv n)] [] (Iv (m.tmod n)) [] [] []:=.bin ho rfl (by rw [binOp_rem]; simp [Op.intDiv,hn])
theorem LT.lss (ho:o.op = .binOp .lss t x y t'):LT P o [(x,Sv (.int k m)),(y,Sv (.int k n))] [] (Bv (decide (m < n))) [] [] []:=.bin ho rfl (binOp_lss ..)
theorem LT.leq (ho:o.op = .binOp .leq t x y t'):LT P o [(x,Sv (.int k m)),(y,Sv (.int k n))] [] (Bv (decide (m ≤ n))) [] [] []:=.bin ho rfl (binOp_leq ..)
theorem LT.gtr (ho:o.op = .binOp .gtr t x y t'):LT P o [(x,Sv (.int k m)),(y,Sv (.int k n))] [] (Bv (decide (n < m))) [] [] []:=.bin ho rfl (binOp_gtr ..)
theorem LT.geq (ho:o.op = .binOp .geq t x y t'):LT P o [(x,Sv (.int k m)),(y,Sv (.int k n))] [] (Bv (decide (n ≤ m))) [] [] []:=.bin ho rfl (binOp_geq ..)
theorem LT.eql (ho:o.op = .binOp .eql t x y t'):LT P o [(x,Sv (.int k m)),(y,Sv (.int k n))] [] (Bv (m == n)) [] [] []:=.bin ho rfl (binOp_eql ..)
theorem LT.neq (ho:o.op = .binOp .neq t x y t'):LT P o [(x,Sv (.int k m)),(y,Sv (.int k n))] [] (Bv (m != n)) [] [] []:=.bin ho rfl (binOp_neq ..)
theorem LT.and (ho:o.op = .binOp .and t x y t'):LT P o [(x,Sv (.int k m)),(y,Sv (.int k n))] [] (Sv (.int k (bits .and k m n))) [] [] []:=.bin ho rfl (by rw [binOp_and]; rfl)
theorem LT.xor (ho:o.op = .binOp .xor t x y t'):LT P o [(x,Sv (.int k m)),(y,Sv (.int k n))] [] (Sv (.int k (bits .xor k m n))) [] [] []:=.bin ho rfl (by rw [binOp_xor]; rfl)
def qy (m n:Int):Int:=m.fdiv (2 ^ (min n.toNat 64))
theorem LT.shr {k':IntKind} (ho:o.op = .binOp .shr t x y t') (hn:0 ≤ n):LT P o [(x,Iv m),(y,Sv (.int k' n))] [] (Iv (qy m n)) [] [] []:=.bin ho rfl (by
 rw [binOp_shr]; simp [Op.shift,qy,IntKind.bits]; omega)
theorem LT.neg (ho:o.op = .unOp .neg t x):LT P o [(x,Iv m)] [] (Iv (aB (-m))) [] [] []:=.calm fun R B g w a _ hi _ =>
 ⟨.int .i64 (aB (-m)),by simp [execOp,ho,mJ (in1 hi),Op.unary,Op.intArith,aB],qx rfl⟩
theorem LT.not {b:Bool} (ho:o.op = .unOp .not t x):LT P o [(x,Bv b)] [] (Bv (!b)) [] [] []:=.calm fun R B g w a _ hi _ =>
 ⟨.bool (!b),by simp [execOp,ho,mJ (in1 hi),Op.unary],qx rfl⟩
theorem LT.yw {k':IntKind} {s d:TypeId} (ho:o.op = .convert s d x) (hs:(P.underlying s).isSome = true) (hd:P.underlying d = some (.int k')):LT P o [(x,Sv (.int k m))] [] (Sv (.int k' (k'.wrap m))) [] [] []:=.calm fun R B g w a _ hi _ =>
 ⟨.int k' (k'.wrap m),by
  obtain ⟨ds,hds⟩:=Option.isSome_iff_exists.mp hs
  simp [execOp,ho,mJ (in1 hi),convert,run_underlying hds,run_underlying hd,Conv.intToInt],qx rfl⟩
end
theorem run_equal_bool {P:Program} {t:TypeId} (ht:P.underlying t = some .bool) (b c:Bool) (w:World):(Op.equal t (.bool b) (.bool c)).run P w = .ok (b == c) w:=by
 have h:∀ d:Nat,(Op.equalIn (d + 1) t (.bool b) (.bool c)).run P w = .ok (b == c) w:=fun d => by simp [Op.equalIn,run_underlying ht]
 exact h 9999
theorem LT.ug {t t':TypeId} {x y:Operand} {b c:Bool} (ho:o.op = .binOp .eql t x y t') (ht:P.underlying t = some .bool):LT P o [(x,Bv b),(y,Bv c)] [] (Bv (b == c)) [] [] []:=.calm fun R B g w a _ hi _ =>
 ⟨.bool (b == c),by simp [execOp,ho,mJ (in1 hi),mJ (in2 hi),eqGuard_at_bool,binOp,run_equal_bool ht],qx rfl⟩
theorem LT.aIf {t t':TypeId} {x y:Operand} {b c:Bool} (ho:o.op = .binOp .neq t x y t') (ht:P.underlying t = some .bool):LT P o [(x,Bv b),(y,Bv c)] [] (Bv (b != c)) [] [] []:=.calm fun R B g w a _ hi _ =>
 ⟨.bool (b != c),by simp [execOp,ho,mJ (in1 hi),mJ (in2 hi),eqGuard_at_bool,binOp,run_equal_bool ht,bne],qx rfl⟩
theorem LT.Uz {t t':TypeId} {x y:Operand} {b c:ByteArray} (ho:o.op = .binOp .eql t x y t'):LT P o [(x,Sv (.string b)),(y,Sv (.string c))] [] (Bv (b.toList == c.toList)) [] [] []:=.calm fun R B g w a _ hi _ =>
 ⟨.bool (b.toList == c.toList),by simp [execOp,ho,mJ (in1 hi),mJ (in2 hi),eqGuard_at_string,binOp,Op.stringOp],qx rfl⟩
theorem LT.FU {t t':TypeId} {x y:Operand} {b c:ByteArray} (ho:o.op = .binOp .neq t x y t'):LT P o [(x,Sv (.string b)),(y,Sv (.string c))] [] (Bv (!(b.toList == c.toList))) [] [] []:=.calm fun R B g w a _ hi _ =>
 ⟨.bool (!(b.toList == c.toList)),by simp [execOp,ho,mJ (in1 hi),mJ (in2 hi),eqGuard_at_string,binOp,Op.stringOp],qx rfl⟩
theorem LT.aIM {x:Operand} {t e:TypeId} {q:Bool} {els:List (List PV)} (ho:o.op = .call { callee:=.builtin .len,args:=#[x],argTypes:=#[t] }) (ht:P.underlying t = some (.slice e)) :
  LT P o [(x,Cc (.pv (.xs q els)))] [] (Iv els.length) [] [] []:=.calm fun R B g w a _ hi _ => by
 obtain ⟨_,h⟩:=in1 hi
 generalize hx:a.eval x = v at h
 cases h with
 | emp => exact ⟨.int .i64 0,by simp [execOp,ho,resolve,invoke,builtin,hx,Builtin.len_,run_underlying ht,goInt],qx rfl⟩
 | xs val hn hq hc hs hv hr => subst hn; exact ⟨.int .i64 els.length,by simp [execOp,ho,resolve,invoke,builtin,hx,Builtin.len_,run_underlying ht,goInt],qx rfl⟩
theorem LT.mM {x:Operand} {t e:TypeId} {n off len:Nat} (ho:o.op = .call { callee:=.builtin .len,args:=#[x],argTypes:=#[t] }) (ht:P.underlying t = some (.slice e)) :
  LT P o [(x,Cc (.loc n off len))] [] (Iv len) [] [] []:=.calm fun R B g w a _ hi _ => by
 obtain ⟨_,h⟩:=in1 hi
 refine ⟨.int .i64 len,?_,qx rfl⟩
 rcases h with ⟨_,_,rfl,h⟩ | ⟨rfl,_,_,_,h⟩ | ⟨b,cap,cur,e',_,_,_,_,_,h⟩ <;> simp [execOp,ho,resolve,invoke,builtin,h,Builtin.len_,run_underlying ht,goInt]
theorem LT.lenStr {x:Operand} {t:TypeId} {s:ByteArray} (ho:o.op = .call { callee:=.builtin .len,args:=#[x],argTypes:=#[t] }) (ht:P.underlying t = some .string):LT P o [(x,Sv (.string s))] [] (Iv s.size) [] [] []:=.calm fun R B g w a _ hi _ =>
 ⟨.int .i64 s.size,by simp [execOp,ho,resolve,invoke,builtin,mJ (in1 hi),Builtin.len_,run_underlying ht,goInt],qx rfl⟩
theorem LT.min {x y:Operand} {ts:Array TypeId} {m n:Int} (ho:o.op = .call { callee:=.builtin .min,args:=#[x,y],argTypes:=ts }):LT P o [(x,Iv m),(y,Iv n)] [] (Iv (if n < m then n else m)) [] [] []:=.calm fun R B g w a _ hi _ =>
 ⟨.int .i64 (if n < m then n else m),by simp [execOp,ho,resolve,invoke,builtin,mJ (in1 hi),mJ (in2 hi),Builtin.min_,Builtin.min2],qx rfl⟩
theorem LT.max {x y:Operand} {ts:Array TypeId} {m n:Int} (ho:o.op = .call { callee:=.builtin .max,args:=#[x,y],argTypes:=ts }):LT P o [(x,Iv m),(y,Iv n)] [] (Iv (if m < n then n else m)) [] [] []:=.calm fun R B g w a _ hi _ =>
 ⟨.int .i64 (if m < n then n else m),by simp [execOp,ho,resolve,invoke,builtin,mJ (in1 hi),mJ (in2 hi),Builtin.max_,Builtin.max2],qx rfl⟩
theorem LT.extract {x:Operand} {k:Nat} {vs:List SV} {v:SV} (ho:o.op = .extract x k) (hk:vs[k]? = some v):LT P o [(x,.dW vs)] [] (.s v) [] [] []:=.calm fun R B g w a _ hi _ => by
 obtain ⟨us,hx,hl,h⟩:=in1 hi
 obtain ⟨u,hu,hr⟩:=h k v hk
 exact ⟨u,by simp [execOp,ho,hx,Instr.extract,hu],hr⟩
theorem LT.zH {x:Operand} {n off:Nat} (ho:o.op = .nilCheck x):LT P o [(x,Cc (.pl n off))] [] (Cc (.pl n off)) [] [] []:=.calm fun R B g w a _ hi _ => by
 obtain ⟨h1,b,h2,h3⟩:=in1 hi
 exact ⟨a.eval x,by simp [execOp,ho,h3],h1,b,h2,h3⟩
def rO (P:Program) (t:TypeId) (i:Nat):Option Nat :=
 match P.underlying t with
 | some (.struct fs) => match fs[i]? with
  | some f => match P.info? f.type with
   | some j => if j.size = 0 then none else some f.offset
   | none => none
  | none => none
 | _ => none
theorem aCJ {t:TypeId} {i off:Nat} (h:rO P t i = some off) (a:Addr) (w:World):(Instr.fieldAt t (.pointer (some a)) i).run P w = .ok (.pointer (some (a.add off))) w:=by
 unfold rO at h
 split at h
 ·rename_i fs hf
  split at h
  ·rename_i f hfi
   split at h
   ·rename_i j hj
    split at h
    ·cases h
    ·rename_i h0
     injection h with h
     subst h
     simp [Instr.fieldAt,run_underlying hf,hfi,Instr.sureAddr,fieldPlace,sizeOf,typeInfo,hj,h0]
   ·cases h
  ·cases h
 ·cases h
theorem add_lit (b i n:Nat):(⟨b,i,none⟩:Addr).add n = ⟨b,i + n,none⟩:=Addr.add_lit b i n
theorem add_add (a:Addr) (i j:Nat):(a.add i).add j = a.add (i + j):=by
 unfold Addr.add
 by_cases hi:i = 0 <;> by_cases hj:j = 0 <;> simp [hi,hj,Nat.add_assoc]
theorem LT.eu {x:Operand} {t:TypeId} {i n off d:Nat} (ho:o.op = .fieldAddr t x i) (h:rO P t i = some d):LT P o [(x,Cc (.pl n off))] [] (Cc (.pl n (off + d))) [] [] []:=.calm fun R B g w a _ hi _ => by
 obtain ⟨_,b,h2,h3⟩:=in1 hi
 exact ⟨.pointer (some ⟨b,off + d,none⟩),by simp [execOp,ho,h3,aCJ h,add_lit],rfl,b,h2,rfl⟩
theorem LT.pF {x:Operand} {t:TypeId} {i d:Nat} {q:Bool} {cs:List PV} (ho:o.op = .fieldAddr t x i) (h:rO P t i = some d):LT P o [(x,Cc (.px q cs))] [] (Cc (.px q (cs.drop d))) [] [] []:=.calm fun R B g w a _ hi _ => by
 obtain ⟨_,ad,h2,h3,h4⟩:=in1 hi
 refine ⟨.pointer (some (ad.add d)),by simp [execOp,ho,h2,aCJ h],rfl,ad.add d,rfl,by rw [add_block]; exact h3,fun k p hk => ?_⟩
 rw [List.getElem?_drop] at hk
 rw [add_add]
 exact h4 _ p hk
theorem X3 {e:TypeId} {i:TypeInfo} (h:P.info? e = some i):bZ P e = i.size:=by simp [bZ,h]
theorem run_sizeOf {e:TypeId} {i:TypeInfo} (h:P.info? e = some i) (w:World):(sizeOf e).run P w = .ok (bZ P e) w:=by simp [sizeOf,typeInfo,h,X3 h]
def uP (P:Program) (t:TypeId):Option TypeId :=
 match P.underlying t with
 | some (.slice e) => if (P.info? e).isSome then some e else none
 | _ => none
theorem aE3 {t e:TypeId} (h:uP P t = some e):P.underlying t = some (.slice e) ∧ ∃ i,P.info? e = some i:=by
 unfold uP at h
 split at h
 ·rename_i e' he
  split at h
  ·rename_i hi
   injection h with h
   subst h
   exact ⟨he,Option.isSome_iff_exists.1 hi⟩
  ·cases h
 ·cases h
theorem run_indexAt {t e:TypeId} (h:uP P t = some e) (a:Addr) (len cap:Nat) (k:IntKind) (i:Int) (h0:0 ≤ i) (h1:i < len) (w:World) :
  (Instr.indexAt t (.slice (some a) len cap) (.int k i)).run P w = .ok (.pointer (some (a.add (i.toNat * bZ P e)))) w:=by
 obtain ⟨h2,j,h3⟩:=aE3 h
 simp [Instr.indexAt,run_underlying h2,asIntOf,h0,h1,run_sizeOf h3]
theorem LT.aHz {x y:Operand} {t e:TypeId} {i:Int} {q:Bool} {els:List (List PV)} {cs:List PV} (ho:o.op = .indexAddr t x y) (h:uP P t = some e) (h0:0 ≤ i) (hc:els[i.toNat]? = some cs) (hs:cs.length = bZ P e) :
  LT P o [(x,Cc (.pv (.xs q els))),(y,Iv i)] [] (Cc (.px q cs)) [] [] []:=.calm fun R B g w a _ hi _ => by
 have hy:=mJ (in2 hi)
 obtain ⟨_,h⟩:=in1 hi
 generalize hx:a.eval x = v at h
 cases h with
 | emp => cases hc
 | @xs _ _ ad c s n val hn hq hl hs' hv hr =>
  have hlt:i.toNat < els.length:=(List.getElem?_eq_some_iff.1 hc).1
  have hsz:s = bZ P e:=by rw [← hs]; exact (hs' cs (List.mem_of_getElem? hc)).symm
  subst hn
  refine ⟨.pointer (some (ad.add (i.toNat * bZ P e))),by simp [execOp,ho,hx,hy,run_indexAt h ad els.length c .i64 i h0 (by omega)],rfl,_,rfl,by rw [add_block]; exact hq,fun k p hk => ?_⟩
  rw [add_add,← hsz]
  exact ⟨_,hv _ _ _ _ hc hk,hr _ _ _ _ hc hk⟩
theorem LT.WV {x y:Operand} {t e:TypeId} {i:Int} {n len:Nat} {els:List (List CV)} (ho:o.op = .indexAddr t x y) (h:uP P t = some e) (h0:0 ≤ i) (h1:i < len) :
  LT P o [(x,Cc (.loc n 0 len)),(y,Iv i)] [(n,.row e els)] (Cc (.pl n (i.toNat * bZ P e))) [] [] []:=.calm fun R B g w a _ hi hu => by
 have hy:=mJ (in2 hi)
 obtain ⟨_,h2⟩:=in1 hi
 rcases h2 with ⟨_,_,rfl,_⟩ | ⟨rfl,_⟩ | ⟨b,cap,cur,e',k1,k2,k3,k4,k5,k6⟩
 ·omega
 ·omega
 ·have he:e' = e:=by
   rcases xW hu with ⟨h5,_⟩ | ⟨b',cur',h5,h6,_⟩
   ·rw [k1] at h5; cases h5
   ·rw [k1] at h5
    injection h5 with h5
    subst h5
    rw [k2] at h6
    injection h6 with h6
    injection h6
  subst he
  simp only [Nat.zero_mul] at k6
  exact ⟨.pointer (some ⟨b,i.toNat * bZ P e',none⟩),by simp [execOp,ho,k6,hy,run_indexAt h ⟨b,0,none⟩ len cap .i64 i h0 h1,add_lit],rfl,b,k1,rfl⟩
def kZ (P:Program) (t:TypeId):Option Bool :=
 match P.underlying t with
 | some (.struct _) | some (.array ..) => some true
 | some _ => some false
 | none => none
theorem Xf {t:TypeId} {b:Bool} (h:kZ P t = some b) (w:World):(isAgg t).run P w = .ok b w:=by
 unfold kZ at h
 split at h
 ·rename_i fs hf; injection h with h; subst h; simp [isAgg,run_underlying hf]
 ·rename_i n e hf; injection h with h; subst h; simp [isAgg,run_underlying hf]
 ·rename_i d h1 h2 hd
  injection h with h
  subst h
  simp only [isAgg,Sem.run_bind,run_underlying hd,Result.andThen_ok]
  rfl
 ·cases h
theorem Xg {t:TypeId} (h:kZ P t = some false) {a:Addr} {w:World} {v:Value} (hc:w.cell? a = some v):(Instr.loadAt t (.pointer (some a))).run P w = .ok v w:=by
 simp [Instr.loadAt,Instr.sureAddr,loadVar,Xf h,hc]
theorem aCK {t:TypeId} (h:kZ P t = some true) {i:TypeInfo} (hi:P.info? t = some i) {a:Addr} {w:World} {cs:List Value} (hl:cs.length = bZ P t) (hc:∀ j v,cs[j]? = some v → w.cell? (a.add j) = some v) :
  (Instr.loadAt t (.pointer (some a))).run P w = .ok (.agg cs.toArray) w:=by
 simp [Instr.loadAt,Instr.sureAddr,loadVar,Xf h,run_sizeOf hi,← hl,run_loadCells_list w a cs hc]
theorem LT.iq {x:Operand} {t:TypeId} {q:Bool} {p:PV} {cs:List PV} (ho:o.op = .load t x) (h:kZ P t = some false):LT P o [(x,Cc (.px q (p :: cs)))] [] (Cc (.pv p)) [] [] []:=.calm fun R B g w a _ hi _ => by
 obtain ⟨_,ad,h2,h3,h4⟩:=in1 hi
 obtain ⟨u,hu,hr⟩:=h4 0 p rfl
 have h0:ad.add 0 = ad:=Addr.add_zero' ad
 rw [h0] at hu
 exact ⟨u,by simp [execOp,ho,h2,Xg h hu],hr.oneCell,hr⟩
theorem QK {α:Type} {T:Value → Nat → Prop} {Rl:α → Value → Prop}:∀ (cs:List α) (off:Nat),(∀ k x,cs[k]? = some x → ∃ u,T u (off + k) ∧ Rl x u) → ∃ us:List Value,us.length = cs.length ∧ (∀ (k:Nat) u,us[k]? = some u → T u (off + k)) ∧ ∀ (k:Nat) x,cs[k]? = some x → ∃ u,us[k]? = some u ∧ Rl x u
 | [],_,_ => ⟨[],rfl,fun k u h => by simp at h,fun k x h => by simp at h⟩
 | c :: cs,off,h => by
  obtain ⟨u,hu,hr⟩:=h 0 c rfl
  obtain ⟨us,h1,h2,h3⟩:=QK cs (off + 1) fun k x hk => by
   have:=h (k + 1) x hk
   rwa [show off + (k + 1) = off + 1 + k by omega] at this
  refine ⟨u :: us,by simp [h1],fun k v hk => ?_,fun k x hk => ?_⟩
  ·cases k with
   | zero => simp at hk; subst hk; exact hu
   | succ k =>
    have:=h2 k v (by simpa using hk)
    rwa [show off + 1 + k = off + (k + 1) by omega] at this
  ·cases k with
   | zero => simp at hk; subst hk; exact ⟨u,rfl,hr⟩
   | succ k => exact h3 k x (by simpa using hk)
theorem LT.aIP {x:Operand} {t:TypeId} {q:Bool} {cs:List PV} (ho:o.op = .load t x) (h:kZ P t = some true) {i:TypeInfo} (hi:P.info? t = some i) (hl:cs.length = bZ P t) :
  LT P o [(x,Cc (.px q cs))] [] (Ag (cs.map .pv)) [] [] []:=.calm fun R B g w a _ hin _ => by
 obtain ⟨_,ad,h2,h3,h4⟩:=in1 hin
 obtain ⟨us,k1,k2,k3⟩:=QK (T:=fun u k => w.cell? (ad.add k) = some u) (Rl:=fun p u => jH w R B p u) cs 0 (fun k x hk => by simpa using h4 k x hk)
 refine ⟨.agg us.toArray,?_,us,rfl,by simpa using k1,fun k x hk => ?_⟩
 ·have:=aCK (P:=P) h hi (a:=ad) (w:=w) (cs:=us) (k1.trans hl) (fun j v hj => by simpa using k2 j v hj)
  simp [execOp,ho,h2,this]
 ·rw [List.getElem?_map] at hk
  cases hc:cs[k]? with
  | none => rw [hc] at hk; cases hk
  | some p =>
   rw [hc] at hk
   injection hk with hk
   subst hk
   obtain ⟨u,hu,hr⟩:=k3 k p hc
   exact ⟨u,hu,hr.oneCell,hr⟩
theorem DW {w:World} {b:Nat} {cur:Array Value} {e:TypeId} (h:w.heap[b]? = some (.cells cur e (0,0))) (i:Nat):w.cell? ⟨b,i,none⟩ = cur[i]?:=cell_of_row w b i cur e (0,0) h
theorem XK {w:World} {R B:Nat → Prop} {g:Nat → GS} {n:Nat} {e:TypeId} {els:List (List CV)} (h:RO P w R B g n (.row e els)) {b:Nat} (hb:g n = .blk b) {j:Nat} {cs:List CV} (hj:els[j]? = some cs) :
  cs.length = bZ P e ∧ ∀ k x,cs[k]? = some x → ∃ u,w.cell? ⟨b,j * bZ P e + k,none⟩ = some u ∧ RC P w R B g x u:=by
 rcases h with ⟨h1,_⟩ | ⟨b',cur,h1,h2,h3,h4,h5⟩
 ·rw [hb] at h1; cases h1
 ·rw [hb] at h1
  injection h1 with h1
  subst h1
  refine ⟨h3 cs (List.mem_of_getElem? hj),fun k x hk => ?_⟩
  obtain ⟨u,hu,hr⟩:=h5 j k cs x hj hk
  exact ⟨u,(DW h2 _).trans hu,hr⟩
theorem LT.Wq {x:Operand} {t e:TypeId} {n off j k:Nat} {els:List (List CV)} {cs:List CV} {c:CV} (ho:o.op = .load t x) (h:kZ P t = some false) (hj:els[j]? = some cs) (hk:cs[k]? = some c)
  (ha:off = j * bZ P e + k):LT P o [(x,Cc (.pl n off))] [(n,.row e els)] (Cc c) [] [] []:=.calm fun R B g w a _ hi hu => by
 obtain ⟨_,b,h2,h3⟩:=in1 hi
 obtain ⟨u,h4,h5⟩:=(XK (xW hu) h2 hj).2 k c hk
 subst ha
 exact ⟨u,by simp [execOp,ho,h3,Xg h h4],h5⟩
theorem LT.aBI {x:Operand} {t e:TypeId} {n off j k:Nat} {els:List (List CV)} {cs:List CV} (ho:o.op = .load t x) (h:kZ P t = some true) {i:TypeInfo} (hi:P.info? t = some i) (hj:els[j]? = some cs)
  (ha:off = j * bZ P e + k) (hl:((cs.drop k).take (bZ P t)).length = bZ P t):LT P o [(x,Cc (.pl n off))] [(n,.row e els)] (Ag ((cs.drop k).take (bZ P t))) [] [] []:=.calm fun R B g w a _ hin hu => by
 obtain ⟨_,b,h2,h3⟩:=in1 hin
 have hcell:=(XK (xW hu) h2 hj).2
 subst ha
 obtain ⟨us,k1,k2,k3⟩:=QK (T:=fun u i => w.cell? ⟨b,j * bZ P e + k + i,none⟩ = some u) (Rl:=fun p u => RC P w R B g p u) ((cs.drop k).take (bZ P t)) 0 (fun i x hx => by
  rw [List.getElem?_take] at hx
  split at hx
  ·rw [List.getElem?_drop] at hx
   obtain ⟨u,h4,h5⟩:=hcell _ x hx
   exact ⟨u,by simpa [Nat.add_assoc] using h4,h5⟩
  ·cases hx)
 refine ⟨.agg us.toArray,?_,us,rfl,by simpa using k1,k3⟩
 have:=aCK (P:=P) h hi (a:=⟨b,j * bZ P e + k,none⟩) (w:=w) (cs:=us) (k1.trans hl) (fun i v hv => by rw [add_lit]; simpa using k2 i v hv)
 simp [execOp,ho,h3,this]
end
end
section
def upd (g:Nat → GS) (n:Nat) (s:GS):Nat → GS:=fun k => if k = n then s else g k
theorem upd_same (g:Nat → GS) (n:Nat) (s:GS):upd g n s n = s:=by simp [upd]
theorem upd_ne (g:Nat → GS) {n k:Nat} (s:GS) (h:k ≠ n):upd g n s k = g k:=by simp [upd,h]
def TI (P:Program) (e:TypeId) (z:Value) (s b:Nat):Prop:=(P.info? e).map (fun i => (i.zero,i.size,i.bytes)) = some (some z,s,b)
theorem TI.parts {P:Program} {e:TypeId} {z:Value} {s b:Nat} (h:TI P e z s b):∃ i,P.info? e = some i ∧ i.zero = some z ∧ i.size = s ∧ i.bytes = b:=by
 unfold TI at h
 cases hi:P.info? e with
 | none => rw [hi] at h; cases h
 | some i =>
  rw [hi] at h
  injection h with h
  injection h with h1 h2
  injection h2 with h2 h3
  exact ⟨i,rfl,h1,h2,h3⟩
theorem TI.sz {P:Program} {e:TypeId} {z:Value} {s b:Nat} (h:TI P e z s b):bZ P e = s:=by
 obtain ⟨i,h1,_,h3,_⟩:=h.parts
 rw [X3 h1,h3]
def vY:Nat:=2147483648
def kR:SV → List CV
 | .c x => [x]
 | .agg cs => cs
def ow {α:Type} (l:List α) (k:Nat) (ys:List α):List α:=l.take k ++ ys ++ l.drop (k + ys.length)
theorem SI {α:Type} (l:List α) (k:Nat) (ys:List α) (h:k + ys.length ≤ l.length):(ow l k ys).length = l.length:=by
 simp [ow]; omega
theorem SH {α:Type} (l:List α) (k:Nat) (ys:List α) (h:k + ys.length ≤ l.length) (i:Nat) (h1:k ≤ i) (h2:i < k + ys.length):(ow l k ys)[i]? = ys[i - k]?:=by
 have hk:(l.take k).length = k:=by simp; omega
 unfold ow
 rw [List.append_assoc,List.getElem?_append_right (by omega),hk,List.getElem?_append_left (by omega)]
theorem OO {α:Type} (l:List α) (k:Nat) (ys:List α) (h:k + ys.length ≤ l.length) (i:Nat) (h1:i < k ∨ k + ys.length ≤ i):(ow l k ys)[i]? = l[i]?:=by
 have hk:(l.take k).length = k:=by simp; omega
 unfold ow
 rcases h1 with h1 | h1
 ·rw [List.append_assoc,List.getElem?_append_left (by omega),List.getElem?_take,if_pos h1]
 ·rw [List.getElem?_append_right (by simp; omega),List.getElem?_drop]
  congr 1
  simp
  omega
theorem aIb {j j' s k k':Nat} (hk:k < s) (hk':k' < s) (h:j ≠ j'):j * s + k ≠ j' * s + k':=by
 rcases Nat.lt_or_gt_of_ne h with h1 | h1
 ·have:=Nat.mul_le_mul_right s h1
  rw [Nat.succ_mul] at this
  omega
 ·have:=Nat.mul_le_mul_right s h1
  rw [Nat.succ_mul] at this
  omega
section
variable {P:Program} {w:World} {R B:Nat → Prop} {g:Nat → GS}
theorem WF.mono {w':World} (h:WF R B g w) (hs:w.heap.size ≤ w'.heap.size):WF R B g w' :=
 ⟨h.rb,fun b hb => Nat.lt_of_lt_of_le (h.lt b hb) hs,fun n b hb => ⟨(h.jZ n b hb).1,Nat.lt_of_lt_of_le (h.jZ n b hb).2 hs⟩,h.jk,h.nd⟩
theorem WF.upd {w':World} (h:WF R B g w) (n:Nat) (s:GS) (hsz:w.heap.size ≤ w'.heap.size) (hs:∀ b,s.has b → ¬ B b ∧ b < w'.heap.size ∧ ∀ m,m ≠ n → ¬ (g m).has b)
  (hnd:∀ j k b,s.at j = .blk b → s.at k = .blk b → j = k):WF R B (upd g n s) w' where
 rb:=h.rb
 lt b hb:=Nat.lt_of_lt_of_le (h.lt b hb) hsz
 jZ k b hk:=by
  by_cases hkn:k = n
  ·subst hkn
   rw [upd_same] at hk
   exact ⟨(hs b hk).1,(hs b hk).2.1⟩
  ·rw [upd_ne g _ hkn] at hk
   have:=h.jZ k b hk
   exact ⟨this.1,by omega⟩
 jk k m b hk hm:=by
  by_cases hkn:k = n <;> by_cases hmn:m = n
  ·rw [hkn,hmn]
  ·subst hkn
   rw [upd_same] at hk
   rw [upd_ne g _ hmn] at hm
   exact absurd hm ((hs b hk).2.2 m hmn)
  ·subst hmn
   rw [upd_same] at hm
   rw [upd_ne g _ hkn] at hk
   exact absurd hk ((hs b hm).2.2 k hkn)
  ·rw [upd_ne g _ hkn] at hk
   rw [upd_ne g _ hmn] at hm
   exact h.jk k m b hk hm
 nd k i j b hi hj:=by
  by_cases hkn:k = n
  ·subst hkn
   rw [upd_same] at hi hj
   exact hnd i j b hi hj
  ·rw [upd_ne g _ hkn] at hi hj
   exact h.nd k i j b hi hj
theorem GS.aBW {c:Nat}:∀ j k b,(GS.blk c).at j = .blk b → (GS.blk c).at k = .blk b → j = k:=fun j k b h => by cases h
theorem WF.alloc (h:WF R B g w) (n:Nat) (o:Obj):WF R B (Go.Fw.upd g n (.blk w.heap.size)) (w.alloc o) :=
 h.upd n _ (by simp) (fun b hb => by
  have hb:b = w.heap.size:=hb
  subst hb
  exact ⟨fun hB => Nat.lt_irrefl _ (h.lt _ hB),by simp,fun m _ hm => Nat.lt_irrefl _ (h.jZ m _ hm).2⟩) GS.aBW
theorem iH.alloc (h:WF R B g w) (n:Nat) (o:Obj):iH R B g w [] [n] R B (upd g n (.blk w.heap.size)) (w.alloc o) where
 wf:=h.alloc n o
 r _ h:=h
 b _ h:=h
 os:=rfl
 tape:=rfl
 output:=rfl
 size:=by simp
 heap b hb _:=Go.RowKit.Below.heap_alloc w o b hb
 names k hk:=upd_ne g _ (by simpa using hk)
 fresh k hk b hb:=by
  have:k = n:=by simpa using hk
  subst this
  rw [upd_same] at hb
  have hb:b = w.heap.size:=hb
  exact .inl (by omega)
 shape k hk:=by cases hk
def rH (P:Program) (w:World) (R B:Nat → Prop) (g:Nat → GS) (cs:List CV) (vs:List Value):Prop:=vs.length = cs.length ∧ ∀ (k:Nat) x,cs[k]? = some x → ∃ u,vs[k]? = some u ∧ RC P w R B g x u
theorem rH.one {cs:List CV} {vs:List Value} (h:rH P w R B g cs vs):∀ v ∈ vs,v.oneCell' = true:=fun v hv => by
 obtain ⟨k,hk⟩:=List.getElem?_of_mem hv
 have hlt:k < cs.length:=by rw [← h.1]; exact (List.getElem?_eq_some_iff.1 hk).1
 obtain ⟨u,hu,hr⟩:=h.2 k cs[k] (List.getElem?_eq_getElem hlt)
 rw [hk] at hu
 injection hu with hu
 subst hu
 exact hr.1
theorem RS.cells {x:SV} {v:Value} (h:RS P w R B g x v):rH P w R B g (kR x) v.cells.toList:=by
 cases x with
 | c x =>
  have h1:=h.1
  have:v.cells = #[v]:=by cases v <;> first | rfl | cases h1
  rw [this]
  exact ⟨rfl,fun k y hk => by
   cases k with
   | zero => simp [kR] at hk; subst hk; exact ⟨v,rfl,h⟩
   | succ k => simp [kR] at hk⟩
 | agg cs =>
  obtain ⟨vs,rfl,h1,h2⟩:=h
  exact ⟨by simpa [Value.cells,kR] using h1,fun k y hk => by simpa [Value.cells] using h2 k y hk⟩
theorem TP {vs:List Value} (h:vs.all (·.oneCell') = true):rH P w R B g (vs.map sC) vs:=⟨by simp,fun k x hk => by
 rw [List.getElem?_map] at hk
 cases hv:vs[k]? with
 | none => rw [hv] at hk; cases hk
 | some v =>
  rw [hv] at hk
  injection hk with hk
  subst hk
  have:=List.all_eq_true.1 h v (List.mem_of_getElem? hv)
  exact ⟨v,rfl,this,.sc this⟩⟩
theorem rH.keep {cs:List CV} {vs:List Value} (h:rH P w R B g cs vs) {R' B':Nat → Prop} {g':Nat → GS} {w':World} {W X:List Nat} (had:iH R B g w W X R' B' g' w') (hw:WF R B g w):rH P w' R' B' g' (cs.map (cO X)) vs :=
 ⟨by simpa using h.1,fun k x hk => by
  rw [List.getElem?_map] at hk
  cases hc:cs[k]? with
  | none => rw [hc] at hk; cases hk
  | some y =>
   rw [hc] at hk
   injection hk with hk
   subst hk
   obtain ⟨u,hu,hr⟩:=h.2 k y hc
   exact ⟨u,hu,had.rc hw hr⟩⟩
theorem LT.newVar {o:Oper} {ins:List (Operand × AV)} {us:Mem} {t:TypeId} {n:Nat} {cs:List CV} (hl:cs.length = bZ P t)
  (h:∀ R B g w (a:Act),WF R B g w → (∀ p ∈ ins,RA P w R B g p.2 (a.eval p.1)) → (∀ p ∈ us,RO P w R B g p.1 p.2) → ∃ vs:List Value,rH P w R B g cs vs ∧ (execOp a.eval o).run P w = .ok (.value (.pointer (some ⟨w.heap.size,0,none⟩))) (w.alloc (.cells vs.toArray t))) :
  LT P o ins us (Cc (.pl n 0)) [(n,.row t [cs.map (cO [n])])] [] [n]:=by
 intro R B g w a hw hi hu K Q hK
 obtain ⟨vs,hrel,hr⟩:=h R B g w a hw hi hu
 unfold Oper.wp
 rw [hr]
 have had:=iH.alloc hw n (.cells vs.toArray t)
 have hk:=hrel.keep had hw
 refine hK _ _ _ _ _ had (fun b hb => .inl hb) (fun _ => ⟨rfl,w.heap.size,upd_same ..,rfl⟩) (fun p hp => ?_)
 have:p = (n,.row t [cs.map (cO [n])]):=by simpa using hp
 subst this
 refine .inr ⟨w.heap.size,vs.toArray,upd_same ..,heap_alloc_new w _,fun c hc => ?_,?_,fun j k c x hj hx => ?_⟩
 ·have:c = cs.map (cO [n]):=by simpa using hc
  subst this
  simpa using hl
 ·simp only [List.length_singleton,Nat.one_mul,List.size_toArray,hrel.1]
  omega
 ·cases j with
  | zero =>
   simp at hj
   subst hj
   obtain ⟨u,hu,hr⟩:=hk.2 k x hx
   exact ⟨u,by simpa using hu,hr⟩
  | succ j => simp at hj
theorem LT.alloc {o:Oper} {t:TypeId} {n s b:Nat} {z:Value} {cells:List CV} (ho:o.op = .alloc t) (ht:TI P t z s b) (hc:z.cells.toList.map sC = cells) (h1:z.cells.toList.all (·.oneCell') = true) (hl:cells.length = s) :
  LT P o [] [] (Cc (.pl n 0)) [(n,.row t [cells.map (cO [n])])] [] [n] :=
 .newVar (by rw [ht.sz]; exact hl) fun R B g w a _ _ _ => by
  obtain ⟨i,hi,hz,_⟩:=ht.parts
  refine ⟨z.cells.toList,by rw [← hc]; exact TP h1,?_⟩
  simp [execOp,ho,Instr.alloc,zeroValue,typeInfo,hi,hz,Go.newVar,newRow]
theorem LT.box {o:Oper} {t:TypeId} {n s:Nat} {x:Operand} {v:SV} (ho:o.op = .box t x) (hs:bZ P t = s) (hl:(kR v).length = s):LT P o [(x,.s v)] [] (Cc (.pl n 0)) [(n,.row t [(kR v).map (cO [n])])] [] [n] :=
 .newVar (by rw [hs]; exact hl) fun R B g w a _ hi _ => by
  have h:=in1 hi
  refine ⟨(a.eval x).cells.toList,RS.cells h,?_⟩
  simp [execOp,ho,Instr.box,Go.newVar,newRow]
def EN (place:Nat → Option (Nat × Nat)) (cells:List CV):List (Nat × SV) → Option (List CV)
 | [] => some cells
 | (i,v) :: rest => match place i with
  | none => none
  | some (off,size) => if (kR v).length ≠ size ∨ off + (kR v).length > cells.length then none else EN place (ow cells off (kR v)) rest
theorem foldl_set (l:List Value):∀ (cells:Array Value) (off i:Nat),off + i + l.length ≤ cells.size → (l.zipIdx i).foldl (fun cs (q:Value × Nat) => cs.setIfInBounds (off + q.2) q.1) cells = (ow cells.toList (off + i) l).toArray:=by
 induction l with
 | nil =>
  intro cells off i _
  simp [ow]
 | cons v r ih =>
  intro cells off i h
  simp only [List.zipIdx_cons,List.foldl_cons]
  rw [ih (cells.setIfInBounds (off + i) v) off (i + 1) (by simp at h ⊢; omega)]
  congr 1
  have e:=list_seg_step cells.toList (off + i) v r (by simp at h ⊢; omega)
  simpa [ow,Array.toList_setIfInBounds,Nat.add_assoc] using e
theorem Xe {place:Nat → Option (Nat × Nat)}:∀ (ps:List (Nat × SV)) (PU:List (Nat × Value)) (cells:List CV) (vs:List Value) (out:List CV),rH P w R B g cells vs →
  (PU.length = ps.length ∧ ∀ (k:Nat) q,ps[k]? = some q → ∃ u,PU[k]? = some (q.1,u) ∧ RS P w R B g q.2 u) → EN place cells ps = some out → ∃ BN:List Value,Instr.fill place vs.toArray PU = some BN.toArray ∧ rH P w R B g out BN
 | [],[],cells,vs,out,hrel,_,h => by
  injection h with h
  subst h
  exact ⟨vs,rfl,hrel⟩
 | [],_ :: _,_,_,_,_,hp,_ => by simp at hp
 | (i,v) :: rest,PU,cells,vs,out,hrel,hp,h => by
  obtain ⟨u,hu,hr⟩:=hp.2 0 (i,v) rfl
  cases PU with
  | nil => simp at hu
  | cons vp aKH =>
   simp at hu
   subst hu
   unfold EN at h
   unfold Instr.fill
   cases hpl:place i with
   | none => rw [hpl] at h; cases h
   | some q =>
    obtain ⟨off,size⟩:=q
    rw [hpl] at h
    simp only at h ⊢
    split at h
    ·cases h
    ·rename_i hn
     have hcell:=RS.cells hr
     have hlen:u.cells.size = (kR v).length:=by simpa using hcell.1
     have hfit:off + (kR v).length ≤ cells.length:=by omega
     rw [if_neg (by simpa [hlen,hrel.1] using hn)]
     have hf:=foldl_set u.cells.toList vs.toArray off 0 (by simp [hrel.1,hlen]; omega)
     have hf':u.cells.zipIdx.foldl (fun cs (x:Value × Nat) => cs.setIfInBounds (off + x.2) x.1) vs.toArray = (ow vs off u.cells.toList).toArray:=by
      rw [← Array.foldl_toList,Array.toList_zipIdx]
      simpa using hf
     rw [hf']
     refine Xe rest aKH (ow cells off (kR v)) (ow vs off u.cells.toList) out ⟨?_,fun k x hk => ?_⟩ ⟨by simpa using hp.1,fun k q hk => by simpa using hp.2 (k + 1) q (by simpa using hk)⟩ h
     ·rw [SI _ _ _ hfit,SI _ _ _ (by rw [hrel.1,hcell.1]; exact hfit)]; exact hrel.1
     ·by_cases hin:off ≤ k ∧ k < off + (kR v).length
      ·rw [SH _ _ _ hfit k hin.1 hin.2] at hk
       obtain ⟨y,hy,V4⟩:=hcell.2 _ x hk
       exact ⟨y,by rw [SH _ _ _ (by rw [hrel.1,hcell.1]; exact hfit) k hin.1 (by rw [hcell.1]; exact hin.2)]; exact hy,V4⟩
      ·have hout:k < off ∨ off + (kR v).length ≤ k:=by omega
       rw [OO _ _ _ hfit k hout] at hk
       obtain ⟨y,hy,V4⟩:=hrel.2 k x hk
       exact ⟨y,by rw [OO _ _ _ (by rw [hrel.1,hcell.1]; exact hfit) k (by rw [hcell.1]; exact hout)]; exact hy,V4⟩
def Fa (P:Program) (t:TypeId):Option (List (Nat × Nat)) :=
 match P.underlying t with
 | some (.struct fs) => fs.toList.mapM fun f => (P.info? f.type).map fun i => (f.offset,i.size)
 | _ => none
theorem run_places:∀ (fs:List Field) (oO:List (Nat × Nat)),fs.mapM (fun f => (P.info? f.type).map fun i => (f.offset,i.size)) = some oO →
  (fs.mapM (fun f => do pure (f.offset,← sizeOf f.type):Field → Sem (Nat × Nat))).run P w = .ok oO w
 | [],oO,h => by
  injection h with h
  subst h
  rfl
 | f :: fs,oO,h => by
  rw [List.mapM_cons] at h
  obtain ⟨p,hp,h2⟩:=Option.bind_eq_some_iff.1 h
  obtain ⟨r,hr,h3⟩:=Option.bind_eq_some_iff.1 h2
  injection h3 with h3
  subst h3
  obtain ⟨i,hi,hpi⟩:=Option.map_eq_some_iff.1 hp
  subst hpi
  have ih:=run_places fs r hr
  have hs:(sizeOf f.type).run P w = .ok i.size w:=by simp [sizeOf,typeInfo,hi]
  simp only [List.mapM_cons,Sem.run_bind,hs,Result.andThen_ok,Sem.run_pure,ih]
abbrev Parts:=List (Nat × Operand × SV)
def Parts.ins (ps:Parts):List (Operand × AV):=ps.map fun q => (q.2.1,.s q.2.2)
def Parts.vals (ps:Parts):List (Nat × SV):=ps.map fun q => (q.1,q.2.2)
def Parts.ops (ps:Parts):List (Nat × Operand):=ps.map fun q => (q.1,q.2.1)
theorem aBu {a:Act} {ps:Parts} (h:∀ p ∈ Parts.ins ps,RA P w R B g p.2 (a.eval p.1)) :
  ((Parts.ops ps).map fun q => (q.1,a.eval q.2)).length = (Parts.vals ps).length ∧ ∀ (k:Nat) q,(Parts.vals ps)[k]? = some q → ∃ u,((Parts.ops ps).map fun q => (q.1,a.eval q.2))[k]? = some (q.1,u) ∧ RS P w R B g q.2 u:=by
 refine ⟨by simp [Parts.ops,Parts.vals],fun k q hk => ?_⟩
 unfold Parts.vals at hk
 rw [List.getElem?_map] at hk
 cases hx:ps[k]? with
 | none => rw [hx] at hk; cases hk
 | some y =>
  rw [hx] at hk
  injection hk with hk
  subst hk
  refine ⟨a.eval y.2.1,by simp [Parts.ops,hx],?_⟩
  exact h (y.2.1,.s y.2.2) (List.mem_map.2 ⟨y,List.mem_of_getElem? hx,rfl⟩)
theorem LT.build {o:Oper} {t:TypeId} {parts:Array (Nat × Operand)} (ps:Parts) {oO:List (Nat × Nat)} {z:Value} {s b:Nat} {zc out:List CV} (ho:o.op = .build t parts) (hps:parts.toList = Parts.ops ps) (hp:Fa P t = some oO) (hz:TI P t z s b)
  (hzc:z.cells.toList.map sC = zc) (h1:z.cells.toList.all (·.oneCell') = true) (hf:EN (fun i => oO[i]?) zc (Parts.vals ps) = some out):LT P o (Parts.ins ps) [] (Ag out) [] [] []:=.calm fun R B g w a _ hi _ => by
 obtain ⟨i,hi1,hi2,_⟩:=hz.parts
 unfold Fa at hp
 split at hp
 ·rename_i fs hfs
  have hrel:rH P w R B g zc z.cells.toList:=by rw [← hzc]; exact TP h1
  obtain ⟨BN,k1,k2⟩:=Xe (place:=fun i => oO[i]?) (Parts.vals ps) _ zc z.cells.toList out hrel (aBu hi) hf
  refine ⟨.agg BN.toArray,?_,BN,rfl,k2.1,k2.2⟩
  have hpl:(fs.mapM (fun f => do pure (f.offset,← sizeOf f.type):Field → Sem (Nat × Nat))).run P w = .ok oO.toArray w:=by
   rw [Array.mapM_eq_mapM_toList]
   simp only [Sem.run_map,run_places fs.toList oO hp,Result.andThen_ok]
  have hpa:(parts.map fun x => (x.1,a.eval x.2)).toList = (Parts.ops ps).map fun q => (q.1,a.eval q.2):=by rw [Array.toList_map,hps]
  have hk1:Instr.fill (fun x => oO.toArray[x]?) z.cells (parts.map fun x => (x.1,a.eval x.2)).toList = some BN.toArray:=by
   rw [hpa]
   simpa using k1
  simp only [execOp,ho,Instr.build,Sem.run_bind,zeroValue,typeInfo,run_program,Result.andThen_ok,hi1,Sem.run_pure,hi2,run_underlying hfs,hpl,hk1]
 ·cases hp
theorem Qg {α:Type} {s:Nat}:∀ (els:List (List α)),(∀ cs ∈ els,cs.length = s) → ∀ (j k:Nat) cs x,els[j]? = some cs → cs[k]? = some x → els.flatten[j * s + k]? = some x
 | [],_,j,_,_,_,hj,_ => by simp at hj
 | c :: els,h,0,k,cs,x,hj,hk => by
  simp at hj
  subst hj
  rw [List.flatten_cons,Nat.zero_mul,Nat.zero_add,List.getElem?_append_left (List.getElem?_eq_some_iff.1 hk).1]
  exact hk
 | c :: els,h,j + 1,k,cs,x,hj,hk => by
  have hc:c.length = s:=h c List.mem_cons_self
  have ih:=Qg els (fun cs hcs => h cs (List.mem_cons_of_mem _ hcs)) j k cs x (by simpa using hj) hk
  rw [List.flatten_cons,List.getElem?_append_right (by rw [hc,Nat.succ_mul]; omega),hc,show (j + 1) * s + k - s = j * s + k by rw [Nat.succ_mul]; omega]
  exact ih
theorem flat_length {α:Type} {s:Nat}:∀ (els:List (List α)),(∀ cs ∈ els,cs.length = s) → els.flatten.length = els.length * s
 | [],_ => by simp
 | c :: els,h => by
  rw [List.flatten_cons,List.length_append,h c List.mem_cons_self,flat_length els (fun cs hcs => h cs (List.mem_cons_of_mem _ hcs)),List.length_cons,Nat.succ_mul]
  omega
theorem LT.newRow {o:Oper} {ins:List (Operand × AV)} {us:Mem} {e:TypeId} {n:Nat} {els:List (List CV)} (hl:∀ cs ∈ els,cs.length = bZ P e) (hm:els.length ≤ maxLen)
  (h:∀ R B g w (a:Act),WF R B g w → (∀ p ∈ ins,RA P w R B g p.2 (a.eval p.1)) → (∀ p ∈ us,RO P w R B g p.1 p.2) →
   ∃ vs:List Value,rH P w R B g els.flatten vs ∧ (execOp a.eval o).run P w = .ok (.value (.slice (some ⟨w.heap.size,0,none⟩) els.length els.length)) (w.alloc (.cells vs.toArray e))) :
  LT P o ins us (Cc (.loc n 0 els.length)) [(n,.row e (els.map (·.map (cO [n]))))] [] [n]:=by
 intro R B g w a hw hi hu K Q hK
 obtain ⟨vs,hrel,hr⟩:=h R B g w a hw hi hu
 unfold Oper.wp
 rw [hr]
 have had:=iH.alloc hw n (.cells vs.toArray e)
 have hk:=hrel.keep had hw
 have hvl:vs.length = els.length * bZ P e:=by rw [hrel.1,flat_length els hl]
 refine hK _ _ _ _ _ had (fun b hb => .inl hb) (fun _ => ⟨rfl,.inr (.inr ⟨w.heap.size,els.length,vs.toArray,e,upd_same ..,heap_alloc_new w _,Nat.le_refl _,by omega,by simp [hvl],by simp⟩)⟩) (fun p hp => ?_)
 have:p = (n,.row e (els.map (·.map (cO [n])))):=by simpa using hp
 subst this
 have hl':∀ cs ∈ els.map (·.map (cO [n])),cs.length = bZ P e:=fun cs hcs => by
  obtain ⟨c0,hc0,rfl⟩:=List.mem_map.1 hcs
  simpa using hl c0 hc0
 refine .inr ⟨w.heap.size,vs.toArray,upd_same ..,heap_alloc_new w _,hl',by simp [hvl],fun j k c x hj hx => ?_⟩
 have hf:=Qg _ hl' j k c x hj hx
 rw [← List.map_flatten] at hf
 obtain ⟨u,hu,hr⟩:=hk.2 _ x hf
 exact ⟨u,by simpa using hu,hr⟩
theorem LT.buildSlice {o:Oper} {t e:TypeId} {len n:Nat} {parts:Array (Nat × Operand)} (ps:Parts) {z:Value} {s b:Nat} {zc:List CV} {els:List (List CV)} (ho:o.op = .buildSlice t len parts) (hps:parts.toList = Parts.ops ps) (he:P.underlying t = some (.slice e)) (hz:TI P e z s b)
  (hzc:z.cells.toList.map sC = zc) (h1:z.cells.toList.all (·.oneCell') = true) (hsz:zc.length = s) (hlen:els.length = len) (hmax:len * s ≤ 16777216 ∧ 0 < s) (hel:els.all (fun cs => Nat.beq cs.length s) = true)
  (hf:EN (fun i => some (i * s,s)) ((List.range (len * s)).map fun i => zc.getD (i % s) .junk) (Parts.vals ps) = some els.flatten) :
  LT P o (Parts.ins ps) [] (Cc (.loc n 0 els.length)) [(n,.row e (els.map (·.map (cO [n]))))] [] [n]:=by
 have aF7:∀ cs ∈ els,cs.length = bZ P e:=fun cs hcs => by
  rw [hz.sz]
  exact Nat.eq_of_beq_eq_true (List.all_eq_true.1 hel cs hcs)
 have hlm:len ≤ 16777216:=Nat.le_trans (Nat.le_mul_of_pos_right len hmax.2) hmax.1
 refine .newRow aF7 (by simp only [maxLen]; omega) fun R B g w a _ hi _ => ?_
 obtain ⟨i,hi1,hi2,hi3,_⟩:=hz.parts
 have hzs:z.cells.size = s:=by rw [← hsz,← hzc]; simp
 have hrel:rH P w R B g ((List.range (len * s)).map fun i => zc.getD (i % s) .junk) ((List.range (len * s)).map fun i => z.cells[i % z.cells.size]!):=by
  refine ⟨by simp,fun k x hk => ?_⟩
  rw [List.getElem?_map] at hk ⊢
  cases hr:(List.range (len * s))[k]? with
  | none => rw [hr] at hk; cases hk
  | some m =>
   rw [hr] at hk
   injection hk with hk
   subst hk
   have hms:m % s < s:=Nat.mod_lt _ hmax.2
   have hrz:rH P w R B g zc z.cells.toList:=by rw [← hzc]; exact TP h1
   obtain ⟨u,hu,Ej⟩:=hrz.2 (m % s) (zc.getD (m % s) .junk) (by rw [List.getD_eq_getElem?_getD,List.getElem?_eq_getElem (by omega)]; rfl)
   refine ⟨u,?_,Ej⟩
   have:z.cells[m % s]? = some u:=by simpa using hu
   rw [hzs]
   simp [getElem!_def,this]
 obtain ⟨BN,k1,k2⟩:=Xe (place:=fun i => some (i * s,s)) (Parts.vals ps) _ _ _ els.flatten hrel (aBu hi) hf
 refine ⟨BN,k2,?_⟩
 have hpa:(parts.map fun x => (x.1,a.eval x.2)).toList = (Parts.ops ps).map fun q => (q.1,a.eval q.2):=by rw [Array.toList_map,hps]
 have hno:¬ (16777216 < len * s):=by omega
 have hk1:Instr.fill (fun i => some (i * s,s)) ((Array.range (len * s)).map fun x => z.cells[x % z.cells.size]!) (parts.map fun x => (x.1,a.eval x.2)).toList = some BN.toArray:=by
  rw [hpa,← k1]
  congr 1
  apply Array.ext'
  simp
 rw [Array.toList_map] at hk1
 by_cases h0:len * s = 0
 ·simp only [h0,Array.range_zero',Array.map_empty] at hk1
  simp [execOp,ho,Instr.buildSlice,run_underlying he,sizeOf,typeInfo,hi1,hi3,h0,Array.range_zero',hk1,Go.newRow,hlen]
 ·simp [execOp,ho,Instr.buildSlice,run_underlying he,sizeOf,typeInfo,hi1,hi3,hno,h0,zeroValue,hi2,hk1,Go.newRow,hlen]
theorem LT.makeSlice {o:Oper} {t e:TypeId} {n:Nat} {x y:Operand} {len:Int} {z:Value} {s b:Nat} {zc:List CV} (ho:o.op = .makeSlice t x y) (he:P.underlying t = some (.slice e)) (hz:TI P e z s b)
  (hzc:z.cells.toList.map sC = zc) (h1:z.cells.toList.all (·.oneCell') = true) (hsz:zc.length = s) (hs:0 < s) (hb:b ≤ 65536) (hl:0 ≤ len ∧ len ≤ vY) :
  LT P o [(x,Iv len),(y,Iv len)] [] (Cc (.loc n 0 (List.replicate len.toNat zc).length)) [(n,.row e ((List.replicate len.toNat zc).map (·.map (cO [n]))))] [] [n]:=by
 have hl2:len ≤ 2147483648:=hl.2
 refine .newRow (fun cs hcs => by rw [List.eq_of_mem_replicate hcs,hz.sz]; exact hsz) (by simp only [List.length_replicate,maxLen]; omega) fun R B g w a _ hi _ => ?_
 obtain ⟨i,hi1,hi2,hi3,hi4⟩:=hz.parts
 have hzs:z.cells.size = s:=by rw [← hsz,← hzc]; simp
 have hbb:(i.bytes:Int) * len ≤ 281474976710656:=by
  rw [hi4]
  have:(b:Int) * len ≤ 65536 * 2147483648:=Int.mul_le_mul (by omega) hl2 hl.1 (by omega)
  omega
 have hr:=run_make (P:=P) w t e i z he hi1 hi2 .i64 .i64 len len hl.1 (Int.le_refl _) hbb (by omega)
 refine ⟨(madeCells z.cells (len.toNat * i.size)).toList,⟨?_,fun k c hk => ?_⟩,?_⟩
 ·rw [flat_length (s:=s) _ (fun cs hcs => by rw [List.eq_of_mem_replicate hcs]; exact hsz)]
  simp [madeCells,hi3]
 ·have hkl:k < len.toNat * s:=by
   have:=(List.getElem?_eq_some_iff.1 hk).1
   rwa [flat_length (s:=s) _ (fun cs hcs => by rw [List.eq_of_mem_replicate hcs]; exact hsz),List.length_replicate] at this
  have hj:k / s < len.toNat:=Nat.div_lt_of_lt_mul (by rw [Nat.mul_comm]; exact hkl)
  have hms:k % s < s:=Nat.mod_lt _ hs
  have hf:=Qg (s:=s) (List.replicate len.toNat zc) (fun cs hcs => by rw [List.eq_of_mem_replicate hcs]; exact hsz) (k / s) (k % s) zc zc[k % s] (by simp [hj]) (List.getElem?_eq_getElem (by omega))
  rw [show k / s * s + k % s = k by rw [Nat.mul_comm]; exact Nat.div_add_mod k s] at hf
  rw [hf] at hk
  injection hk with hk
  subst hk
  have hrz:rH P w R B g zc z.cells.toList:=by rw [← hzc]; exact TP h1
  obtain ⟨u,hu,Ej⟩:=hrz.2 (k % s) zc[k % s] (List.getElem?_eq_getElem (by omega))
  refine ⟨u,?_,Ej⟩
  have:z.cells[k % s]? = some u:=by simpa using hu
  simp [madeCells,hzs,hi3,hkl,getElem!_def,this]
 ·simp only [execOp,ho,mJ (in1 hi),mJ (in2 hi),Sem.run_bind,hr,Result.andThen_ok,Sem.run_pure,List.length_replicate,Array.toArray_toList]
end
end
section
section
variable {P:Program} {w:World} {R B:Nat → Prop} {g:Nat → GS}
theorem iH.setRow (h:WF R B g w) {n b:Nat} {cur cur':Array Value} {e:TypeId} (hn:g n = .blk b) (hh:w.heap[b]? = some (.cells cur e (0,0))) (hs:cur'.size = cur.size):iH R B g w [n] [] R B g (w.setRow b cur') where
 wf:=h.mono (by simp [World.setRow])
 r _ h:=h
 b _ h:=h
 os:=rfl
 tape:=rfl
 output:=rfl
 size:=by simp [World.setRow]
 heap c _ hc:=setRow_other w b c cur' (fun e => hc n List.mem_cons_self (by rw [hn,e]; rfl))
 names _ _:=rfl
 fresh _ hk:=by cases hk
 shape k hk _ c cu e' hg hc:=by
  have:k = n:=by simpa using hk
  subst this
  rw [hn] at hg
  have hg:b = c:=Eq.symm hg
  subst hg
  rw [hh] at hc
  injection hc with hc
  injection hc with h1 h2 h3
  subst h1
  subst h2
  exact ⟨cur',setRow_heap w b cur cur' e (0,0) hh,hs⟩
theorem aIm {v:Value} (h:v.oneCell' = true):v.cells = #[v]:=by cases v <;> first | rfl | cases h
theorem LT.store {o:Oper} {t e:TypeId} {n off j k s:Nat} {x y:Operand} {els:List (List CV)} {cs:List CV} {v:SV} (ho:o.op = .store t x y) (hd:o.dst = none) {i:TypeInfo} (hi:P.info? t = some i) (hs:bZ P t = s) (hl:(kR v).length = s) (hj:els[j]? = some cs)
  (ha:off = j * bZ P e + k) (hk:k + s ≤ cs.length):LT P o [(x,Cc (.pl n off)),(y,.s v)] [(n,.row e els)] (.dW []) [(n,.row e (els.set j (ow cs k (kR v))))] [n] []:=by
 intro R B g w a hw hin hu K Q hK
 obtain ⟨_,b,hb,hx⟩:=in1 hin
 have hro:=xW hu
 have hrel:=RS.cells (in2 hin)
 rcases hro with ⟨h1,_⟩ | ⟨b',cur,h1,h2,h3,h4,h5⟩
 ·rw [hb] at h1; cases h1
 rw [hb] at h1
 injection h1 with h1
 subst h1
 have hcs:cs.length = bZ P e:=h3 cs (List.mem_of_getElem? hj)
 have hjl:j < els.length:=(List.getElem?_eq_some_iff.1 hj).1
 have hsz:(a.eval y).cells.size = s:=by rw [← hl,← hrel.1]; simp
 have hrow:j * bZ P e + bZ P e ≤ els.length * bZ P e:=by
  have:=Nat.mul_le_mul_right (bZ P e) hjl
  rwa [Nat.succ_mul] at this
 have hfit:off + (a.eval y).cells.toList.length ≤ cur.toList.length:=by
  simp only [Array.length_toList,hsz]
  omega
 have hst:=run_storeCells_at P b off e (a.eval y).cells.toList 0 cur w h2 (by simpa using hfit) hrel.one
 simp only [Nat.add_zero] at hst
 have hrun:(execOp a.eval o).run P w = .ok .skip (w.setRow b (ow cur.toList off (a.eval y).cells.toList).toArray):=by
  have hsz':(a.eval y).cells.size = i.size:=by rw [hsz,← hs,X3 hi]
  simp [execOp,ho,hx,Instr.storeAt,Instr.sureAddr,storeVar,sizeOf,typeInfo,hi,hsz',ow] at hst ⊢
  rw [hst]
  rfl
 unfold Oper.wp
 rw [hrun]
 have hsize:(ow cur.toList off (a.eval y).cells.toList).toArray.size = cur.size:=by
  rw [List.size_toArray,SI _ _ _ hfit]; simp
 have had:=iH.setRow hw hb h2 hsize
 refine hK undef R B g _ had (fun b hb => .inl hb) (fun h => by rw [hd] at h; cases h) (fun p hp => ?_)
 have:p = (n,.row e (els.set j (ow cs k (kR v)))):=by simpa using hp
 subst this
 have hkc:k + (kR v).length ≤ cs.length:=by rw [hl]; exact hk
 refine .inr ⟨b,_,hb,setRow_heap w b cur _ e (0,0) h2,fun c hc => ?_,by rw [hsize]; simpa using h4,fun j' k' c y' hj' hk' => ?_⟩
 ·rcases List.mem_or_eq_of_mem_set hc with h | h
  ·exact h3 c h
  ·rw [h,SI _ _ _ hkc]; exact hcs
 ·have lift:∀ {y':CV} {u:Value},RC P w R B g y' u → RC P (w.setRow b (ow cur.toList off (a.eval y).cells.toList).toArray) R B g y' u:=fun hr => by
   have:=had.rc hw hr
   rwa [RY] at this
  have hvl:(a.eval y).cells.toList.length = s:=by simpa using hsz
  rw [List.getElem?_set] at hj'
  by_cases hjj:j = j'
  ·subst hjj
   rw [if_pos rfl,if_pos hjl] at hj'
   injection hj' with hj'
   subst hj'
   by_cases hin':k ≤ k' ∧ k' < k + (kR v).length
   ·rw [SH _ _ _ hkc k' hin'.1 hin'.2] at hk'
    obtain ⟨u,hu1,hu2⟩:=hrel.2 _ y' hk'
    refine ⟨u,?_,lift hu2⟩
    have:(ow cur.toList off (a.eval y).cells.toList)[j * bZ P e + k']? = some u:=by
     rw [SH _ _ _ hfit _ (by omega) (by rw [hvl]; omega),← hu1]
     congr 1
     omega
    simpa using this
   ·have hout:k' < k ∨ k + (kR v).length ≤ k':=by omega
    rw [OO _ _ _ hkc k' hout] at hk'
    obtain ⟨u,hu1,hu2⟩:=h5 j k' cs y' hj hk'
    refine ⟨u,?_,lift hu2⟩
    have:(ow cur.toList off (a.eval y).cells.toList)[j * bZ P e + k']? = some u:=by
     rw [OO _ _ _ hfit _ (by rw [hvl]; omega)]
     simpa using hu1
    simpa using this
  ·rw [if_neg hjj] at hj'
   obtain ⟨u,hu1,hu2⟩:=h5 j' k' c y' hj' hk'
   refine ⟨u,?_,lift hu2⟩
   have aGE:k' < bZ P e:=by rw [← h3 c (List.mem_of_getElem? hj')]; exact (List.getElem?_eq_some_iff.1 hk').1
   have hne:∀ q,q < bZ P e → j * bZ P e + q ≠ j' * bZ P e + k':=fun q hq => aIb hq aGE hjj
   have hout:j' * bZ P e + k' < off ∨ off + (a.eval y).cells.toList.length ≤ j' * bZ P e + k':=by
    rw [hvl]
    rcases Nat.lt_or_ge (j' * bZ P e + k') off with h | h
    ·exact .inl h
    ·refine .inr (Nat.le_of_not_lt fun h' => ?_)
     exact hne (j' * bZ P e + k' - j * bZ P e) (by omega) (by omega)
   have:(ow cur.toList off (a.eval y).cells.toList)[j' * bZ P e + k']? = some u:=by
    rw [OO _ _ _ hfit _ hout]
    simpa using hu1
   simpa using this
theorem LT.conv {o:Oper} {ins:List (Operand × AV)} {us X7 df Za:Mem} {v:AV} {W X:List Nat} (h1:∀ (w:World) (R B:Nat → Prop) (g:Nat → GS),(∀ p ∈ X7,RO P w R B g p.1 p.2) → ∀ p ∈ us,RO P w R B g p.1 p.2)
  (h2:∀ (w:World) (R B:Nat → Prop) (g:Nat → GS),(∀ p ∈ df,RO P w R B g p.1 p.2) → ∀ p ∈ Za,RO P w R B g p.1 p.2) (h:LT P o ins us v df W X):LT P o ins X7 v Za W X :=
 fun R B g w a hw hi hu K Q hK => h R B g w a hw hi (h1 w R B g hu) K Q fun u R' B' g' w' had hR hv hob => hK u R' B' g' w' had hR hv (h2 w' R' B' g' hob)
theorem Jl {n:Nat} {ob:Ob} (h:RO P w R B g n ob):∀ p ∈ [(n,ob)],RO P w R B g p.1 p.2:=fun p hp => by
 have:p = (n,ob):=by simpa using hp
 subst this
 exact h
theorem LT.Kw {o:Oper} {ins:List (Operand × AV)} {us:Mem} {v:AV} {n:Nat} {e:TypeId} {kN:List (List PV)} {W X Y:List Nat} (h:LT P o ins us v [(n,.row e ((gY kN).map (·.map (cO Y))))] W X):LT P o ins us v [(n,.fA e kN)] W X :=
 h.conv (fun _ _ _ _ h => h) fun w R B g hu => Jl (by have:=xW hu; rwa [OW] at this)
theorem LT.Tn {o:Oper} {ins:List (Operand × AV)} {df:Mem} {v:AV} {n:Nat} {e:TypeId} {kN:List (List PV)} {W X:List Nat} (h:LT P o ins [(n,.row e (gY kN))] v df W X):LT P o ins [(n,.fA e kN)] v df W X :=
 LT.conv (us:=[(n,.row e (gY kN))]) (X7:=[(n,.fA e kN)]) (fun w R B g hu => Jl (ob:=.row e (gY kN)) (xW (ob:=.fA e kN) hu)) (fun _ _ _ _ h => h) h
theorem XW (els:List (List PV)):(gY els).length = els.length:=by simp [gY]
theorem U4 {α:Type} {s:Nat} (hs:0 < s):∀ (els:List (List α)),(∀ cs ∈ els,cs.length = s) → ∀ (i:Nat) x,els.flatten[i]? = some x → ∃ cs,els[i / s]? = some cs ∧ cs[i % s]? = some x
 | [],_,i,x,h => by simp at h
 | c :: els,hl,i,x,h => by
  have hc:c.length = s:=hl c List.mem_cons_self
  rw [List.flatten_cons] at h
  by_cases hi:i < s
  ·rw [List.getElem?_append_left (by omega)] at h
   exact ⟨c,by rw [Nat.div_eq_of_lt hi]; rfl,by rw [Nat.mod_eq_of_lt hi]; exact h⟩
  ·rw [List.getElem?_append_right (by omega),hc] at h
   obtain ⟨cs,h1,h2⟩:=U4 hs els (fun cs hcs => hl cs (List.mem_cons_of_mem _ hcs)) (i - s) x h
   refine ⟨cs,?_,?_⟩
   ·rw [Nat.div_eq_sub_div hs (by omega)]; exact h1
   ·rw [Nat.mod_eq_sub_mod (by omega)]; exact h2
theorem eU.flat {n b:Nat} {e:TypeId} {els:List (List CV)} (hs:0 < bZ P e) (h:eU P w R B g n e els) (hb:g n = .blk b) :
  (∀ cs ∈ els,cs.length = bZ P e) ∧ ∃ cur,w.heap[b]? = some (.cells cur e (0,0)) ∧ els.length * bZ P e ≤ cur.size ∧ rH P w R B g els.flatten (cur.toList.take (els.length * bZ P e)):=by
 rcases h with ⟨h1,_⟩ | ⟨b',cur,h1,h2,h3,h4,h5⟩
 ·rw [hb] at h1; cases h1
 ·rw [hb] at h1
  injection h1 with h1
  subst h1
  refine ⟨h3,cur,h2,h4,by rw [flat_length els h3]; simp; omega,fun i x hi => ?_⟩
  obtain ⟨cs,k1,k2⟩:=U4 hs els h3 i x hi
  obtain ⟨u,hu,hr⟩:=h5 _ _ cs x k1 k2
  have hil:i < els.length * bZ P e:=by rw [← flat_length els h3]; exact (List.getElem?_eq_some_iff.1 hi).1
  refine ⟨u,?_,hr⟩
  rw [List.getElem?_take,if_pos hil]
  have:i / bZ P e * bZ P e + i % bZ P e = i:=by rw [Nat.mul_comm]; exact Nat.div_add_mod i _
  rw [this] at hu
  simpa using hu
theorem eU.of_flat {n b:Nat} {e:TypeId} {els:List (List CV)} {cur:Array Value} (hb:g n = .blk b) (hl:∀ cs ∈ els,cs.length = bZ P e) (hh:w.heap[b]? = some (.cells cur e (0,0))) (hc:els.length * bZ P e ≤ cur.size)
  (hr:rH P w R B g els.flatten (cur.toList.take (els.length * bZ P e))):eU P w R B g n e els :=
 .inr ⟨b,cur,hb,hh,hl,hc,fun j k cs x hj hk => by
  obtain ⟨u,hu,Ej⟩:=hr.2 _ x (Qg els hl j k cs x hj hk)
  refine ⟨u,?_,Ej⟩
  rw [List.getElem?_take] at hu
  split at hu
  ·simpa using hu
  ·cases hu⟩
def P5 (P:Program) (w:World) (R B:Nat → Prop) (g:Nat → GS) (v:Value) (els:List (List CV)) (s:Nat):Prop :=
 ∃ A c,v = .slice A els.length c ∧ ∃ news:List Value,rH P w R B g els.flatten news ∧ ∀ i u,news[i]? = some u → ∃ ad,A = some ad ∧ w.cell? (ad.add i) = some u
theorem aJi {v:Value} {q:Bool} {els:List (List PV)} {s:Nat} (hs:0 < s) (hl:∀ cs ∈ els,cs.length = s) (h:RC P w R B g (.pv (.xs q els)) v):P5 P w R B g v (gY els) s:=by
 obtain ⟨_,h⟩:=h
 cases h with
 | emp => exact ⟨_,_,rfl,[],⟨rfl,fun k x hk => by simp [gY] at hk⟩,fun i u hu => by simp at hu⟩
 | @xs _ _ ad c s' n val hn hq hc hs' hv hr =>
  subst hn
  have hss:∀ cs ∈ els,s' = s:=fun cs hcs => (hs' cs hcs).symm.trans (hl cs hcs)
  have aAP:∀ (i:Nat) p,els.flatten[i]? = some p → ∃ cs,els[i / s]? = some cs ∧ cs[i % s]? = some p:=U4 hs els hl
  refine ⟨some ad,c,by simp [gY],(List.range els.flatten.length).map fun i => val (i / s) (i % s),⟨by simp [gY,← List.map_flatten],fun k x hk => ?_⟩,fun i u hu => ?_⟩
  ·simp only [gY,← List.map_flatten,List.getElem?_map] at hk
   cases hp:els.flatten[k]? with
   | none => rw [hp] at hk; cases hk
   | some p =>
    rw [hp] at hk
    injection hk with hk
    subst hk
    obtain ⟨cs,h1,h2⟩:=aAP k p hp
    have hlt:k < els.flatten.length:=(List.getElem?_eq_some_iff.1 hp).1
    exact ⟨val (k / s) (k % s),by rw [List.getElem?_map,List.getElem?_range hlt]; rfl,(hr _ _ _ _ h1 h2).oneCell,hr _ _ _ _ h1 h2⟩
  ·rw [List.getElem?_map] at hu
   cases hi:(List.range els.flatten.length)[i]? with
   | none => rw [hi] at hu; cases hu
   | some i' =>
    rw [hi] at hu
    injection hu with hu
    subst hu
    have hlt:i < els.flatten.length:=by simpa using (List.getElem?_eq_some_iff.1 hi).1
    have hii:i = i':=by
     rw [List.getElem?_eq_getElem (by simpa using hlt)] at hi
     simpa using hi
    subst hii
    obtain ⟨cs,h1,h2⟩:=aAP i els.flatten[i] (List.getElem?_eq_getElem hlt)
    refine ⟨ad,rfl,?_⟩
    have:=hv _ _ _ _ h1 h2
    rw [hss cs (List.mem_of_getElem? h1)] at this
    rwa [show i / s * s + i % s = i by rw [Nat.mul_comm]; exact Nat.div_add_mod i s] at this
theorem aCa {v:Value} {n:Nat} {e:TypeId} {els:List (List CV)} (hs:0 < bZ P e) (h:RC P w R B g (.loc n 0 els.length) v) (ho:eU P w R B g n e els):P5 P w R B g v els (bZ P e):=by
 obtain ⟨_,h⟩:=h
 rcases h with ⟨h1,_,h3,h4⟩ | ⟨_,h2,_⟩ | ⟨b,cap,cur,e',k1,k2,k3,k4,k5,k6⟩
 ·have:els = []:=List.eq_nil_of_length_eq_zero h3
  subst this
  exact ⟨none,0,h4,[],⟨rfl,fun k x hk => by simp at hk⟩,fun i u hu => by simp at hu⟩
 ·exact absurd rfl h2
 ·obtain ⟨hl,cur',h5,h6,h7⟩:=ho.flat hs k1
  rw [k2] at h5
  injection h5 with h5
  injection h5 with h5 h8 h9
  subst h5
  subst h8
  refine ⟨some ⟨b,0,none⟩,cap,by simpa using k6,_,h7,fun i u hu => ⟨_,rfl,?_⟩⟩
  rw [add_lit,Nat.zero_add,DW k2]
  rw [List.getElem?_take] at hu
  split at hu
  ·simpa using hu
  ·cases hu
theorem aCF {t ty e:TypeId} {i:TypeInfo} (ht:P.underlying t = some (.slice e)) (hi:P.info? e = some i) (A:Option Addr) (n c c':Nat) (hn:n ≤ c) (w:World) :
  (Builtin.append_ #[t,t] ty #[.slice A n c,.slice none 0 c']).run P w = .ok (.slice A n c) w:=by
 cases A <;> simp [Builtin.append_,run_underlying ht,sizeOf,typeInfo,hi,Builtin.lenOf,Builtin.firstCells,storeCells,hn]
def YZ (P:Program) (w:World) (R B:Nat → Prop) (g:Nat → GS) (n:Nat) (e:TypeId) (v:Value) (els:List (List CV)):Prop :=
 (v = aO ∧ els = []) ∨ (RC P w R B g (.loc n 0 els.length) v ∧ eU P w R B g n e els)
theorem aJN {t ty e:TypeId} {z:Value} {s qZ:Nat} (ht:P.underlying t = some (.slice e)) (hz:TI P e z s qZ) (hzs:z.cells.size = s) (hs:0 < s) (hb:qZ ≤ 65536) (hw:WF R B g w) {n:Nat} {v x:Value} {els jE:List (List CV)}
  (hl2:∀ cs ∈ jE,cs.length = s) (hv:YZ P w R B g n e v els) (hx:P5 P w R B g x jE s) (hlim:els.length + jE.length ≤ vY) (W:List Nat) (hW:W = [n] ∨ (v = aO ∧ W = [])) :
  ∃ v' g' w',(Builtin.append_ #[t,t] ty #[v,x]).run P w = .ok v' w' ∧ iH R B g w W [n] R B g' w' ∧ RC P w' R B g' (.loc n 0 (els.length + jE.length)) v' ∧ eU P w' R B g' n e ((els ++ jE).map (·.map (cO [n]))):=by
 obtain ⟨i,hi1,hi2,hi3,hi4⟩:=hz.parts
 have hsz:bZ P e = s:=hz.sz
 have aGF:els.length + jE.length ≤ 2147483648:=hlim
 -- the target owns its row
 have hown:∃ xs,w.ownsRow 0 e s v els.length xs ∧ rH P w R B g els.flatten xs ∧ (∀ cs ∈ els,cs.length = s) ∧ (∀ b,v.ownBlock = some b → g n = .blk b):=by
  rcases hv with ⟨rfl,rfl⟩ | ⟨hv1,hv2⟩
  ·exact ⟨[],World.ownsRow_nil w 0 e s,⟨rfl,fun k x hk => by simp at hk⟩,fun cs hcs => by simp at hcs,fun b hb => by simp [Value.ownBlock] at hb⟩
  ·obtain ⟨_,hv1⟩:=hv1
   rcases hv1 with ⟨h1,_,h3,h4⟩ | ⟨_,h2,_⟩ | ⟨b,cap,cur,e',k1,k2,k3,k4,k5,k6⟩
   ·have:els = []:=List.eq_nil_of_length_eq_zero h3
    subst this
    subst h4
    exact ⟨[],World.ownsRow_nil w 0 e s,⟨rfl,fun k x hk => by simp at hk⟩,fun cs hcs => by simp at hcs,fun b hb => by simp [Value.ownBlock] at hb⟩
   ·exact absurd rfl h2
   ·obtain ⟨hl,cur',h5,h6,h7⟩:=hv2.flat (by rw [hsz]; exact hs) k1
    rw [k2] at h5
    injection h5 with h5
    injection h5 with h5 h8 h9
    subst h5
    subst h8
    rw [hsz] at h7 h6 hl k5
    have hk6:v = .slice (some ⟨b,0,none⟩) els.length cap:=by simpa using k6
    refine ⟨_,⟨?_,.inr ⟨b,cap,cur,hk6,Nat.zero_le _,k2,k3,by omega,by simpa using k5.symm,rfl⟩⟩,h7,hl,fun b' hb' => ?_⟩
    ·simp; omega
    ·rw [hk6] at hb'
     simp [Value.ownBlock] at hb'
     rw [← hb']; exact k1
 obtain ⟨xs,hown,aAU,hlx,hblk⟩:=hown
 obtain ⟨A,c,rfl,news,Qv,hcell⟩:=hx
 have hnl:news.length = jE.length * s:=by rw [Qv.1,flat_length jE hl2]
 -- the run
 have hrun:∃ v' w',(Builtin.append_ #[t,t] ty #[v,.slice A jE.length c]).run P w = .ok v' w' ∧ w'.ownsRow 0 e s v' (els.length + jE.length) (xs ++ news) ∧ w.grownBy w' v.ownBlock ∧
   (v'.ownBlock = v.ownBlock ∨ v'.ownBlock = some w.heap.size):=by
  cases A with
  | none =>
   have hn0:news = []:=by
    cases news with
    | nil => rfl
    | cons u r =>
     obtain ⟨ad,h,_⟩:=hcell 0 u rfl
     cases h
   have h20:jE.length = 0:=by
    rw [hn0] at hnl
    rcases Nat.mul_eq_zero.1 hnl.symm with h | h
    ·exact h
    ·omega
   refine ⟨v,w,?_,by rw [hn0,h20]; simpa using hown,World.grownBy.refl w _,.inl rfl⟩
   rw [h20]
   rcases hown.2 with ⟨rfl,_⟩ | ⟨b,cap,cur,rfl,_,_,hnc,_⟩
   ·exact aCF ht hi1 none 0 0 c (Nat.le_refl _) w
   ·exact aCF ht hi1 _ _ _ c hnc w
  | some ad =>
   have hc:∀ j u,news[j]? = some u → w.cell? (ad.add j) = some u:=fun j u hu => by
    obtain ⟨ad',h,hc⟩:=hcell j u hu
    injection h with h
    subst h
    exact hc
   obtain ⟨v',w',h1,h2,h3,_,h5⟩:=run_append_own_at (P:=P) w 0 t ty e i z s qZ ht hi1 hi2 hi3 hi4 hzs hs v els.length xs hown ad jE.length c news hnl hc Qv.one
    (by simp only [maxLen]; omega) (by
     have:(els.length + jE.length) * qZ ≤ 2147483648 * 65536:=Nat.mul_le_mul aGF hb
     omega) (Nat.zero_le _)
   exact ⟨v',w',h1,h2,h3,h5⟩
 obtain ⟨v',w',hr1,hr2,hr3,hr4⟩:=hrun
 have hvW:∀ b,v.ownBlock = some b → W = [n]:=fun b hb => by
  rcases hW with h | ⟨h,_⟩
  ·exact h
  ·rw [h] at hb; simp [Value.ownBlock] at hb
 have hheap:∀ k,k < w.heap.size → (∀ m ∈ W,¬ (g m).has k) → w'.heap[k]? = w.heap[k]?:=fun k hk hkW => hr3.block k hk fun e => by
  have h1:=hblk k e.symm
  have h2:=hvW k e.symm
  exact hkW n (by rw [h2]; exact List.mem_cons_self) (GS.uh h1)
 have hl12:∀ cs ∈ els ++ jE,cs.length = s:=fun cs hcs => (List.mem_append.1 hcs).elim (hlx cs) (hl2 cs)
 rcases hr2.2 with ⟨h1,h2⟩ | ⟨b2,cap,cur,h1,_,h3,h4,h5,h6,h7⟩
 ·-- still nil
  have he1:els = []:=List.eq_nil_of_length_eq_zero (by omega)
  have he2:jE = []:=List.eq_nil_of_length_eq_zero (by omega)
  subst he1
  subst he2
  refine ⟨v',upd g n .nil,w',hr1,?_,⟨by rw [h1]; rfl,.inl ⟨upd_same ..,rfl,rfl,h1⟩⟩,.inl ⟨upd_same ..,rfl⟩⟩
  refine ⟨hw.upd n _ hr3.size (fun b hb => hb.elim) (fun j k b hj => by cases hj),fun _ h => h,fun _ h => h,hr3.os,hr3.tape,hr3.output,hr3.size,hheap,fun k hk => upd_ne g _ (by simpa using hk),fun k hk b hb => ?_,fun k hkW hkX => ?_⟩
  ·have:k = n:=by simpa using hk
   subst this
   rw [upd_same] at hb; exact hb.elim
  ·rcases hW with h | ⟨_,h⟩
   ·rw [h] at hkW; exact absurd (by simpa using hkW) hkX
   ·rw [h] at hkW; cases hkW
 ·-- a row
  have hb2:(g n = .blk b2) ∨ w.heap.size ≤ b2:=by
   rw [h1] at hr4
   simp only [Value.ownBlock] at hr4
   rcases hr4 with h | h
   ·exact .inl (hblk b2 h.symm)
   ·injection h with h
    exact .inr (by omega)
  have aFW:w.heap.size ≤ b2 ∨ ∃ m ∈ W,(g m).has b2:=by
   rw [h1] at hr4
   simp only [Value.ownBlock] at hr4
   rcases hr4 with h | h
   ·exact .inr ⟨n,by rw [hvW b2 h.symm]; exact List.mem_cons_self,GS.uh (hblk b2 h.symm)⟩
   ·injection h with h
    exact .inl (by omega)
  have aFX:b2 < w'.heap.size:=(Array.getElem?_eq_some_iff.1 h3).1
  have had:iH R B g w W [n] R B (upd g n (.blk b2)) w':=by
   have hother:∀ q,q ≠ n → ¬ (g q).has b2:=fun q hq hg => by
    rcases hb2 with h | h
    ·exact hq (hw.jk q n b2 hg (GS.uh h))
    ·exact absurd (hw.jZ q b2 hg).2 (by omega)
   refine ⟨hw.upd n _ hr3.size (fun b hb => ?_) GS.aBW,fun _ h => h,fun _ h => h,hr3.os,hr3.tape,hr3.output,hr3.size,hheap,fun k hk => upd_ne g _ (by simpa using hk),fun k hk b hb => ?_,fun k hkW hkX => ?_⟩
   ·have hb:b = b2:=hb
    subst hb
    refine ⟨fun hB => ?_,aFX,hother⟩
    rcases hb2 with h | h
    ·exact (hw.own n b h).1 hB
    ·exact absurd (hw.lt b hB) (by omega)
   ·have:k = n:=by simpa using hk
    subst this
    rw [upd_same] at hb
    have hb:b = b2:=hb
    subst hb
    exact aFW
   ·rcases hW with h | ⟨_,h⟩
    ·rw [h] at hkW; exact absurd (by simpa using hkW) hkX
    ·rw [h] at hkW; cases hkW
  refine ⟨v',_,w',hr1,had,⟨by rw [h1]; rfl,.inr (.inr ⟨b2,cap,cur,e,upd_same ..,h3,h4,by omega,by rw [hsz]; simpa using h6.symm,by simpa using h1⟩)⟩,?_⟩
  have hk1:=(aAU.keep had hw)
  have hk2:=(Qv.keep had hw)
  refine eU.of_flat (upd_same ..) (fun cs hcs => ?_) h3 ?_ ?_
  ·obtain ⟨c0,hc0,rfl⟩:=List.mem_map.1 hcs
   rw [hsz]; simpa using hl12 c0 hc0
  ·rw [hsz]
   simp only [List.length_map,List.length_append]
   rw [h6]
   exact Nat.mul_le_mul_right _ h4
  ·rw [hsz]
   simp only [List.length_map,List.length_append]
   rw [h7,← List.map_flatten,List.flatten_append,List.map_append]
   refine ⟨by simp [hk1.1,hk2.1,aAU.1,Qv.1],fun k x hk => ?_⟩
   rw [List.getElem?_append] at hk ⊢
   have hlen:xs.length = (els.flatten.map (cO [n])).length:=hk1.1
   rw [hlen]
   split at hk
   ·rename_i hlt
    rw [if_pos hlt]
    exact hk1.2 k x hk
   ·rename_i hlt
    rw [if_neg hlt]
    exact hk2.2 _ x hk
theorem LT.append {o:Oper} {ins:List (Operand × AV)} {us:Mem} {t e:TypeId} {x y:Operand} {n:Nat} {els jE:List (List CV)} {z:Value} {s qZ:Nat} {W:List Nat} (ho:o.op = .call { callee:=.builtin .append,args:=#[x,y],argTypes:=#[t,t] })
  (ht:P.underlying t = some (.slice e)) (hz:TI P e z s qZ) (hzs:z.cells.size = s) (hs:0 < s) (hb:qZ ≤ 65536) (hl2:∀ cs ∈ jE,cs.length = s) (hlim:els.length + jE.length ≤ vY)
  (h:∀ R B g w (a:Act),WF R B g w → (∀ p ∈ ins,RA P w R B g p.2 (a.eval p.1)) → (∀ p ∈ us,RO P w R B g p.1 p.2) → YZ P w R B g n e (a.eval x) els ∧ P5 P w R B g (a.eval y) jE s ∧ (W = [n] ∨ (a.eval x = aO ∧ W = []))) :
  LT P o ins us (Cc (.loc n 0 (els.length + jE.length))) [(n,.row e ((els ++ jE).map (·.map (cO [n]))))] W [n]:=by
 intro R B g w a hw hi hu K Q hK
 obtain ⟨h1,h2,h3⟩:=h R B g w a hw hi hu
 obtain ⟨v',g',w',hr,had,hv,hro⟩:=aJN (ty:=o.type) ht hz hzs hs hb hw hl2 h1 h2 hlim W h3
 unfold Oper.wp execOp
 simp only [ho,resolve,invoke,builtin,Sem.run_bind,Sem.run_pure,Result.andThen_ok,List.map_toArray,List.map_cons,List.map_nil,hr]
 exact hK v' R B g' w' had (fun b hb => .inl hb) (fun _ => hv) (Jl hro)
section
variable {o:Oper} {t e:TypeId} {x y:Operand} {n n2:Nat} {kN oI:List (List PV)} {z:Value} {s qZ:Nat} {q:Bool}
theorem LT.aDn (ho:o.op = .call { callee:=.builtin .append,args:=#[x,y],argTypes:=#[t,t] }) (ht:P.underlying t = some (.slice e)) (hz:TI P e z s qZ) (hzs:z.cells.size = s) (hs:0 < s) (hb:qZ ≤ 65536)
  (hl2:∀ cs ∈ oI,cs.length = s) (hlim:kN.length + oI.length ≤ vY) :
  LT P o [(x,Cc (.loc n 0 kN.length)),(y,Cc (.pv (.xs q oI)))] [(n,.fA e kN)] (Cc (.loc n 0 (kN.length + oI.length))) [(n,.fA e (kN ++ oI))] [n] [n]:=by
 have:=LT.append (P:=P) (ins:=[(x,Cc (.loc n 0 kN.length)),(y,Cc (.pv (.xs q oI)))]) (us:=[(n,.fA e kN)]) (n:=n) (els:=gY kN) (jE:=gY oI) (W:=[n]) ho ht hz hzs hs hb
  (fun cs hcs => by obtain ⟨c,hc,rfl⟩:=List.mem_map.1 hcs; simpa using hl2 c hc) (by simpa [gY] using hlim)
  (fun R B g w a hw hi hu => ⟨.inr ⟨by rw [XW]; exact in1 hi,xW hu⟩,aJi hs hl2 (in2 hi),.inl rfl⟩)
 have h2:LT P o [(x,Cc (.loc n 0 kN.length)),(y,Cc (.pv (.xs q oI)))] [(n,.fA e kN)] (Cc (.loc n 0 (kN.length + oI.length))) [(n,.row e ((gY (kN ++ oI)).map (·.map (cO [n]))))] [n] [n]:=by
  simpa [gY] using this
 exact h2.Kw
theorem LT.aDm (ho:o.op = .call { callee:=.builtin .append,args:=#[x,y],argTypes:=#[t,t] }) (ht:P.underlying t = some (.slice e)) (hz:TI P e z s qZ) (hzs:z.cells.size = s) (hs:0 < s) (hb:qZ ≤ 65536)
  (hl2:∀ cs ∈ oI,cs.length = s) (hlim:kN.length + oI.length ≤ vY) :
  LT P o [(x,Cc (.loc n 0 kN.length)),(y,Cc (.loc n2 0 oI.length))] [(n,.fA e kN),(n2,.fA e oI)] (Cc (.loc n 0 (kN.length + oI.length))) [(n,.fA e (kN ++ oI))] [n] [n]:=by
 have:=LT.append (P:=P) (ins:=[(x,Cc (.loc n 0 kN.length)),(y,Cc (.loc n2 0 oI.length))]) (us:=[(n,.fA e kN),(n2,.fA e oI)]) (n:=n) (els:=gY kN) (jE:=gY oI) (W:=[n]) ho ht hz hzs hs hb
  (fun cs hcs => by obtain ⟨c,hc,rfl⟩:=List.mem_map.1 hcs; simpa using hl2 c hc) (by simpa [gY] using hlim)
  (fun R B g w a hw hi hu => ⟨.inr ⟨by rw [XW]; exact in1 hi,xW hu⟩,by
   have:=aCa (els:=gY oI) (by rw [hz.sz]; exact hs) (by rw [XW]; exact in2 hi) (us2 hu)
   rwa [hz.sz] at this,.inl rfl⟩)
 have h2:LT P o [(x,Cc (.loc n 0 kN.length)),(y,Cc (.loc n2 0 oI.length))] [(n,.fA e kN),(n2,.fA e oI)] (Cc (.loc n 0 (kN.length + oI.length))) [(n,.row e ((gY (kN ++ oI)).map (·.map (cO [n]))))] [n] [n]:=by
  simpa [gY] using this
 exact h2.Kw
end
end
end
end Go.Fw
end
