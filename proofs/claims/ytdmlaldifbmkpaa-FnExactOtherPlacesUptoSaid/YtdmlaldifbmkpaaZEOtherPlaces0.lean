/- Parts of a proof that a law of the program holds: what the program computes, and why that is right. -/
import Derived.WalkKit
import Derived.Orders
import Derived.Deep.Slices
import Derived.LoopN
import Derived.Laws.StructEq
import Derived.Laws.MakeOwn
import Derived.Laws.AppendOwn
import Derived.Maps.AppendAt
set_option linter.unusedVariables false
set_option linter.unusedSimpArgs false
set_option linter.unnecessarySimpa false
set_option maxRecDepth 100000
set_option maxHeartbeats 8000000
section
namespace Go.Fw
section
inductive PV where
 | sc (v:Value)
 | xs (q:Bool) (els:List (List PV))
inductive CV where
 | pv (p:PV)
 | px (q:Bool) (cells:List PV)
 | loc (n off len:Nat)
 | pl (n off:Nat)
 | fn (f:FuncId) (caps:List Nat)
 | mref (n:Nat)
 | tl (p k off len:Nat)
 | tpl (p k off:Nat)
 | junk
inductive SV where
 | c (x:CV)
 | agg (cells:List CV)
inductive AV where
 | s (x:SV)
 | bV (vs:List SV)
inductive Ob where
 | row (e:TypeId) (els:List (List CV))
 | bZ (e:TypeId) (els:List (List PV))
 | mp (es:List (Int × Int))
 | pool (e:TypeId) (rows:List (List (List PV)))
 | fM (e:TypeId) (p:Nat) (lens:List Nat)
 | ax (e:TypeId) (p q:Nat) (fs:List (Int × Nat × Nat))
 | unk
inductive GS where
 | dead
 | nil
 | blk (b:Nat)
 | pool (bs:List (Option Nat))
def GS.has:GS → Nat → Prop
 | .blk b,x => x = b
 | .pool bs,x => some x ∈ bs
 | _,_ => False
def GS.at (s:GS) (k:Nat):GS:=match s with
 | .pool bs => match bs[k]? with
  | some (some b) => .blk b
  | some none => .nil
  | none => .dead
 | _ => .dead
theorem GS.lX {s:GS} {b:Nat} (h:s = .blk b):s.has b:=by rw [h]; rfl
theorem GS.kS {s:GS} {k b:Nat} (h:s.at k = .blk b):s.has b:=by
 cases s with
 | pool bs =>
  simp only [GS.at] at h
  cases hb:bs[k]? with
  | none => rw [hb] at h; cases h
  | some o =>
   cases o with
   | none => rw [hb] at h; cases h
   | some c =>
    rw [hb] at h
    injection h with h
    subst h
    exact List.mem_of_getElem? hb
 | _ => cases h
abbrev Slots:=List (Nat × AV)
abbrev Mem:=List (Nat × Ob)
def aW (P:Program) (e:TypeId):Nat:=((P.info? e).map (·.size)).getD 0
def sG (R B:Nat → Prop) (q:Bool):Nat → Prop:=match q with
 | true => R
 | false => B
inductive eH (w:World) (R B:Nat → Prop):PV → Value → Prop
 | sc {v:Value} (h:v.oneCell' = true):eH w R B (.sc v) v
 | emp {q:Bool} {a:Option Addr} {c:Nat}:eH w R B (.xs q []) (.slice a 0 c)
 | xs {q:Bool} {els:List (List PV)} {a:Addr} {c s n:Nat} (val:Nat → Nat → Value) (hn:n = els.length) (hb:sG R B q a.block) (hc:els.length ≤ c) (hs:∀ cs ∈ els,cs.length = s)
   (hv:∀ j k cs p,els[j]? = some cs → cs[k]? = some p → w.cell? (a.add (j * s + k)) = some (val j k))
   (hr:∀ j k cs p,els[j]? = some cs → cs[k]? = some p → eH w R B p (val j k)):eH w R B (.xs q els) (.slice (some a) n c)
def BV (P:Program) (w:World) (R B:Nat → Prop) (g:Nat → GS):CV → Value → Prop
 | .pv p,v => eH w R B p v
 | .px q cells,v => ∃ a,v = .pointer (some a) ∧ sG R B q a.block ∧ ∀ k p,cells[k]? = some p → ∃ u,w.cell? (a.add k) = some u ∧ eH w R B p u
 | .loc n off len,v =>
  (g n = .nil ∧ off = 0 ∧ len = 0 ∧ v = .slice none 0 0) ∨ (len = 0 ∧ off ≠ 0 ∧ ∃ a c,v = .slice a 0 c) ∨
  ∃ b cap cur e,g n = .blk b ∧ w.heap[b]? = some (.cells cur e (0,0)) ∧ len ≤ cap ∧ off + cap ≤ maxLen ∧ (off + cap) * aW P e = cur.size ∧ v = .slice (some ⟨b,off * aW P e,none⟩) len cap
 | .pl n off,v => ∃ b,g n = .blk b ∧ v = .pointer (some ⟨b,off,none⟩)
 | .fn f caps,v => ∃ vs:List Value,v = .func (.func f) #[] vs.toArray ∧ vs.length = caps.length ∧ ∀ (k n:Nat),caps[k]? = some n → ∃ b,g n = .blk b ∧ vs[k]? = some (Value.pointer (some ⟨b,0,none⟩))
 | .mref n,v => ∃ b,g n = .blk b ∧ v = .map (some b)
 | .tl p k off len,v =>
  ((g p).at k = .nil ∧ off = 0 ∧ len = 0 ∧ v = .slice none 0 0) ∨ (len = 0 ∧ off ≠ 0 ∧ ∃ a c,v = .slice a 0 c) ∨
  ∃ b cap cur e,(g p).at k = .blk b ∧ w.heap[b]? = some (.cells cur e (0,0)) ∧ len ≤ cap ∧ off + cap ≤ maxLen ∧ (off + cap) * aW P e = cur.size ∧ v = .slice (some ⟨b,off * aW P e,none⟩) len cap
 | .tpl p k off,v => ∃ b,(g p).at k = .blk b ∧ v = .pointer (some ⟨b,off,none⟩)
 | .junk,_ => True
def RC (P:Program) (w:World) (R B:Nat → Prop) (g:Nat → GS) (x:CV) (v:Value):Prop:=v.oneCell' = true ∧ BV P w R B g x v
def RS (P:Program) (w:World) (R B:Nat → Prop) (g:Nat → GS):SV → Value → Prop
 | .c x,v => RC P w R B g x v
 | .agg cells,v => ∃ vs:List Value,v = .agg vs.toArray ∧ vs.length = cells.length ∧ ∀ (k:Nat) x,cells[k]? = some x → ∃ u,vs[k]? = some u ∧ RC P w R B g x u
def RA (P:Program) (w:World) (R B:Nat → Prop) (g:Nat → GS):AV → Value → Prop
 | .s x,v => RS P w R B g x v
 | .bV xs,v => ∃ vs:List Value,v = .tuple vs.toArray ∧ vs.length = xs.length ∧ ∀ (k:Nat) x,xs[k]? = some x → ∃ u,vs[k]? = some u ∧ RS P w R B g x u
def bJ (P:Program) (w:World) (R B:Nat → Prop) (g:Nat → GS) (n:Nat) (e:TypeId) (els:List (List CV)):Prop :=
  (g n = .nil ∧ els = []) ∨
  ∃ b cur,g n = .blk b ∧ w.heap[b]? = some (.cells cur e (0,0)) ∧ (∀ cs ∈ els,cs.length = aW P e) ∧ els.length * aW P e ≤ cur.size ∧
   ∀ (j k:Nat) cs x,els[j]? = some cs → cs[k]? = some x → ∃ u,cur[j * aW P e + k]? = some u ∧ RC P w R B g x u
def bf (els:List (List PV)):List (List CV):=els.map (·.map .pv)
def jK (p:Nat) (lens:List Nat):List (List CV):=lens.mapIdx fun j l => [.tl p j 0 l]
def dU (p q:Nat) (fs:List (Int × Nat × Nat)):List (List CV):=fs.mapIdx fun j f => [.pv (.sc (.int .i64 f.1)),.tl p j 0 f.2.1,.tl q j 0 f.2.2]
def kM (P:Program) (w:World) (R B:Nat → Prop) (s:GS) (e:TypeId) (els:List (List PV)):Prop :=
  (s = .nil ∧ els = []) ∨
  ∃ b cur,s = .blk b ∧ w.heap[b]? = some (.cells cur e (0,0)) ∧ (∀ cs ∈ els,cs.length = aW P e) ∧ els.length * aW P e ≤ cur.size ∧
   ∀ (j k:Nat) cs x,els[j]? = some cs → cs[k]? = some x → ∃ u,cur[j * aW P e + k]? = some u ∧ eH w R B x u
def RO (P:Program) (w:World) (R B:Nat → Prop) (g:Nat → GS) (n:Nat):Ob → Prop
 | .row e els => bJ P w R B g n e els
 | .bZ e els => bJ P w R B g n e (bf els)
 | .mp es => ∃ b kQ clock,g n = .blk b ∧ w.heap[b]? = some (.map kQ clock) ∧ kQ.toList.map (fun e => (e.key,e.val)) = es.map fun e => (Value.int .i64 e.1,Value.int .i64 e.2)
 | .pool e rows => (∃ bs,g n = .pool bs ∧ bs.length = rows.length) ∧ ∀ (k:Nat) els,rows[k]? = some els → kM P w R B ((g n).at k) e els
 | .fM e p lens => bJ P w R B g n e (jK p lens)
 | .ax e p q fs => bJ P w R B g n e (dU p q fs)
 | .unk => True
structure WF (R B:Nat → Prop) (g:Nat → GS) (w:World):Prop where
 rb:∀ b,R b → B b
 lt:∀ b,B b → b < w.heap.size
 eP:∀ n b,(g n).has b → ¬ B b ∧ b < w.heap.size
 fC:∀ n m b,(g n).has b → (g m).has b → n = m
 nd:∀ n j k b,(g n).at j = .blk b → (g n).at k = .blk b → j = k
theorem WF.own {R B:Nat → Prop} {g:Nat → GS} {w:World} (h:WF R B g w) (n b:Nat) (hg:g n = .blk b):¬ B b ∧ b < w.heap.size:=h.eP n b (GS.lX hg)
structure dK (R B:Nat → Prop) (g:Nat → GS) (w:World) (W X:List Nat) (R' B':Nat → Prop) (g':Nat → GS) (w':World):Prop where
 wf:WF R' B' g' w'
 r:∀ b,R b → R' b
 b:∀ b,B b → B' b
 os:w'.os = w.os
 tape:w'.tape = w.tape
 output:w'.output = w.output
 size:w.heap.size ≤ w'.heap.size
 heap:∀ b,b < w.heap.size → (∀ n ∈ W,¬ (g n).has b) → w'.heap[b]? = w.heap[b]?
 names:∀ n,n ∉ X → g' n = g n
 fresh:∀ n ∈ X,∀ b,(g' n).has b → w.heap.size ≤ b ∨ ∃ m ∈ W,(g m).has b
 shape:∀ n ∈ W,n ∉ X → ∀ b cur e,(g n).has b → w.heap[b]? = some (.cells cur e (0,0)) → ∃ cur',w'.heap[b]? = some (.cells cur' e (0,0)) ∧ cur'.size = cur.size
def aZ (X:List Nat):CV → CV
 | .loc n o l => bif X.elem n then .junk else .loc n o l
 | .pl n o => bif X.elem n then .junk else .pl n o
 | .fn f caps => bif caps.any X.elem then .junk else .fn f caps
 | .mref n => bif X.elem n then .junk else .mref n
 | .tl p k o l => bif X.elem p then .junk else .tl p k o l
 | .tpl p k o => bif X.elem p then .junk else .tpl p k o
 | x => x
def je (X:List Nat):SV → SV
 | .c x => .c (aZ X x)
 | .agg cs => .agg (cs.map (aZ X))
def jG (X:List Nat):AV → AV
 | .s x => .s (je X x)
 | .bV xs => .bV (xs.map (je X))
def fQ (X:List Nat):Ob → Ob
 | .row e els => .row e (els.map (·.map (aZ X)))
 | .bZ e els => .bZ e els
 | .mp es => .mp es
 | .pool e rows => .pool e rows
 | .fM e p lens => bif X.elem p then .unk else .fM e p lens
 | .ax e p q fs => bif X.elem p then .unk else bif X.elem q then .unk else .ax e p q fs
 | .unk => .unk
def iI (X:List Nat) (σ:Slots):Slots:=σ.map fun p => (p.1,jG X p.2)
def fE (X:List Nat):Mem → Mem
 | [] => []
 | (n,o) :: r => bif X.elem n then fE X r else (n,fQ X o) :: fE X r
section
variable {P:Program} {w w':World} {R B R' B':Nat → Prop} {g g':Nat → GS} {W X:List Nat}
theorem Ak (hr:∀ b,R b → R' b) (hb:∀ b,B b → B' b) {q:Bool} {b:Nat} (h:sG R B q b):sG R' B' q b:=by
 cases q
 ·exact hb _ h
 ·exact hr _ h
theorem JG (hrb:∀ b,R b → B b) {q:Bool} {b:Nat} (h:sG R B q b):B b:=by
 cases q
 ·exact h
 ·exact hrb _ h
theorem add_block (a:Addr) (n:Nat):(a.add n).block = a.block:=by unfold Addr.add; split <;> rfl
theorem eH.keep (hr:∀ b,R b → R' b) (hb:∀ b,B b → B' b) (hrb:∀ b,R b → B b) (hh:∀ b,B b → w'.heap[b]? = w.heap[b]?) {p:PV} {v:Value} (h:eH w R B p v):eH w' R' B' p v:=by
 induction h with
 | sc h => exact .sc h
 | emp => exact .emp
 | xs val hn hq hc hs hv _ ih =>
  refine .xs val hn (Ak hr hb hq) hc hs (fun j k cs p h1 h2 => ?_) ih
  rw [World.cell?_of_block (w:=w) (by rw [add_block]; exact hh _ (JG hrb hq))]
  exact hv j k cs p h1 h2
theorem eH.oneCell {p:PV} {v:Value} (h:eH w R B p v):v.oneCell' = true:=by
 cases h <;> first | assumption | rfl
theorem dK.H8 (h:dK R B g w W X R' B' g' w') (hw:WF R B g w):∀ b,B b → w'.heap[b]? = w.heap[b]? :=
 fun b hb => h.heap b (hw.lt b hb) fun n _ he => (hw.eP n b he).1 hb
theorem dK.pv (h:dK R B g w W X R' B' g' w') (hw:WF R B g w) {p:PV} {v:Value} (hp:eH w R B p v):eH w' R' B' p v :=
 hp.keep h.r h.b hw.rb (h.H8 hw)
theorem dK.eP (h:dK R B g w W X R' B' g' w') (hw:WF R B g w) {n b:Nat} (iD:n ∉ W) (hg:(g n).has b):w'.heap[b]? = w.heap[b]? :=
 h.heap b (hw.eP n b hg).2 fun m hm he => iD (hw.fC m n b he hg ▸ hm)
theorem dK.own (h:dK R B g w W X R' B' g' w') (hw:WF R B g w) {n b:Nat} (hn:n ∉ X) (iD:n ∉ W) (hg:g n = .blk b):g' n = .blk b ∧ w'.heap[b]? = w.heap[b]? :=
 ⟨(h.names n hn).trans hg,h.eP hw iD (GS.lX hg)⟩
theorem dK.Ai (h:dK R B g w W X R' B' g' w') (hw:WF R B g w) {n b:Nat} (hn:n ∉ X) (hg:(g n).has b) {cur:Array Value} {e:TypeId} (hh:w.heap[b]? = some (.cells cur e (0,0))) :
  ∃ cur',w'.heap[b]? = some (.cells cur' e (0,0)) ∧ cur'.size = cur.size:=by
 by_cases hW:n ∈ W
 ·exact h.shape n hW hn b cur e hg hh
 ·exact ⟨cur,(h.eP hw hW hg).trans hh,rfl⟩
theorem dK.own' (h:dK R B g w W X R' B' g' w') (hw:WF R B g w) {n b:Nat} (hn:n ∉ X) (hg:g n = .blk b) {cur:Array Value} {e:TypeId} (hh:w.heap[b]? = some (.cells cur e (0,0))) :
  ∃ cur',w'.heap[b]? = some (.cells cur' e (0,0)) ∧ cur'.size = cur.size:=by
 exact h.Ai hw hn (GS.lX hg) hh
theorem iE {n:Nat} (h:X.elem n = false):n ∉ X:=by
 intro hm
 rw [List.elem_eq_true_of_mem hm] at h
 cases h
theorem dK.RY (h:dK R B g w W X R' B' g' w') (hw:WF R B g w) {x:CV} {v:Value} (hp:BV P w R B g x v):BV P w' R' B' g' (aZ X x) v:=by
 cases x with
 | pv p => exact h.pv hw hp
 | px q cells =>
  obtain ⟨a,rfl,hq,hc⟩:=hp
  refine ⟨a,rfl,Ak h.r h.b hq,fun k p hk => ?_⟩
  obtain ⟨u,hu,hr⟩:=hc k p hk
  exact ⟨u,(World.cell?_of_block (w:=w) (by rw [add_block]; exact h.H8 hw _ (JG hw.rb hq))).trans hu,h.pv hw hr⟩
 | loc n off len =>
  cases hx:X.elem n with
  | true => simp only [aZ,hx,cond_true]; trivial
  | false =>
   have hn:=iE hx
   simp only [aZ,hx,cond_false]
   rcases hp with ⟨h1,h2,h3,h4⟩ | hz | ⟨b,cap,cur,e,h1,h2,h3,h4,h5,h6⟩
   ·exact .inl ⟨(h.names n hn).trans h1,h2,h3,h4⟩
   ·exact .inr (.inl hz)
   ·obtain ⟨cur',k2,k3⟩:=h.own' hw hn h1 h2
    exact .inr (.inr ⟨b,cap,cur',e,(h.names n hn).trans h1,k2,h3,h4,h5.trans k3.symm,h6⟩)
 | pl n off =>
  cases hx:X.elem n with
  | true => simp only [aZ,hx,cond_true]; trivial
  | false =>
   have hn:=iE hx
   simp only [aZ,hx,cond_false]
   obtain ⟨b,h1,h2⟩:=hp
   exact ⟨b,(h.names n hn).trans h1,h2⟩
 | fn f caps =>
  cases hx:caps.any X.elem with
  | true => simp only [aZ,hx,cond_true]; trivial
  | false =>
   simp only [aZ,hx,cond_false]
   obtain ⟨vs,h1,h2,h3⟩:=hp
   refine ⟨vs,h1,h2,fun k n hk => ?_⟩
   obtain ⟨b,k1,k2⟩:=h3 k n hk
   have hn:n ∉ X:=iE (by
    have:=List.any_eq_false.1 hx n (List.mem_of_getElem? hk)
    simpa using this)
   exact ⟨b,(h.names n hn).trans k1,k2⟩
 | mref n =>
  cases hx:X.elem n with
  | true => simp only [aZ,hx,cond_true]; trivial
  | false =>
   have hn:=iE hx
   simp only [aZ,hx,cond_false]
   obtain ⟨b,h1,h2⟩:=hp
   exact ⟨b,(h.names n hn).trans h1,h2⟩
 | tl p k off len =>
  cases hx:X.elem p with
  | true => simp only [aZ,hx,cond_true]; trivial
  | false =>
   have hn:=iE hx
   simp only [aZ,hx,cond_false]
   rcases hp with ⟨h1,h2,h3,h4⟩ | hz | ⟨b,cap,cur,e,h1,h2,h3,h4,h5,h6⟩
   ·exact .inl ⟨by rw [h.names p hn]; exact h1,h2,h3,h4⟩
   ·exact .inr (.inl hz)
   ·obtain ⟨cur',k2,k3⟩:=h.Ai hw hn (GS.kS h1) h2
    exact .inr (.inr ⟨b,cap,cur',e,by rw [h.names p hn]; exact h1,k2,h3,h4,h5.trans k3.symm,h6⟩)
 | tpl p k off =>
  cases hx:X.elem p with
  | true => simp only [aZ,hx,cond_true]; trivial
  | false =>
   have hn:=iE hx
   simp only [aZ,hx,cond_false]
   obtain ⟨b,h1,h2⟩:=hp
   exact ⟨b,by rw [h.names p hn]; exact h1,h2⟩
 | junk => trivial
theorem dK.rc (h:dK R B g w W X R' B' g' w') (hw:WF R B g w) {x:CV} {v:Value} (hp:RC P w R B g x v):RC P w' R' B' g' (aZ X x) v:=⟨hp.1,h.RY hw hp.2⟩
theorem dK.rs (h:dK R B g w W X R' B' g' w') (hw:WF R B g w) {x:SV} {v:Value} (hp:RS P w R B g x v):RS P w' R' B' g' (je X x) v:=by
 cases x with
 | c x => exact h.rc hw hp
 | agg cells =>
  obtain ⟨vs,rfl,hl,hc⟩:=hp
  refine ⟨vs,rfl,by simpa using hl,fun k x hk => ?_⟩
  rw [List.getElem?_map] at hk
  cases hx:cells[k]? with
  | none => rw [hx] at hk; cases hk
  | some y =>
   rw [hx] at hk
   injection hk with hk
   subst hk
   obtain ⟨u,hu,hr⟩:=hc k y hx
   exact ⟨u,hu,h.rc hw hr⟩
theorem dK.ra (h:dK R B g w W X R' B' g' w') (hw:WF R B g w) {x:AV} {v:Value} (hp:RA P w R B g x v):RA P w' R' B' g' (jG X x) v:=by
 cases x with
 | s x => exact h.rs hw hp
 | bV xs =>
  obtain ⟨vs,rfl,hl,hc⟩:=hp
  refine ⟨vs,rfl,by simpa using hl,fun k x hk => ?_⟩
  rw [List.getElem?_map] at hk
  cases hx:xs[k]? with
  | none => rw [hx] at hk; cases hk
  | some y =>
   rw [hx] at hk
   injection hk with hk
   subst hk
   obtain ⟨u,hu,hr⟩:=hc k y hx
   exact ⟨u,hu,h.rs hw hr⟩
theorem dK.row (h:dK R B g w W X R' B' g' w') (hw:WF R B g w) {n:Nat} (hn:n ∉ X) (iD:n ∉ W) {e:TypeId} {els:List (List CV)} (hp:bJ P w R B g n e els):bJ P w' R' B' g' n e (els.map (·.map (aZ X))):=by
 rcases hp with ⟨h1,h2⟩ | ⟨b,cur,h1,h2,h3,h4,h5⟩
 ·exact .inl ⟨(h.names n hn).trans h1,by simp [h2]⟩
 ·obtain ⟨k1,k2⟩:=h.own hw hn iD h1
  refine .inr ⟨b,cur,k1,k2.trans h2,fun cs hcs => ?_,by simpa using h4,fun j k cs x hj hk => ?_⟩
  ·obtain ⟨cs0,hm,rfl⟩:=List.mem_map.1 hcs
   simpa using h3 cs0 hm
  ·rw [List.getElem?_map] at hj
   cases hx:els[j]? with
   | none => rw [hx] at hj; cases hj
   | some y =>
    rw [hx] at hj
    injection hj with hj
    subst hj
    rw [List.getElem?_map] at hk
    cases hz:y[k]? with
    | none => rw [hz] at hk; cases hk
    | some z =>
     rw [hz] at hk
     injection hk with hk
     subst hk
     obtain ⟨u,hu,hr⟩:=h5 j k y z hx hz
     exact ⟨u,hu,h.rc hw hr⟩
theorem zD (X:List Nat) (els:List (List PV)):(bf els).map (·.map (aZ X)) = bf els:=by
 simp [bf,aZ,Function.comp_def]
theorem Ei {X:List Nat} {p:Nat} (hx:X.elem p = false) (lens:List Nat):(jK p lens).map (·.map (aZ X)) = jK p lens:=by
 refine List.ext_getElem? fun j => ?_
 simp only [jK,List.getElem?_map,List.getElem?_mapIdx,Option.map_map]
 cases lens[j]? with
 | none => rfl
 | some l => simp only [Option.map_some,Function.comp,List.map_cons,List.map_nil,aZ,hx,cond_false]
theorem Bq {X:List Nat} {p q:Nat} (hx:X.elem p = false) (hy:X.elem q = false) (fs:List (Int × Nat × Nat)):(dU p q fs).map (·.map (aZ X)) = dU p q fs:=by
 refine List.ext_getElem? fun j => ?_
 simp only [dU,List.getElem?_map,List.getElem?_mapIdx,Option.map_map]
 cases fs[j]? with
 | none => rfl
 | some f => simp only [Option.map_some,Function.comp,List.map_cons,List.map_nil,aZ,hx,hy,cond_false]
theorem dK.ro (h:dK R B g w W X R' B' g' w') (hw:WF R B g w) {n:Nat} (hn:n ∉ X) (iD:n ∉ W) {o:Ob} (hp:RO P w R B g n o):RO P w' R' B' g' n (fQ X o):=by
 cases o with
 | row e els => exact h.row hw hn iD hp
 | bZ e els =>
  have:=h.row hw hn iD (els:=bf els) hp
  rwa [zD] at this
 | mp es =>
  obtain ⟨b,kQ,clock,h1,h2,h3⟩:=hp
  obtain ⟨k1,k2⟩:=h.own hw hn iD h1
  exact ⟨b,kQ,clock,k1,k2.trans h2,h3⟩
 | pool e rows =>
  obtain ⟨⟨bs,h1,h2⟩,h3⟩:=hp
  refine ⟨⟨bs,(h.names n hn).trans h1,h2⟩,fun k els hk => ?_⟩
  rw [h.names n hn]
  rcases h3 k els hk with hnil | ⟨b,cur,k1,k2,k3,k4,k5⟩
  ·exact .inl hnil
  ·refine .inr ⟨b,cur,k1,(h.eP hw iD (GS.kS k1)).trans k2,k3,k4,fun j i cs x hj hi => ?_⟩
   obtain ⟨u,hu,hr⟩:=k5 j i cs x hj hi
   exact ⟨u,hu,h.pv hw hr⟩
 | fM e p lens =>
  have:=h.row hw hn iD (els:=jK p lens) hp
  show RO P w' R' B' g' n (bif X.elem p then .unk else .fM e p lens)
  cases hx:X.elem p with
  | true => trivial
  | false =>
   rw [Ei hx] at this
   exact this
 | ax e p q fs =>
  have:=h.row hw hn iD (els:=dU p q fs) hp
  show RO P w' R' B' g' n (bif X.elem p then .unk else bif X.elem q then .unk else .ax e p q fs)
  cases hx:X.elem p with
  | true => trivial
  | false =>
   cases hy:X.elem q with
   | true => trivial
   | false =>
    rw [Bq hx hy] at this
    exact this
 | unk => trivial
end
end
section
def lk {α:Type}:List (Nat × α) → Nat → Option α
 | [],_ => none
 | (k,v) :: r,t => bif Nat.beq k t then some v else lk r t
structure Ctx where
 w0:World
 U0:Nat → Prop
 R0:Nat → Prop
 g0:Nat → GS
 N:Nat
 pn:List Nat
structure St (P:Program) (C:Ctx) (σ:Slots) (m:Mem) (R B:Nat → Prop) (g:Nat → GS) (a:Act) (w:World):Prop where
 wf:WF R B g w
 nd:a.defers = []
 sz:a.tmps.size = C.N
 sl:∀ t v,lk σ t = some v → RA P w R B g v (a.tmps.getD t undef)
 ob:∀ n o,lk m n = some o → RO P w R B g n o
 ow:∀ n o b,lk m n = some o → (g n).has b → C.w0.heap.size ≤ b ∨ C.U0 b
 perm:∀ b,R b → C.R0 b ∨ C.w0.heap.size ≤ b
 r0:∀ b,C.R0 b → R b
 os:w.os = C.w0.os
 tape:w.tape = C.w0.tape
 output:w.output = C.w0.output
 size:C.w0.heap.size ≤ w.heap.size
 heap:∀ b,b < C.w0.heap.size → ¬ C.U0 b → w.heap[b]? = C.w0.heap[b]?
 pin:∀ n ∈ C.pn,g n = C.g0 n
 Jk:∀ n ∈ C.pn,∀ b cur e,(C.g0 n).has b → C.w0.heap[b]? = some (.cells cur e (0,0)) → ∃ cur',w.heap[b]? = some (.cells cur' e (0,0)) ∧ cur'.size = cur.size
def LT (P:Program) (o:Oper) (ins:List (Operand × AV)) (us:Mem) (v:AV) (df:Mem) (W X:List Nat):Prop :=
 ∀ (R B:Nat → Prop) (g:Nat → GS) (w:World) (a:Act),WF R B g w → (∀ p ∈ ins,RA P w R B g p.2 (a.eval p.1)) → (∀ p ∈ us,RO P w R B g p.1 p.2) →
  ∀ (K:Act → World → Prop) (Q:Exit → Act → World → Prop),
   (∀ u R' B' g' w',dK R B g w W X R' B' g' w' → (∀ b,R' b → R b ∨ w.heap.size ≤ b) → (o.dst.isSome = true → RA P w' R' B' g' v u) → (∀ p ∈ df,RO P w' R' B' g' p.1 p.2) → K (a.put o.dst u) w') → o.wp P a w K Q
def bn (σ:Slots):Operand → AV → Prop
 | .tmp t,v => lk σ t = some v
 | .const c,v => v = .s (.c (.pv (.sc c))) ∧ c.oneCell' = true
 | .func f,v => v = .s (.c (.fn f []))
 | .global _,_ => False
def EvL (σ:Slots):List (Operand × AV) → Prop
 | [] => True
 | (x,v) :: r => bn σ x v ∧ EvL σ r
def iq (m:Mem):Mem → Prop
 | [] => True
 | (n,o) :: r => lk m n = some o ∧ iq m r
def bU (σ:Slots) (d:Option Tmp) (v:AV):Slots:=match d with
 | some t => (t,v) :: σ
 | none => σ
def dG (N:Nat) (d:Option Tmp):Bool:=match d with
 | some t => Nat.blt t N
 | none => true
section
variable {P:Program} {C:Ctx} {σ σ':Slots} {m m':Mem} {R B:Nat → Prop} {g:Nat → GS} {a:Act} {w:World}
theorem bn.ra (hs:St P C σ m R B g a w) {x:Operand} {v:AV} (h:bn σ x v):RA P w R B g v (a.eval x):=by
 cases x with
 | tmp t => exact hs.sl t v h
 | const c =>
  obtain ⟨rfl,h1⟩:=h
  exact ⟨h1,.sc h1⟩
 | func f =>
  subst h
  exact ⟨rfl,[],rfl,rfl,fun k n hk => by simp at hk⟩
 | global n => exact h.elim
theorem EvL.ra (hs:St P C σ m R B g a w):∀ {ins:List (Operand × AV)},EvL σ ins → ∀ p ∈ ins,RA P w R B g p.2 (a.eval p.1)
 | [],_,p,hp => by cases hp
 | (x,v) :: r,h,p,hp => by
  cases hp with
  | head => exact bn.ra hs h.1
  | tail _ hp => exact EvL.ra hs h.2 p hp
theorem iq.ro (hs:St P C σ m R B g a w):∀ {us:Mem},iq m us → ∀ p ∈ us,RO P w R B g p.1 p.2 ∧ lk m p.1 = some p.2
 | [],_,p,hp => by cases hp
 | (n,o) :: r,h,p,hp => by
  cases hp with
  | head => exact ⟨hs.ob n o h.1,h.1⟩
  | tail _ hp => exact iq.ro hs h.2 p hp
theorem uO (X:List Nat):∀ (σ:Slots) (t:Nat),lk (iI X σ) t = (lk σ t).map (jG X)
 | [],_ => rfl
 | (k,v) :: r,t => by
  show (bif Nat.beq k t then some (jG X v) else lk (iI X r) t) = Option.map (jG X) (bif Nat.beq k t then some v else lk r t)
  cases Nat.beq k t
  ·exact uO X r t
  ·rfl
theorem uN (X:List Nat):∀ (m:Mem) (n:Nat) (o:Ob),lk (fE X m) n = some o → n ∉ X ∧ ∃ o0,lk m n = some o0 ∧ o = fQ X o0
 | [],_,_,h => by cases h
 | (k,v) :: r,n,o,h => by
  unfold fE at h
  cases hk:X.elem k with
  | true =>
   rw [hk,cond_true] at h
   obtain ⟨h1,o0,h2,h3⟩:=uN X r n o h
   refine ⟨h1,o0,?_,h3⟩
   show (bif Nat.beq k n then some v else lk r n) = some o0
   cases hb:Nat.beq k n with
   | false => exact h2
   | true =>
    have:=Nat.eq_of_beq_eq_true hb
    subst this
    exact absurd (List.mem_of_elem_eq_true hk) h1
  | false =>
   rw [hk,cond_false] at h
   change (bif Nat.beq k n then some (fQ X v) else lk (fE X r) n) = some o at h
   show n ∉ X ∧ ∃ o0,(bif Nat.beq k n then some v else lk r n) = some o0 ∧ o = fQ X o0
   cases hb:Nat.beq k n with
   | false =>
    rw [hb] at h
    exact uN X r n o h
   | true =>
    rw [hb,cond_true] at h
    have:=Nat.eq_of_beq_eq_true hb
    subst this
    injection h with h
    exact ⟨iE hk,v,rfl,h.symm⟩
theorem Dz {α:Type}:∀ (x y:List (Nat × α)) (n:Nat) (o:α),lk (x ++ y) n = some o → (∃ p ∈ x,p.1 = n ∧ p.2 = o) ∨ (n ∉ x.map (·.1) ∧ lk y n = some o)
 | [],_,_,_,h => .inr ⟨by simp,h⟩
 | (k,v) :: r,y,n,o,h => by
  change (bif Nat.beq k n then some v else lk (r ++ y) n) = some o at h
  cases hb:Nat.beq k n with
  | true =>
   rw [hb,cond_true] at h
   injection h with h
   exact .inl ⟨(k,v),List.mem_cons_self,Nat.eq_of_beq_eq_true hb,h⟩
  | false =>
   rw [hb,cond_false] at h
   rcases Dz r y n o h with ⟨p,hp,h1,h2⟩ | ⟨h0,h1⟩
   ·exact .inl ⟨p,List.mem_cons_of_mem _ hp,h1,h2⟩
   ·refine .inr ⟨fun hm => ?_,h1⟩
    cases hm with
    | head => exact Nat.ne_of_beq_eq_false hb rfl
    | tail _ hm => exact h0 hm
theorem CU (a:Act) (d t:Nat) (u:Value) (hd:d < a.tmps.size):(a.put (some d) u).tmps.getD t undef = if d = t then u else a.tmps.getD t undef:=by
 show (a.tmps.setIfInBounds d u).getD t undef = _
 simp only [Array.getD_eq_getD_getElem?,Array.getElem?_setIfInBounds]
 split
 ·subst_vars; simp [hd]
 ·rfl
theorem EP (a:Act) (d:Option Tmp) (u:Value):(a.put d u).tmps.size = a.tmps.size:=by cases d <;> simp [Act.put]
theorem EO (a:Act) (d:Option Tmp) (u:Value):(a.put d u).defers = a.defers:=by cases d <;> rfl
theorem St.step (hs:St P C σ m R B g a w) {us df:Mem} {W X:List Nat} {d:Option Tmp} {v:AV} {u:Value} {R' B':Nat → Prop} {g':Nat → GS} {w':World}
  (hus:iq m us) (hW:∀ n ∈ W,(n ∈ X ∨ n ∈ df.map (·.1)) ∧ ∃ o,(n,o) ∈ us) (hdf:∀ p ∈ df,p.1 ∈ X ∨ p.1 ∈ W) (hd:dG C.N d = true) (hpn:∀ n ∈ X,n ∉ C.pn)
  (had:dK R B g w W X R' B' g' w') (hR:∀ b,R' b → R b ∨ w.heap.size ≤ b) (hv:d.isSome = true → RA P w' R' B' g' v u) (hob:∀ p ∈ df,RO P w' R' B' g' p.1 p.2) :
  St P C (bU (iI X σ) d v) (df ++ fE X m) R' B' g' (a.put d u) w':=by
 have CW:∀ n ∈ W,∀ b,(g n).has b → C.w0.heap.size ≤ b ∨ C.U0 b:=fun n hn b hb => by
  obtain ⟨_,o,ho⟩:=hW n hn
  exact hs.ow n o b (iq.ro hs hus (n,o) ho).2 hb
 refine ⟨had.wf,(EO a d u).trans hs.nd,(EP a d u).trans hs.sz,fun t v' ht => ?_,fun n o hn => ?_,fun n o b hn hb => ?_,fun b hb => ?_,fun b hb => had.r b (hs.r0 b hb),had.os.trans hs.os,had.tape.trans hs.tape,
  had.output.trans hs.output,Nat.le_trans hs.size had.size,fun b hb hu => ?_,fun n hn => (had.names n fun h => hpn n h hn).trans (hs.pin n hn),fun n hn b cur e hg hh => ?_⟩
 ·have base:∀ t v',lk (iI X σ) t = some v' → RA P w' R' B' g' v' (a.tmps.getD t undef):=fun t v' ht => by
   rw [uO] at ht
   cases hl:lk σ t with
   | none => rw [hl] at ht; cases ht
   | some v0 =>
    rw [hl] at ht
    injection ht with ht
    subst ht
    exact had.ra hs.wf (hs.sl t v0 hl)
  cases d with
  | none => exact base t v' ht
  | some d =>
   have hlt:d < a.tmps.size:=by rw [hs.sz]; exact Nat.le_of_ble_eq_true hd
   rw [CU a d t u hlt]
   change (bif Nat.beq d t then some v else lk (iI X σ) t) = some v' at ht
   cases hb:Nat.beq d t with
   | true =>
    rw [hb,cond_true] at ht
    injection ht with ht
    subst ht
    rw [if_pos (Nat.eq_of_beq_eq_true hb)]
    exact hv rfl
   | false =>
    rw [hb,cond_false] at ht
    rw [if_neg (Nat.ne_of_beq_eq_false hb)]
    exact base t v' ht
 ·rcases Dz _ _ _ _ hn with ⟨p,hp,h1,h2⟩ | ⟨hnd,h1⟩
  ·subst h1; subst h2; exact hob p hp
  ·obtain ⟨h2,o0,h3,h4⟩:=uN X m n o h1
   subst h4
   exact had.ro hs.wf h2 (fun iD => by
    rcases (hW n iD).1 with h5 | h5
    ·exact h2 h5
    ·exact hnd h5) (hs.ob n o0 h3)
 ·rcases Dz _ _ _ _ hn with ⟨p,hp,h1,h2⟩ | ⟨hnd,h1⟩
  ·subst h1
   by_cases hX:p.1 ∈ X
   ·rcases had.fresh p.1 hX b hb with h3 | ⟨k,hk,h3⟩
    ·exact .inl (Nat.le_trans hs.size h3)
    ·exact CW k hk b h3
   ·rw [had.names p.1 hX] at hb
    exact CW p.1 ((hdf p hp).resolve_left hX) b hb
  ·obtain ⟨h2,o0,h3,_⟩:=uN X m n o h1
   rw [had.names n h2] at hb
   exact hs.ow n o0 b h3 hb
 ·rcases hR b hb with h1 | h1
  ·exact hs.perm b h1
  ·exact .inr (Nat.le_trans hs.size h1)
 ·rw [had.heap b (Nat.lt_of_lt_of_le hb hs.size) fun n hn he => by
   rcases CW n hn b he with h1 | h1
   ·omega
   ·exact hu h1]
  exact hs.heap b hb hu
 ·obtain ⟨c1,h1,h2⟩:=hs.Jk n hn b cur e hg hh
  obtain ⟨c2,h3,h4⟩:=had.Ai hs.wf (fun h => hpn n h hn) (by rw [hs.pin n hn]; exact hg) h1
  exact ⟨c2,h3,h4.trans h2⟩
theorem St.weak (hs:St P C σ m R B g a w) (h1:∀ t v,lk σ' t = some v → lk σ t = some v) (h2:∀ n o,lk m' n = some o → lk m n = some o):St P C σ' m' R B g a w :=
 { hs with sl:=fun t v h => hs.sl t v (h1 t v h),ob:=fun n o h => hs.ob n o (h2 n o h),ow:=fun n o b h => hs.ow n o b (h2 n o h) }
end
inductive It where
 | code (c:Code)
 | blk (id:Nat)
abbrev Post:=Exit → Slots → Mem → Prop
def lift (P:Program) (C:Ctx) (Q:Post) (e:Exit) (a:Act) (w:World):Prop:=∃ σ m R B g,St P C σ m R B g a w ∧ Q e σ m
def kI (P:Program) (Q:Exit → Act → World → Prop):List It → Exit → Act → World → Prop
 | [],e,a,w => Q e a w
 | .code c :: is,e,a,w => match e with
  | .normal => c.wp P (kI P Q is) a w
  | e => kI P Q is e a w
 | .blk id :: is,e,a,w => match e with
  | .exit id' => if id' = id then kI P Q is .normal a w else kI P Q is (.exit id') a w
  | e => kI P Q is e a w
def dJ (P:Program) (C:Ctx) (is:List It) (e:Exit) (σ:Slots) (m:Mem) (Q:Post):Prop :=
 ∀ R B g a w,St P C σ m R B g a w → kI P (lift P C Q) is e a w
abbrev dY (P:Program) (C:Ctx) (is:List It) (σ:Slots) (m:Mem) (Q:Post):Prop:=dJ P C is .normal σ m Q
def lQ (P:Program) (C:Ctx) (ops:Array Oper) (rest:List Oper) (is:List It) (σ:Slots) (m:Mem) (Q:Post):Prop :=
 ∀ R B g a w,St P C σ m R B g a w → wpList P ops (kI P (lift P C Q) is) rest a w
def aU (P:Program) (C:Ctx) (σ:Slots) (m:Mem) (σ':Slots) (m':Mem):Prop :=
 ∀ R B g a w,St P C σ m R B g a w → ∃ R' B' g',St P C σ' m' R' B' g' a w
def aA {τ:Type} (P:Program) (C:Ctx) (is:List It) (σ:Slots) (m:Mem) (M:Option τ) (K:τ → Post):Prop:=∀ t,M = some t → dY P C is σ m (K t)
def KP {τ:Type} (P:Program) (C:Ctx) (is:List It) (e:Exit) (σ:Slots) (m:Mem) (M:Option τ) (K:τ → Post):Prop:=∀ t,M = some t → dJ P C is e σ m (K t)
def aS {τ:Type} (P:Program) (C:Ctx) (ops:Array Oper) (rest:List Oper) (is:List It) (σ:Slots) (m:Mem) (M:Option τ) (K:τ → Post):Prop:=∀ t,M = some t → lQ P C ops rest is σ m (K t)
def bY {σ τ:Type} (b:σ → Option (σ ⊕ τ)):Nat → σ → Option τ
 | 0,_ => none
 | n + 1,s => match b s with
  | none => none
  | some (.inl s') => bY b n s'
  | some (.inr t) => some t
section
variable {P:Program} {C:Ctx} {σ σ':Slots} {m m':Mem} {is:List It} {Q:Post} {ops:Array Oper} {rest:List Oper} {τ υ:Type} {M:Option τ} {K:τ → Post}
theorem dJ.ent {e:Exit} (h:aU P C σ m σ' m') (k:dJ P C is e σ' m' Q):dJ P C is e σ m Q:=fun R B g a w hs => by
 obtain ⟨R',B',g',hs'⟩:=h R B g a w hs
 exact k _ _ _ _ _ hs'
theorem dY.nil (h:Q .normal σ m):dY P C [] σ m Q:=fun R B g a w hs => ⟨σ,m,R,B,g,hs,h⟩
theorem dY.skip (h:dY P C is σ m Q):dY P C (.code .skip :: is) σ m Q:=fun R B g a w hs => wp_skip (h R B g a w hs)
theorem dY.blk {id:Nat} (h:dY P C is σ m Q):dY P C (.blk id :: is) σ m Q:=fun R B g a w hs => h R B g a w hs
theorem dY.seq {x y:Code} (h:dY P C (.code x :: .code y :: is) σ m Q):dY P C (.code (.seq x y) :: is) σ m Q:=fun R B g a w hs =>
 wp_seq (wp_mono (h R B g a w hs) fun e a w he => by cases e <;> exact he)
theorem dY.block {id:Nat} {c:Code} (h:dY P C (.code c :: .blk id :: is) σ m Q):dY P C (.code (.block id c) :: is) σ m Q:=fun R B g a w hs =>
 wp_block (wp_mono (h R B g a w hs) fun e a w he => by
  cases e with
  | exit id' =>
   exact he
  | _ => exact he)
theorem dY.exit {id:Nat} (h:dJ P C is (.exit id) σ m Q):dY P C (.code (.exit id) :: is) σ m Q:=fun R B g a w hs => wp_exit (h R B g a w hs)
theorem dY.ret (h:dJ P C is .ret σ m Q):dY P C (.code .ret :: is) σ m Q:=fun R B g a w hs => wp_ret (h R B g a w hs)
theorem dJ.nil {e:Exit} (h:Q e σ m):dJ P C [] e σ m Q:=fun R B g a w hs => ⟨σ,m,R,B,g,hs,h⟩
theorem dJ.NJ {id:Nat} (h:dY P C is σ m Q):dJ P C (.blk id :: is) (.exit id) σ m Q:=fun R B g a w hs => by
 show (if id = id then _ else _)
 rw [if_pos rfl]
 exact h R B g a w hs
theorem dJ.Gf {id id':Nat} (hne:id' ≠ id) (h:dJ P C is (.exit id') σ m Q):dJ P C (.blk id :: is) (.exit id') σ m Q:=fun R B g a w hs => by
 show (if id' = id then _ else _)
 rw [if_neg hne]
 exact h R B g a w hs
theorem dJ.GZ {id:Nat} {c:Code} (h:dJ P C is (.exit id) σ m Q):dJ P C (.code c :: is) (.exit id) σ m Q:=fun R B g a w hs => h R B g a w hs
theorem dJ.Rh {id:Nat} (h:dJ P C is .ret σ m Q):dJ P C (.blk id :: is) .ret σ m Q:=fun R B g a w hs => h R B g a w hs
theorem dJ.Ri {c:Code} (h:dJ P C is .ret σ m Q):dJ P C (.code c :: is) .ret σ m Q:=fun R B g a w hs => h R B g a w hs
def rH (id:Nat):List It → List It
 | [] => []
 | .code _ :: is => rH id is
 | .blk i :: is => bif Nat.beq i id then is else rH id is
def nK (id:Nat):List It → Bool
 | [] => false
 | .code _ :: is => nK id is
 | .blk i :: is => Nat.beq i id || nK id is
theorem dJ.wQ {id:Nat}:∀ {is:List It},nK id is = true → dY P C (rH id is) σ m Q → dJ P C is (.exit id) σ m Q
 | [],h,_ => by cases h
 | .code c :: is,h,k => dJ.GZ (dJ.wQ (is:=is) h k)
 | .blk i :: is,h,k => by
  unfold nK at h
  unfold rH at k
  cases hb:Nat.beq i id with
  | true =>
   rw [hb,cond_true] at k
   have:=Nat.eq_of_beq_eq_true hb
   subst this
   exact dJ.NJ k
  | false =>
   rw [hb,cond_false] at k
   rw [hb,Bool.false_or] at h
   exact dJ.Gf (Ne.symm (Nat.ne_of_beq_eq_false hb)) (dJ.wQ (is:=is) h k)
theorem dJ.Az:∀ {is:List It},Q .ret σ m → dJ P C is .ret σ m Q
 | [],h => dJ.nil h
 | .code _ :: is,h => dJ.Ri (dJ.Az (is:=is) h)
 | .blk _ :: is,h => dJ.Rh (dJ.Az (is:=is) h)
theorem dY.cond {c:Operand} {x y:Code} {b:Bool} (hc:bn σ c (.s (.c (.pv (.sc (.bool b)))))) (ht:b = true → dY P C (.code x :: is) σ m Q) (hf:b = false → dY P C (.code y :: is) σ m Q) :
  dY P C (.code (.cond c x y) :: is) σ m Q:=fun R B g a w hs => by
 have hv:=bn.ra hs hc
 have he:a.eval c = .bool b:=by
  obtain ⟨_,h2⟩:=hv
  generalize a.eval c = v at h2
  cases h2
  rfl
 refine wp_cond_split he (fun h => ?_) (fun h => ?_)
 ·exact ht h R B g a w hs
 ·exact hf h R B g a w hs
theorem dY.region {id:Nat} {l:List Oper} (h:lQ P C l.toArray l is σ m Q):dY P C (.code (.region id l.toArray false) :: is) σ m Q:=fun R B g a w hs => wp_region_lit (h R B g a w hs)
theorem lQ.nil (h:dY P C is σ m Q):lQ P C ops [] is σ m Q:=fun R B g a w hs => wpList_nil (h R B g a w hs)
def bP (W X:List Nat):Bool:=W.all X.elem
def gu (X Y:List Nat):Bool:=X.all fun n => !Y.elem n
theorem zV {X Y:List Nat} (h:gu X Y = true):∀ n ∈ X,n ∉ Y:=fun n hn => by
 have:=List.all_eq_true.1 h n hn
 exact iE (by simpa using this)
def keys {α:Type} (l:List (Nat × α)):List Nat:=l.map (·.1)
theorem lu {W X:List Nat} (h:bP W X = true):∀ n ∈ W,n ∈ X:=fun n hn => List.mem_of_elem_eq_true (List.all_eq_true.1 h n hn)
theorem mem_keys {α:Type} {l:List (Nat × α)} {n:Nat} (h:n ∈ keys l):∃ o,(n,o) ∈ l:=by
 obtain ⟨p,hp,rfl⟩:=List.mem_map.1 h
 exact ⟨p.2,hp⟩
def dH (ops:Array Oper) (σ:Slots) (o:Oper) (b:Bool):Prop:=match o.guard with
 | none => b = true
 | some (j,want) => ∃ d,(ops[j]?).bind (·.dst) = some d ∧ ((∃ c,lk σ d = some (.s (.c (.pv (.sc (.bool c))))) ∧ b = (c == want)) ∨ (lk σ d = some (.bV []) ∧ b = false))
theorem dH.wanted {o:Oper} {b:Bool} {R B:Nat → Prop} {g:Nat → GS} {a:Act} {w:World} (hs:St P C σ m R B g a w) (h:dH ops σ o b):Region.wanted o (yielded ops a.tmps) = b:=by
 unfold dH at h
 unfold Region.wanted
 split at h
 ·rename_i hg; rw [hg]; exact h.symm
 ·rename_i j want hg
  obtain ⟨d,h1,⟨c,h2,h3⟩ | ⟨h2,h3⟩⟩:=h
  ·rw [hg]
   have hv:=hs.sl d _ h2
   have he:a.tmps.getD d undef = .bool c:=by
    obtain ⟨_,hv⟩:=hv
    generalize a.tmps.getD d undef = v at hv
    cases hv
    rfl
   have he':a.tmps[d]? = some (.bool c):=by
    rw [Array.getD_eq_getD_getElem?] at he
    cases hx:a.tmps[d]? with
    | none => rw [hx] at he; simp [undef] at he
    | some v => rw [hx] at he; simpa using he
   have hy:yielded ops a.tmps j = some c:=by
    unfold yielded
    rw [h1]
    simp [he']
   simp only [hy]
   rw [h3]
   cases c <;> cases want <;> rfl
  ·rw [hg]
   obtain ⟨vs,hv,hl,_⟩:=hs.sl d _ h2
   have hvs:vs = []:=List.eq_nil_of_length_eq_zero hl
   subst hvs
   have hy:yielded ops a.tmps j = none:=by
    unfold yielded
    rw [h1]
    simp only [Option.bind_some]
    rw [Array.getD_eq_getD_getElem?] at hv
    cases hx:a.tmps[d]? with
    | none => rfl
    | some v =>
     rw [hx] at hv
     have:v = .tuple #[]:=by simpa using hv
     subst this
     rfl
   simp only [hy]
   rw [h3]
   rfl
theorem lQ.step {o:Oper} {ins:List (Operand × AV)} {us df:Mem} {v:AV} {W X:List Nat} (hlt:LT P o ins us v df W X) (hi:EvL σ ins) (hu:iq m us) (hg:dH ops σ o true)
  (hside:(dG C.N o.dst && bP W (X ++ keys df) && bP W (keys us) && bP (keys df) (X ++ W) && gu X C.pn) = true) (h:lQ P C ops rest is (bU (iI X σ) o.dst v) (df ++ fE X m) Q):lQ P C ops (o :: rest) is σ m Q:=fun R B g a w hs => by
 simp only [Bool.and_eq_true] at hside
 obtain ⟨⟨⟨⟨h1,h2⟩,h3⟩,h4⟩,h5⟩:=hside
 refine wpList_step fun K' hK' => ?_
 rw [if_pos (hg.wanted hs)]
 refine hlt R B g w a hs.wf (EvL.ra hs hi) (fun p hp => (iq.ro hs hu p hp).1) K' _ fun u R' B' g' w' had hR hv hob => ?_
 exact hK' _ _ (h _ _ _ _ _ (hs.step hu (fun n hn => ⟨List.mem_append.1 (lu h2 n hn),mem_keys (lu h3 n hn)⟩) (fun p hp => List.mem_append.1 (lu h4 p.1 (List.mem_map.2 ⟨p,hp,rfl⟩))) h1 (zV h5) had hR hv hob))
theorem lQ.skip {o:Oper} (hg:dH ops σ o false) (hd:dG C.N o.dst = true) (h:lQ P C ops rest is (bU σ o.dst (.bV [])) m Q):lQ P C ops (o :: rest) is σ m Q:=fun R B g a w hs => by
 refine wpList_step fun K' hK' => ?_
 rw [if_neg (by rw [hg.wanted hs]; exact Bool.false_ne_true)]
 refine hK' _ _ (h R B g _ w ?_)
 refine { hs with nd:=(EO a _ _).trans hs.nd,sz:=(EP a _ _).trans hs.sz,sl:=fun t v ht => ?_ }
 cases hdst:o.dst with
 | none => rw [hdst] at ht; exact hs.sl t v ht
 | some d =>
  rw [hdst] at ht hd
  have hlt:d < a.tmps.size:=by rw [hs.sz]; exact Nat.le_of_ble_eq_true hd
  rw [CU a d t undef hlt]
  change (bif Nat.beq d t then some (AV.bV []) else lk σ t) = some v at ht
  cases hb:Nat.beq d t with
  | true =>
   rw [hb,cond_true] at ht
   injection ht with ht
   subst ht
   rw [if_pos (Nat.eq_of_beq_eq_true hb)]
   exact ⟨[],rfl,rfl,fun k x hk => by simp at hk⟩
  | false =>
   rw [hb,cond_false] at ht
   rw [if_neg (Nat.ne_of_beq_eq_false hb)]
   exact hs.sl t v ht
theorem aA.of (h:∀ t,M = some t → dY P C is σ m (K t)):aA P C is σ m M K:=h
theorem aA.seq {x y:Code} (h:aA P C (.code x :: .code y :: is) σ m M K):aA P C (.code (.seq x y) :: is) σ m M K:=fun t ht => dY.seq (h t ht)
theorem aA.skip (h:aA P C is σ m M K):aA P C (.code .skip :: is) σ m M K:=fun t ht => dY.skip (h t ht)
theorem aA.blk {id:Nat} (h:aA P C is σ m M K):aA P C (.blk id :: is) σ m M K:=fun t ht => dY.blk (h t ht)
theorem aA.block {id:Nat} {c:Code} (h:aA P C (.code c :: .blk id :: is) σ m M K):aA P C (.code (.block id c) :: is) σ m M K:=fun t ht => dY.block (h t ht)
theorem aA.exit {id:Nat} (hb:nK id is = true) (h:aA P C (rH id is) σ m M K):aA P C (.code (.exit id) :: is) σ m M K:=fun t ht => dY.exit (dJ.wQ hb (h t ht))
theorem aA.NK {id:Nat} {t:τ} (h:dJ P C is (.exit id) σ m (K t)):aA P C (.code (.exit id) :: is) σ m (some t) K:=fun t' ht => by
 injection ht with ht
 subst ht
 exact dY.exit h
theorem aA.ret {t:τ} (h:K t .ret σ m):aA P C (.code .ret :: is) σ m (some t) K:=fun t' ht => by
 injection ht with ht
 subst ht
 exact dY.ret (dJ.Az h)
theorem aA.nil {t:τ} (h:K t .normal σ m):aA P C [] σ m (some t) K:=fun t' ht => by
 injection ht with ht
 subst ht
 exact dY.nil h
theorem aA.region {id:Nat} {l:List Oper} (h:aS P C l.toArray l is σ m M K):aA P C (.code (.region id l.toArray false) :: is) σ m M K:=fun t ht => dY.region (h t ht)
theorem aA.ent (h:aU P C σ m σ' m') (k:aA P C is σ' m' M K):aA P C is σ m M K:=fun t ht => dJ.ent h (k t ht)
theorem aA.bind {x:Option υ} {f:υ → Option τ} (h:∀ u,x = some u → aA P C is σ m (f u) K):aA P C is σ m (x.bind f) K:=fun t ht => by
 obtain ⟨u,hu,hf⟩:=Option.bind_eq_some_iff.1 ht
 exact h u hu t hf
theorem aA.cond {c:Operand} {x y:Code} {b:Bool} {M1 M2:Option τ} (hc:bn σ c (.s (.c (.pv (.sc (.bool b)))))) (ht:b = true → aA P C (.code x :: is) σ m M1 K)
  (hf:b = false → aA P C (.code y :: is) σ m M2 K):aA P C (.code (.cond c x y) :: is) σ m (bif b then M1 else M2) K:=fun t h => by
 refine dY.cond hc (fun hb => ?_) (fun hb => ?_)
 ·subst hb; exact ht rfl t h
 ·subst hb; exact hf rfl t h
theorem aA.split {b:Bool} {M1 M2:Option τ} (ht:b = true → aA P C is σ m M1 K) (hf:b = false → aA P C is σ m M2 K):aA P C is σ m (bif b then M1 else M2) K:=fun t h => by
 cases hb:b with
 | true => rw [hb] at h; exact ht hb t h
 | false => rw [hb] at h; exact hf hb t h
theorem aA.none:aA P C is σ m (none:Option τ) K:=fun t h => by cases h
theorem aS.nil (h:aA P C is σ m M K):aS P C ops [] is σ m M K:=fun t ht => lQ.nil (h t ht)
theorem aS.bind {x:Option υ} {f:υ → Option τ} (h:∀ u,x = some u → aS P C ops rest is σ m (f u) K):aS P C ops rest is σ m (x.bind f) K:=fun t ht => by
 obtain ⟨u,hu,hf⟩:=Option.bind_eq_some_iff.1 ht
 exact h u hu t hf
theorem aS.split {b:Bool} {M1 M2:Option τ} (ht:b = true → aS P C ops rest is σ m M1 K) (hf:b = false → aS P C ops rest is σ m M2 K):aS P C ops rest is σ m (bif b then M1 else M2) K:=fun t h => by
 cases hb:b with
 | true => rw [hb] at h; exact ht hb t h
 | false => rw [hb] at h; exact hf hb t h
theorem aS.step {o:Oper} {ins:List (Operand × AV)} {us df:Mem} {v:AV} {W X:List Nat} (hlt:LT P o ins us v df W X) (hi:EvL σ ins) (hu:iq m us) (hg:dH ops σ o true)
  (hside:(dG C.N o.dst && bP W (X ++ keys df) && bP W (keys us) && bP (keys df) (X ++ W) && gu X C.pn) = true) (h:aS P C ops rest is (bU (iI X σ) o.dst v) (df ++ fE X m) M K):aS P C ops (o :: rest) is σ m M K :=
 fun t ht => lQ.step hlt hi hu hg hside (h t ht)
theorem aS.skip {o:Oper} (hg:dH ops σ o false) (hd:dG C.N o.dst = true) (h:aS P C ops rest is (bU σ o.dst (.bV [])) m M K):aS P C ops (o :: rest) is σ m M K :=
 fun t ht => lQ.skip hg hd (h t ht)
theorem FO:∀ l:List Nat,l.any (List.elem · []) = false
 | [] => rfl
 | _ :: r => FO r
theorem xP (x:CV):aZ [] x = x:=by
 cases x with
 | fn f caps => show (bif caps.any (List.elem · []) then CV.junk else CV.fn f caps) = _; rw [FO]; rfl
 | _ => rfl
theorem Hz (x:SV):je [] x = x:=by
 cases x with
 | c x => simp [je,xP]
 | agg cs => simp [je,List.map_congr_left (fun x _ => xP x)]
theorem QK (x:AV):jG [] x = x:=by
 cases x with
 | s x => simp [jG,Hz]
 | bV xs => simp [jG,List.map_congr_left (fun x _ => Hz x)]
theorem QN (x:Ob):fQ [] x = x:=by
 cases x with
 | row e els => simp [fQ,List.map_congr_left (fun x _ => xP x)]
 | bZ e els => rfl
 | mp es => rfl
 | pool e rows => rfl
 | fM e p lens => rfl
 | ax e p q fs => rfl
 | unk => rfl
theorem xR (σ:Slots):iI [] σ = σ:=by
 unfold iI
 rw [List.map_congr_left (g:=id) fun p _ => by rw [QK]; rfl,List.map_id]
theorem uI:∀ m:Mem,fE [] m = m
 | [] => rfl
 | (n,o) :: r => by simp [fE,List.elem,QN,uI r]
theorem aS.pure {o:Oper} {ins:List (Operand × AV)} {us:Mem} {v:AV} (hlt:LT P o ins us v [] [] []) (hi:EvL σ ins) (hu:iq m us) (hg:dH ops σ o true)
  (hd:dG C.N o.dst = true) (h:aS P C ops rest is (bU σ o.dst v) m M K):aS P C ops (o :: rest) is σ m M K :=
 aS.step hlt hi hu hg (by rw [hd]; rfl) (by rw [xR,uI]; exact h)
theorem aA.join {c:Code} {M1:Option υ} {f:υ → Option τ} (S:υ → Slots × Mem) (h1:aA P C [.code c] σ m M1 fun t e σ' m' => e = .normal ∧ aU P C σ' m' (S t).1 (S t).2)
  (h2:∀ t,M1 = some t → aA P C is (S t).1 (S t).2 (f t) K):aA P C (.code c :: is) σ m (M1.bind f) K:=fun t ht R B g a w hs => by
 obtain ⟨u,hu,hf⟩:=Option.bind_eq_some_iff.1 ht
 refine wp_mono (h1 u hu R B g a w hs) fun e a w he => ?_
 obtain ⟨σ',m',R',B',g',hs',rfl,hent⟩:=he
 obtain ⟨R2,B2,g2,hs2⟩:=hent _ _ _ _ _ hs'
 exact h2 u hu t hf _ _ _ _ _ hs2
theorem dY.loop {σs:Type} {body:Code} (bm:σs → Option (σs ⊕ τ)) (S:σs → Slots × Mem) (Lv:τ → Post)
  (hb:∀ s,aA P C [.code body] (S s).1 (S s).2 (bm s) fun o e σ m => match o with
   | .inl s' => e = .normal ∧ aU P C σ m (S s').1 (S s').2
   | .inr t => e ≠ .normal ∧ Lv t e σ m)
  (t:τ) (hl:∀ e σ m,Lv t e σ m → dJ P C is e σ m Q):∀ (n:Nat) (s:σs),bY bm n s = some t → dY P C (.code (.loop body) :: is) (S s).1 (S s).2 Q:=by
 intro n s hM R B g a w hs
 refine wp_loop_rounds n ?_
 induction n generalizing s R B g a w with
 | zero => cases hM
 | succ n ih =>
  rw [rounds_succ]
  unfold bY at hM
  cases hbs:bm s with
  | none => rw [hbs] at hM; cases hM
  | some o =>
   rw [hbs] at hM
   refine wp_mono (hb s o hbs R B g a w hs) fun e a' w' he => ?_
   obtain ⟨σ',m',R',B',g',hs',hp⟩:=he
   cases o with
   | inl s' =>
    obtain ⟨rfl,hent⟩:=hp
    obtain ⟨R2,B2,g2,hs2⟩:=hent _ _ _ _ _ hs'
    exact ih s' hM _ _ _ _ _ hs2
   | inr t' =>
    obtain ⟨hne,hlv⟩:=hp
    change some t' = some t at hM
    injection hM with hM
    subst hM
    have hk:=hl e σ' m' hlv _ _ _ _ _ hs'
    cases e with
    | normal => exact absurd rfl hne
    | _ => exact hk
theorem aA.loop {σs:Type} {body:Code} (bm:σs → Option (σs ⊕ υ)) (S:σs → Slots × Mem) (Lv:υ → Post) {f:υ → Option τ} {n:Nat} {s:σs}
  (hb:∀ s,aA P C [.code body] (S s).1 (S s).2 (bm s) fun o e σ m => match o with
   | .inl s' => e = .normal ∧ aU P C σ m (S s').1 (S s').2
   | .inr t => e ≠ .normal ∧ Lv t e σ m)
  (h0:aU P C σ m (S s).1 (S s).2) (hl:∀ u e σ m,bY bm n s = some u → Lv u e σ m → KP P C is e σ m (f u) K):aA P C (.code (.loop body) :: is) σ m ((bY bm n s).bind f) K:=fun t ht => by
 obtain ⟨u,hu,hf⟩:=Option.bind_eq_some_iff.1 ht
 exact dJ.ent h0 (dY.loop bm S Lv hb u (fun e σ m hlv => hl u e σ m hu hlv t hf) n s hu)
end
end
section
abbrev iC (n:Int):CV:=.pv (.sc (.int .i64 n))
abbrev bC (b:Bool):CV:=.pv (.sc (.bool b))
abbrev sC (v:Value):CV:=.pv (.sc v)
abbrev Cc (x:CV):AV:=.s (.c x)
abbrev Ag (cs:List CV):AV:=.s (.agg cs)
abbrev Iv (n:Int):AV:=.s (.c (.pv (.sc (.int .i64 n))))
abbrev Bv (b:Bool):AV:=.s (.c (.pv (.sc (.bool b))))
abbrev Sv (v:Value):AV:=.s (.c (.pv (.sc v)))
abbrev fU:Value:=.slice none 0 0
def aJ (n:Int):Int:=IntKind.i64.wrap n
theorem Sz {n:Int} (h1:-9223372036854775808 ≤ n) (h2:n ≤ 9223372036854775807):aJ n = n:=by
 unfold aJ; rw [IntKind.wrap_i64]; omega
theorem kZ {P:Program} {w:World} {R B:Nat → Prop} {g:Nat → GS} {c v:Value} (h:RA P w R B g (.s (.c (.pv (.sc c)))) v):v = c:=by
 obtain ⟨_,h2⟩:=h
 cases h2
 rfl
theorem oN {P:Program} {w:World} {R B:Nat → Prop} {g:Nat → GS} {c:Value} (h:c.oneCell' = true):RA P w R B g (.s (.c (.pv (.sc c)))) c:=⟨h,.sc h⟩
theorem dK.refl {R B:Nat → Prop} {g:Nat → GS} {w:World} (h:WF R B g w):dK R B g w [] [] R B g w :=
 ⟨h,fun _ h => h,fun _ h => h,rfl,rfl,rfl,Nat.le_refl _,fun _ _ _ => rfl,fun _ _ => rfl,fun n hn => (by cases hn),fun n hn => (by cases hn)⟩
section
variable {P:Program} {o:Oper} {us:Mem}
theorem LT.calm {ins:List (Operand × AV)} {v:AV}
  (h:∀ R B g w (a:Act),WF R B g w → (∀ p ∈ ins,RA P w R B g p.2 (a.eval p.1)) → (∀ p ∈ us,RO P w R B g p.1 p.2) → ∃ u,(execOp a.eval o).run P w = .ok (.value u) w ∧ RA P w R B g v u):LT P o ins us v [] [] []:=by
 intro R B g w a hw hi hu K Q hK
 obtain ⟨u,hr,hv⟩:=h R B g w a hw hi hu
 unfold Oper.wp
 rw [hr]
 exact hK u R B g w (.refl hw) (fun b hb => .inl hb) (fun _ => hv) (fun p hp => by cases hp)
theorem in1 {P:Program} {w:World} {R B:Nat → Prop} {g:Nat → GS} {a:Act} {x:Operand} {v:AV} {r:List (Operand × AV)} (h:∀ p ∈ (x,v) :: r,RA P w R B g p.2 (a.eval p.1)):RA P w R B g v (a.eval x):=h (x,v) List.mem_cons_self
theorem in2 {P:Program} {w:World} {R B:Nat → Prop} {g:Nat → GS} {a:Act} {x y:Operand} {v u:AV} {r:List (Operand × AV)} (h:∀ p ∈ (x,v) :: (y,u) :: r,RA P w R B g p.2 (a.eval p.1)):RA P w R B g u (a.eval y):=h (y,u) (List.mem_cons_of_mem _ List.mem_cons_self)
theorem nX {P:Program} {w:World} {R B:Nat → Prop} {g:Nat → GS} {n:Nat} {ob:Ob} {r:Mem} (h:∀ p ∈ (n,ob) :: r,RO P w R B g p.1 p.2):RO P w R B g n ob:=h (n,ob) List.mem_cons_self
theorem J4 {P:Program} {w:World} {R B:Nat → Prop} {g:Nat → GS} {n k:Nat} {ob oc:Ob} {r:Mem} (h:∀ p ∈ (n,ob) :: (k,oc) :: r,RO P w R B g p.1 p.2):RO P w R B g k oc:=h (k,oc) (List.mem_cons_of_mem _ List.mem_cons_self)
theorem LT.move {x:Operand} {v:AV} (ho:o.op = .move x):LT P o [(x,v)] [] v [] [] []:=.calm fun R B g w a _ hi _ => ⟨a.eval x,by simp [execOp,ho],in1 hi⟩
theorem LT.assign {x:Operand} {v:AV} (ho:o.op = .assign x):LT P o [(x,v)] [] v [] [] []:=.calm fun R B g w a _ hi _ => ⟨a.eval x,by simp [execOp,ho],in1 hi⟩
theorem LT.mQ {c x y:Operand} {v:AV} {b:Bool} (ho:o.op = .pick c x y) (hb:b = true):LT P o [(c,Bv b),(x,v)] [] v [] [] []:=.calm fun R B g w a _ hi _ =>
 ⟨a.eval x,by simp [execOp,ho,kZ (in1 hi),hb,asBool],in2 hi⟩
theorem LT.nT {c x y:Operand} {v:AV} {b:Bool} (ho:o.op = .pick c x y) (hb:b = false):LT P o [(c,Bv b),(y,v)] [] v [] [] []:=.calm fun R B g w a _ hi _ =>
 ⟨a.eval y,by simp [execOp,ho,kZ (in1 hi),hb,asBool],in2 hi⟩
theorem LT.bin {op:BinOp} {t t':TypeId} {x y:Operand} {k k':IntKind} {m n:Int} {r:Value} (ho:o.op = .binOp op t x y t') (hr:r.oneCell' = true) (h:binOp op t (.int k m) (.int k' n) = pure r) :
  LT P o [(x,Sv (.int k m)),(y,Sv (.int k' n))] [] (Sv r) [] [] []:=.calm fun R B g w a _ hi _ =>
 ⟨r,by simp [execOp,ho,kZ (in1 hi),kZ (in2 hi),eqGuard_at_int,h],oN hr⟩
section
variable {t t':TypeId} {x y:Operand} {k:IntKind} {m n:Int}
theorem LT.add (ho:o.op = .binOp .add t x y t'):LT P o [(x,Iv m),(y,Iv n)] [] (Iv (aJ (m + n))) [] [] []:=.bin ho rfl (by rw [binOp_add]; rfl)
theorem LT.sub (ho:o.op = .binOp .sub t x y t'):LT P o [(x,Iv m),(y,Iv n)] [] (Iv (aJ (m - n))) [] [] []:=.bin ho rfl (by rw [binOp_sub]; rfl)
theorem LT.mul (ho:o.op = .binOp .mul t x y t'):LT P o [(x,Iv m),(y,Iv n)] [] (Iv (aJ (m * n))) [] [] []:=.bin ho rfl (by rw [binOp_mul]; rfl)
theorem LT.quo (ho:o.op = .binOp .quo t x y t') (hn:n ≠ 0):LT P o [(x,Iv m),(y,Iv n)] [] (Iv (aJ (m.tdiv n))) [] [] []:=.bin ho rfl (by rw [binOp_quo]; simp [Op.intDiv,hn]; rfl)
theorem LT.rem (ho:o.op = .binOp .rem t x y t') (hn:n ≠ 0):LT P o [(x,Iv m),(y,Iv n)] [] (Iv (m.tmod n)) [] [] []:=.bin ho rfl (by rw [binOp_rem]; simp [Op.intDiv,hn])
theorem LT.lss (ho:o.op = .binOp .lss t x y t'):LT P o [(x,Sv (.int k m)),(y,Sv (.int k n))] [] (Bv (decide (m < n))) [] [] []:=.bin ho rfl (binOp_lss ..)
theorem LT.leq (ho:o.op = .binOp .leq t x y t'):LT P o [(x,Sv (.int k m)),(y,Sv (.int k n))] [] (Bv (decide (m ≤ n))) [] [] []:=.bin ho rfl (binOp_leq ..)
theorem LT.gtr (ho:o.op = .binOp .gtr t x y t'):LT P o [(x,Sv (.int k m)),(y,Sv (.int k n))] [] (Bv (decide (n < m))) [] [] []:=.bin ho rfl (binOp_gtr ..)
theorem LT.geq (ho:o.op = .binOp .geq t x y t'):LT P o [(x,Sv (.int k m)),(y,Sv (.int k n))] [] (Bv (decide (n ≤ m))) [] [] []:=.bin ho rfl (binOp_geq ..)
theorem LT.eql (ho:o.op = .binOp .eql t x y t'):LT P o [(x,Sv (.int k m)),(y,Sv (.int k n))] [] (Bv (m == n)) [] [] []:=.bin ho rfl (binOp_eql ..)
theorem LT.neq (ho:o.op = .binOp .neq t x y t'):LT P o [(x,Sv (.int k m)),(y,Sv (.int k n))] [] (Bv (m != n)) [] [] []:=.bin ho rfl (binOp_neq ..)
theorem LT.not {b:Bool} (ho:o.op = .unOp .not t x):LT P o [(x,Bv b)] [] (Bv (!b)) [] [] []:=.calm fun R B g w a _ hi _ =>
 ⟨.bool (!b),by simp [execOp,ho,kZ (in1 hi),Op.unary],oN rfl⟩
end
theorem run_equal_bool {P:Program} {t:TypeId} (ht:P.underlying t = some .bool) (b c:Bool) (w:World):(Op.equal t (.bool b) (.bool c)).run P w = .ok (b == c) w:=by
 have h:∀ d:Nat,(Op.equalIn (d + 1) t (.bool b) (.bool c)).run P w = .ok (b == c) w:=fun d => by simp [Op.equalIn,run_underlying ht]
 exact h 9999
theorem LT.ED {t t':TypeId} {x y:Operand} {b c:Bool} (ho:o.op = .binOp .neq t x y t') (ht:P.underlying t = some .bool):LT P o [(x,Bv b),(y,Bv c)] [] (Bv (b != c)) [] [] []:=.calm fun R B g w a _ hi _ =>
 ⟨.bool (b != c),by simp [execOp,ho,kZ (in1 hi),kZ (in2 hi),eqGuard_at_bool,binOp,run_equal_bool ht,bne],oN rfl⟩
theorem LT.QX {x:Operand} {t e:TypeId} {q:Bool} {els:List (List PV)} (ho:o.op = .call { callee:=.builtin .len,args:=#[x],argTypes:=#[t] }) (ht:P.underlying t = some (.slice e)) :
  LT P o [(x,Cc (.pv (.xs q els)))] [] (Iv els.length) [] [] []:=.calm fun R B g w a _ hi _ => by
 obtain ⟨_,h⟩:=in1 hi
 generalize hx:a.eval x = v at h
 cases h with
 | emp => exact ⟨.int .i64 0,by simp [execOp,ho,resolve,invoke,builtin,hx,Builtin.len_,run_underlying ht,goInt],oN rfl⟩
 | xs val hn hq hc hs hv hr => subst hn; exact ⟨.int .i64 els.length,by simp [execOp,ho,resolve,invoke,builtin,hx,Builtin.len_,run_underlying ht,goInt],oN rfl⟩
theorem LT.Dx {x:Operand} {t e:TypeId} {n off len:Nat} (ho:o.op = .call { callee:=.builtin .len,args:=#[x],argTypes:=#[t] }) (ht:P.underlying t = some (.slice e)) :
  LT P o [(x,Cc (.loc n off len))] [] (Iv len) [] [] []:=.calm fun R B g w a _ hi _ => by
 obtain ⟨_,h⟩:=in1 hi
 refine ⟨.int .i64 len,?_,oN rfl⟩
 rcases h with ⟨_,_,rfl,h⟩ | ⟨rfl,_,_,_,h⟩ | ⟨b,cap,cur,e',_,_,_,_,_,h⟩ <;> simp [execOp,ho,resolve,invoke,builtin,h,Builtin.len_,run_underlying ht,goInt]
theorem LT.min {x y:Operand} {ts:Array TypeId} {m n:Int} (ho:o.op = .call { callee:=.builtin .min,args:=#[x,y],argTypes:=ts }):LT P o [(x,Iv m),(y,Iv n)] [] (Iv (if n < m then n else m)) [] [] []:=.calm fun R B g w a _ hi _ =>
 ⟨.int .i64 (if n < m then n else m),by simp [execOp,ho,resolve,invoke,builtin,kZ (in1 hi),kZ (in2 hi),Builtin.min_,Builtin.min2],oN rfl⟩
theorem LT.max {x y:Operand} {ts:Array TypeId} {m n:Int} (ho:o.op = .call { callee:=.builtin .max,args:=#[x,y],argTypes:=ts }):LT P o [(x,Iv m),(y,Iv n)] [] (Iv (if m < n then n else m)) [] [] []:=.calm fun R B g w a _ hi _ =>
 ⟨.int .i64 (if m < n then n else m),by simp [execOp,ho,resolve,invoke,builtin,kZ (in1 hi),kZ (in2 hi),Builtin.max_,Builtin.max2],oN rfl⟩
theorem LT.extract {x:Operand} {k:Nat} {vs:List SV} {v:SV} (ho:o.op = .extract x k) (hk:vs[k]? = some v):LT P o [(x,.bV vs)] [] (.s v) [] [] []:=.calm fun R B g w a _ hi _ => by
 obtain ⟨us,hx,hl,h⟩:=in1 hi
 obtain ⟨u,hu,hr⟩:=h k v hk
 exact ⟨u,by simp [execOp,ho,hx,Instr.extract,hu],hr⟩
def iy (P:Program) (t:TypeId) (i:Nat):Option Nat :=
 match P.underlying t with
 | some (.struct fs) => match fs[i]? with
  | some f => match P.info? f.type with
   | some j => if j.size = 0 then none else some f.offset
   | none => none
  | none => none
 | _ => none
theorem Jc {t:TypeId} {i off:Nat} (h:iy P t i = some off) (a:Addr) (w:World):(Instr.fieldAt t (.pointer (some a)) i).run P w = .ok (.pointer (some (a.add off))) w:=by
 unfold iy at h
 split at h
 ·rename_i fs hf
  split at h
  ·rename_i f hfi
   split at h
   ·rename_i j hj
    split at h
    ·cases h
    ·rename_i h0
     injection h with h
     subst h
     simp [Instr.fieldAt,run_underlying hf,hfi,Instr.sureAddr,fieldPlace,sizeOf,typeInfo,hj,h0]
   ·cases h
  ·cases h
 ·cases h
theorem add_lit (b i n:Nat):(⟨b,i,none⟩:Addr).add n = ⟨b,i + n,none⟩:=Addr.add_lit b i n
theorem add_add (a:Addr) (i j:Nat):(a.add i).add j = a.add (i + j):=by
 unfold Addr.add
 by_cases hi:i = 0 <;> by_cases hj:j = 0 <;> simp [hi,hj,Nat.add_assoc]
theorem LT.dO {x:Operand} {t:TypeId} {i n off d:Nat} (ho:o.op = .fieldAddr t x i) (h:iy P t i = some d):LT P o [(x,Cc (.pl n off))] [] (Cc (.pl n (off + d))) [] [] []:=.calm fun R B g w a _ hi _ => by
 obtain ⟨_,b,h2,h3⟩:=in1 hi
 exact ⟨.pointer (some ⟨b,off + d,none⟩),by simp [execOp,ho,h3,Jc h,add_lit],rfl,b,h2,rfl⟩
theorem LT.jw {x:Operand} {t:TypeId} {i d:Nat} {q:Bool} {cs:List PV} (ho:o.op = .fieldAddr t x i) (h:iy P t i = some d):LT P o [(x,Cc (.px q cs))] [] (Cc (.px q (cs.drop d))) [] [] []:=.calm fun R B g w a _ hi _ => by
 obtain ⟨_,ad,h2,h3,h4⟩:=in1 hi
 refine ⟨.pointer (some (ad.add d)),by simp [execOp,ho,h2,Jc h],rfl,ad.add d,rfl,by rw [add_block]; exact h3,fun k p hk => ?_⟩
 rw [List.getElem?_drop] at hk
 rw [add_add]
 exact h4 _ p hk
theorem Ef {e:TypeId} {i:TypeInfo} (h:P.info? e = some i):aW P e = i.size:=by simp [aW,h]
theorem run_sizeOf {e:TypeId} {i:TypeInfo} (h:P.info? e = some i) (w:World):(sizeOf e).run P w = .ok (aW P e) w:=by simp [sizeOf,typeInfo,h,Ef h]
def lH (P:Program) (t:TypeId):Option TypeId :=
 match P.underlying t with
 | some (.slice e) => if (P.info? e).isSome then some e else none
 | _ => none
theorem Me {t e:TypeId} (h:lH P t = some e):P.underlying t = some (.slice e) ∧ ∃ i,P.info? e = some i:=by
 unfold lH at h
 split at h
 ·rename_i e' he
  split at h
  ·rename_i hi
   injection h with h
   subst h
   exact ⟨he,Option.isSome_iff_exists.1 hi⟩
  ·cases h
 ·cases h
theorem run_indexAt {t e:TypeId} (h:lH P t = some e) (a:Addr) (len cap:Nat) (k:IntKind) (i:Int) (h0:0 ≤ i) (h1:i < len) (w:World) :
  (Instr.indexAt t (.slice (some a) len cap) (.int k i)).run P w = .ok (.pointer (some (a.add (i.toNat * aW P e)))) w:=by
 obtain ⟨h2,j,h3⟩:=Me h
 simp [Instr.indexAt,run_underlying h2,asIntOf,h0,h1,run_sizeOf h3]
theorem LT.P5 {x y:Operand} {t e:TypeId} {i:Int} {q:Bool} {els:List (List PV)} {cs:List PV} (ho:o.op = .indexAddr t x y) (h:lH P t = some e) (h0:0 ≤ i) (hc:els[i.toNat]? = some cs) (hs:cs.length = aW P e) :
  LT P o [(x,Cc (.pv (.xs q els))),(y,Iv i)] [] (Cc (.px q cs)) [] [] []:=.calm fun R B g w a _ hi _ => by
 have hy:=kZ (in2 hi)
 obtain ⟨_,h⟩:=in1 hi
 generalize hx:a.eval x = v at h
 cases h with
 | emp => cases hc
 | @xs _ _ ad c s n val hn hq hl hs' hv hr =>
  have hlt:i.toNat < els.length:=(List.getElem?_eq_some_iff.1 hc).1
  have hsz:s = aW P e:=by rw [← hs]; exact (hs' cs (List.mem_of_getElem? hc)).symm
  subst hn
  refine ⟨.pointer (some (ad.add (i.toNat * aW P e))),by simp [execOp,ho,hx,hy,run_indexAt h ad els.length c .i64 i h0 (by omega)],rfl,_,rfl,by rw [add_block]; exact hq,fun k p hk => ?_⟩
  rw [add_add,← hsz]
  exact ⟨_,hv _ _ _ _ hc hk,hr _ _ _ _ hc hk⟩
theorem LT.Hr {x y:Operand} {t e:TypeId} {i:Int} {n len:Nat} {els:List (List CV)} (ho:o.op = .indexAddr t x y) (h:lH P t = some e) (h0:0 ≤ i) (h1:i < len) :
  LT P o [(x,Cc (.loc n 0 len)),(y,Iv i)] [(n,.row e els)] (Cc (.pl n (i.toNat * aW P e))) [] [] []:=.calm fun R B g w a _ hi hu => by
 have hy:=kZ (in2 hi)
 obtain ⟨_,h2⟩:=in1 hi
 rcases h2 with ⟨_,_,rfl,_⟩ | ⟨rfl,_⟩ | ⟨b,cap,cur,e',k1,k2,k3,k4,k5,k6⟩
 ·omega
 ·omega
 ·have he:e' = e:=by
   rcases nX hu with ⟨h5,_⟩ | ⟨b',cur',h5,h6,_⟩
   ·rw [k1] at h5; cases h5
   ·rw [k1] at h5
    injection h5 with h5
    subst h5
    rw [k2] at h6
    injection h6 with h6
    injection h6
  subst he
  simp only [Nat.zero_mul] at k6
  exact ⟨.pointer (some ⟨b,i.toNat * aW P e',none⟩),by simp [execOp,ho,k6,hy,run_indexAt h ⟨b,0,none⟩ len cap .i64 i h0 h1,add_lit],rfl,b,k1,rfl⟩
def fP (P:Program) (t:TypeId):Option Bool :=
 match P.underlying t with
 | some (.struct _) | some (.array ..) => some true
 | some _ => some false
 | none => none
theorem EU {t:TypeId} {b:Bool} (h:fP P t = some b) (w:World):(isAgg t).run P w = .ok b w:=by
 unfold fP at h
 split at h
 ·rename_i fs hf; injection h with h; subst h; simp [isAgg,run_underlying hf]
 ·rename_i n e hf; injection h with h; subst h; simp [isAgg,run_underlying hf]
 ·rename_i d h1 h2 hd
  injection h with h
  subst h
  simp only [isAgg,Sem.run_bind,run_underlying hd,Result.andThen_ok]
  rfl
 ·cases h
theorem Jd {t:TypeId} (h:fP P t = some false) {a:Addr} {w:World} {v:Value} (hc:w.cell? a = some v):(Instr.loadAt t (.pointer (some a))).run P w = .ok v w:=by
 simp [Instr.loadAt,Instr.sureAddr,loadVar,EU h,hc]
theorem Je {t:TypeId} (h:fP P t = some true) {i:TypeInfo} (hi:P.info? t = some i) {a:Addr} {w:World} {cs:List Value} (hl:cs.length = aW P t) (hc:∀ j v,cs[j]? = some v → w.cell? (a.add j) = some v) :
  (Instr.loadAt t (.pointer (some a))).run P w = .ok (.agg cs.toArray) w:=by
 simp [Instr.loadAt,Instr.sureAddr,loadVar,EU h,run_sizeOf hi,← hl,run_loadCells_list w a cs hc]
theorem LT.jk {x:Operand} {t:TypeId} {q:Bool} {p:PV} {cs:List PV} (ho:o.op = .load t x) (h:fP P t = some false):LT P o [(x,Cc (.px q (p :: cs)))] [] (Cc (.pv p)) [] [] []:=.calm fun R B g w a _ hi _ => by
 obtain ⟨_,ad,h2,h3,h4⟩:=in1 hi
 obtain ⟨u,hu,hr⟩:=h4 0 p rfl
 have h0:ad.add 0 = ad:=Addr.add_zero' ad
 rw [h0] at hu
 exact ⟨u,by simp [execOp,ho,h2,Jd h hu],hr.oneCell,hr⟩
theorem zU {α:Type} {T:Value → Nat → Prop} {Rl:α → Value → Prop}:∀ (cs:List α) (off:Nat),(∀ k x,cs[k]? = some x → ∃ u,T u (off + k) ∧ Rl x u) → ∃ us:List Value,us.length = cs.length ∧ (∀ (k:Nat) u,us[k]? = some u → T u (off + k)) ∧ ∀ (k:Nat) x,cs[k]? = some x → ∃ u,us[k]? = some u ∧ Rl x u
 | [],_,_ => ⟨[],rfl,fun k u h => by simp at h,fun k x h => by simp at h⟩
 | c :: cs,off,h => by
  obtain ⟨u,hu,hr⟩:=h 0 c rfl
  obtain ⟨us,h1,h2,h3⟩:=zU cs (off + 1) fun k x hk => by
   have:=h (k + 1) x hk
   rwa [show off + (k + 1) = off + 1 + k by omega] at this
  refine ⟨u :: us,by simp [h1],fun k v hk => ?_,fun k x hk => ?_⟩
  ·cases k with
   | zero => simp at hk; subst hk; exact hu
   | succ k =>
    have:=h2 k v (by simpa using hk)
    rwa [show off + 1 + k = off + (k + 1) by omega] at this
  ·cases k with
   | zero => simp at hk; subst hk; exact ⟨u,rfl,hr⟩
   | succ k => exact h3 k x (by simpa using hk)
theorem LT.Qa {x:Operand} {t:TypeId} {q:Bool} {cs:List PV} (ho:o.op = .load t x) (h:fP P t = some true) {i:TypeInfo} (hi:P.info? t = some i) (hl:cs.length = aW P t) :
  LT P o [(x,Cc (.px q cs))] [] (Ag (cs.map .pv)) [] [] []:=.calm fun R B g w a _ hin _ => by
 obtain ⟨_,ad,h2,h3,h4⟩:=in1 hin
 obtain ⟨us,k1,k2,k3⟩:=zU (T:=fun u k => w.cell? (ad.add k) = some u) (Rl:=fun p u => eH w R B p u) cs 0 (fun k x hk => by simpa using h4 k x hk)
 refine ⟨.agg us.toArray,?_,us,rfl,by simpa using k1,fun k x hk => ?_⟩
 ·have:=Je (P:=P) h hi (a:=ad) (w:=w) (cs:=us) (k1.trans hl) (fun j v hj => by simpa using k2 j v hj)
  simp [execOp,ho,h2,this]
 ·rw [List.getElem?_map] at hk
  cases hc:cs[k]? with
  | none => rw [hc] at hk; cases hk
  | some p =>
   rw [hc] at hk
   injection hk with hk
   subst hk
   obtain ⟨u,hu,hr⟩:=k3 k p hc
   exact ⟨u,hu,hr.oneCell,hr⟩
theorem sJ {w:World} {b:Nat} {cur:Array Value} {e:TypeId} (h:w.heap[b]? = some (.cells cur e (0,0))) (i:Nat):w.cell? ⟨b,i,none⟩ = cur[i]?:=cell_of_row w b i cur e (0,0) h
theorem EL {w:World} {R B:Nat → Prop} {g:Nat → GS} {n:Nat} {e:TypeId} {els:List (List CV)} (h:RO P w R B g n (.row e els)) {b:Nat} (hb:g n = .blk b) {j:Nat} {cs:List CV} (hj:els[j]? = some cs) :
  cs.length = aW P e ∧ ∀ k x,cs[k]? = some x → ∃ u,w.cell? ⟨b,j * aW P e + k,none⟩ = some u ∧ RC P w R B g x u:=by
 rcases h with ⟨h1,_⟩ | ⟨b',cur,h1,h2,h3,h4,h5⟩
 ·rw [hb] at h1; cases h1
 ·rw [hb] at h1
  injection h1 with h1
  subst h1
  refine ⟨h3 cs (List.mem_of_getElem? hj),fun k x hk => ?_⟩
  obtain ⟨u,hu,hr⟩:=h5 j k cs x hj hk
  exact ⟨u,(sJ h2 _).trans hu,hr⟩
theorem LT.IV {x:Operand} {t e:TypeId} {n off j k:Nat} {els:List (List CV)} {cs:List CV} {c:CV} (ho:o.op = .load t x) (h:fP P t = some false) (hj:els[j]? = some cs) (hk:cs[k]? = some c)
  (ha:off = j * aW P e + k):LT P o [(x,Cc (.pl n off))] [(n,.row e els)] (Cc c) [] [] []:=.calm fun R B g w a _ hi hu => by
 obtain ⟨_,b,h2,h3⟩:=in1 hi
 obtain ⟨u,h4,h5⟩:=(EL (nX hu) h2 hj).2 k c hk
 subst ha
 exact ⟨u,by simp [execOp,ho,h3,Jd h h4],h5⟩
theorem LT.QZ {x:Operand} {t e:TypeId} {n off j k:Nat} {els:List (List CV)} {cs:List CV} (ho:o.op = .load t x) (h:fP P t = some true) {i:TypeInfo} (hi:P.info? t = some i) (hj:els[j]? = some cs)
  (ha:off = j * aW P e + k) (hl:((cs.drop k).take (aW P t)).length = aW P t):LT P o [(x,Cc (.pl n off))] [(n,.row e els)] (Ag ((cs.drop k).take (aW P t))) [] [] []:=.calm fun R B g w a _ hin hu => by
 obtain ⟨_,b,h2,h3⟩:=in1 hin
 have hcell:=(EL (nX hu) h2 hj).2
 subst ha
 obtain ⟨us,k1,k2,k3⟩:=zU (T:=fun u i => w.cell? ⟨b,j * aW P e + k + i,none⟩ = some u) (Rl:=fun p u => RC P w R B g p u) ((cs.drop k).take (aW P t)) 0 (fun i x hx => by
  rw [List.getElem?_take] at hx
  split at hx
  ·rw [List.getElem?_drop] at hx
   obtain ⟨u,h4,h5⟩:=hcell _ x hx
   exact ⟨u,by simpa [Nat.add_assoc] using h4,h5⟩
  ·cases hx)
 refine ⟨.agg us.toArray,?_,us,rfl,by simpa using k1,k3⟩
 have:=Je (P:=P) h hi (a:=⟨b,j * aW P e + k,none⟩) (w:=w) (cs:=us) (k1.trans hl) (fun i v hv => by rw [add_lit]; simpa using k2 i v hv)
 simp [execOp,ho,h3,this]
end
end
section
def upd (g:Nat → GS) (n:Nat) (s:GS):Nat → GS:=fun k => if k = n then s else g k
theorem upd_same (g:Nat → GS) (n:Nat) (s:GS):upd g n s n = s:=by simp [upd]
theorem upd_ne (g:Nat → GS) {n k:Nat} (s:GS) (h:k ≠ n):upd g n s k = g k:=by simp [upd,h]
def TI (P:Program) (e:TypeId) (z:Value) (s b:Nat):Prop:=(P.info? e).map (fun i => (i.zero,i.size,i.bytes)) = some (some z,s,b)
theorem TI.parts {P:Program} {e:TypeId} {z:Value} {s b:Nat} (h:TI P e z s b):∃ i,P.info? e = some i ∧ i.zero = some z ∧ i.size = s ∧ i.bytes = b:=by
 unfold TI at h
 cases hi:P.info? e with
 | none => rw [hi] at h; cases h
 | some i =>
  rw [hi] at h
  injection h with h
  injection h with h1 h2
  injection h2 with h2 h3
  exact ⟨i,rfl,h1,h2,h3⟩
theorem TI.sz {P:Program} {e:TypeId} {z:Value} {s b:Nat} (h:TI P e z s b):aW P e = s:=by
 obtain ⟨i,h1,_,h3,_⟩:=h.parts
 rw [Ef h1,h3]
def lD:Nat:=2147483648
def fK:SV → List CV
 | .c x => [x]
 | .agg cs => cs
def ow {α:Type} (l:List α) (k:Nat) (ys:List α):List α:=l.take k ++ ys ++ l.drop (k + ys.length)
theorem Ah {α:Type} (l:List α) (k:Nat) (ys:List α) (h:k + ys.length ≤ l.length):(ow l k ys).length = l.length:=by
 simp [ow]; omega
theorem Af {α:Type} (l:List α) (k:Nat) (ys:List α) (h:k + ys.length ≤ l.length) (i:Nat) (h1:k ≤ i) (h2:i < k + ys.length):(ow l k ys)[i]? = ys[i - k]?:=by
 have hk:(l.take k).length = k:=by simp; omega
 unfold ow
 rw [List.append_assoc,List.getElem?_append_right (by omega),hk,List.getElem?_append_left (by omega)]
theorem zB {α:Type} (l:List α) (k:Nat) (ys:List α) (h:k + ys.length ≤ l.length) (i:Nat) (h1:i < k ∨ k + ys.length ≤ i):(ow l k ys)[i]? = l[i]?:=by
 have hk:(l.take k).length = k:=by simp; omega
 unfold ow
 rcases h1 with h1 | h1
 ·rw [List.append_assoc,List.getElem?_append_left (by omega),List.getElem?_take,if_pos h1]
 ·rw [List.getElem?_append_right (by simp; omega),List.getElem?_drop]
  congr 1
  simp
  omega
theorem Qj {j j' s k k':Nat} (hk:k < s) (hk':k' < s) (h:j ≠ j'):j * s + k ≠ j' * s + k':=by
 rcases Nat.lt_or_gt_of_ne h with h1 | h1
 ·have:=Nat.mul_le_mul_right s h1
  rw [Nat.succ_mul] at this
  omega
 ·have:=Nat.mul_le_mul_right s h1
  rw [Nat.succ_mul] at this
  omega
section
variable {P:Program} {w:World} {R B:Nat → Prop} {g:Nat → GS}
theorem WF.mono {w':World} (h:WF R B g w) (hs:w.heap.size ≤ w'.heap.size):WF R B g w' :=
 ⟨h.rb,fun b hb => Nat.lt_of_lt_of_le (h.lt b hb) hs,fun n b hb => ⟨(h.eP n b hb).1,Nat.lt_of_lt_of_le (h.eP n b hb).2 hs⟩,h.fC,h.nd⟩
theorem WF.upd {w':World} (h:WF R B g w) (n:Nat) (s:GS) (hsz:w.heap.size ≤ w'.heap.size) (hs:∀ b,s.has b → ¬ B b ∧ b < w'.heap.size ∧ ∀ m,m ≠ n → ¬ (g m).has b)
  (hnd:∀ j k b,s.at j = .blk b → s.at k = .blk b → j = k):WF R B (upd g n s) w' where
 rb:=h.rb
 lt b hb:=Nat.lt_of_lt_of_le (h.lt b hb) hsz
 eP k b hk:=by
  by_cases hkn:k = n
  ·subst hkn
   rw [upd_same] at hk
   exact ⟨(hs b hk).1,(hs b hk).2.1⟩
  ·rw [upd_ne g _ hkn] at hk
   have:=h.eP k b hk
   exact ⟨this.1,by omega⟩
 fC k m b hk hm:=by
  by_cases hkn:k = n <;> by_cases hmn:m = n
  ·rw [hkn,hmn]
  ·subst hkn
   rw [upd_same] at hk
   rw [upd_ne g _ hmn] at hm
   exact absurd hm ((hs b hk).2.2 m hmn)
  ·subst hmn
   rw [upd_same] at hm
   rw [upd_ne g _ hkn] at hk
   exact absurd hk ((hs b hm).2.2 k hkn)
  ·rw [upd_ne g _ hkn] at hk
   rw [upd_ne g _ hmn] at hm
   exact h.fC k m b hk hm
 nd k i j b hi hj:=by
  by_cases hkn:k = n
  ·subst hkn
   rw [upd_same] at hi hj
   exact hnd i j b hi hj
  ·rw [upd_ne g _ hkn] at hi hj
   exact h.nd k i j b hi hj
theorem GS.Ic {c:Nat}:∀ j k b,(GS.blk c).at j = .blk b → (GS.blk c).at k = .blk b → j = k:=fun j k b h => by cases h
theorem WF.alloc (h:WF R B g w) (n:Nat) (o:Obj):WF R B (Go.Fw.upd g n (.blk w.heap.size)) (w.alloc o) :=
 h.upd n _ (by simp) (fun b hb => by
  have hb:b = w.heap.size:=hb
  subst hb
  exact ⟨fun hB => Nat.lt_irrefl _ (h.lt _ hB),by simp,fun m _ hm => Nat.lt_irrefl _ (h.eP m _ hm).2⟩) GS.Ic
theorem dK.alloc (h:WF R B g w) (n:Nat) (o:Obj):dK R B g w [] [n] R B (upd g n (.blk w.heap.size)) (w.alloc o) where
 wf:=h.alloc n o
 r _ h:=h
 b _ h:=h
 os:=rfl
 tape:=rfl
 output:=rfl
 size:=by simp
 heap b hb _:=Go.RowKit.Below.heap_alloc w o b hb
 names k hk:=upd_ne g _ (by simpa using hk)
 fresh k hk b hb:=by
  have:k = n:=by simpa using hk
  subst this
  rw [upd_same] at hb
  have hb:b = w.heap.size:=hb
  exact .inl (by omega)
 shape k hk:=by cases hk
def jh (P:Program) (w:World) (R B:Nat → Prop) (g:Nat → GS) (cs:List CV) (vs:List Value):Prop:=vs.length = cs.length ∧ ∀ (k:Nat) x,cs[k]? = some x → ∃ u,vs[k]? = some u ∧ RC P w R B g x u
theorem jh.one {cs:List CV} {vs:List Value} (h:jh P w R B g cs vs):∀ v ∈ vs,v.oneCell' = true:=fun v hv => by
 obtain ⟨k,hk⟩:=List.getElem?_of_mem hv
 have hlt:k < cs.length:=by rw [← h.1]; exact (List.getElem?_eq_some_iff.1 hk).1
 obtain ⟨u,hu,hr⟩:=h.2 k cs[k] (List.getElem?_eq_getElem hlt)
 rw [hk] at hu
 injection hu with hu
 subst hu
 exact hr.1
theorem RS.cells {x:SV} {v:Value} (h:RS P w R B g x v):jh P w R B g (fK x) v.cells.toList:=by
 cases x with
 | c x =>
  have h1:=h.1
  have:v.cells = #[v]:=by cases v <;> first | rfl | cases h1
  rw [this]
  exact ⟨rfl,fun k y hk => by
   cases k with
   | zero => simp [fK] at hk; subst hk; exact ⟨v,rfl,h⟩
   | succ k => simp [fK] at hk⟩
 | agg cs =>
  obtain ⟨vs,rfl,h1,h2⟩:=h
  exact ⟨by simpa [Value.cells,fK] using h1,fun k y hk => by simpa [Value.cells] using h2 k y hk⟩
theorem A8 {vs:List Value} (h:vs.all (·.oneCell') = true):jh P w R B g (vs.map sC) vs:=⟨by simp,fun k x hk => by
 rw [List.getElem?_map] at hk
 cases hv:vs[k]? with
 | none => rw [hv] at hk; cases hk
 | some v =>
  rw [hv] at hk
  injection hk with hk
  subst hk
  have:=List.all_eq_true.1 h v (List.mem_of_getElem? hv)
  exact ⟨v,rfl,this,.sc this⟩⟩
theorem jh.keep {cs:List CV} {vs:List Value} (h:jh P w R B g cs vs) {R' B':Nat → Prop} {g':Nat → GS} {w':World} {W X:List Nat} (had:dK R B g w W X R' B' g' w') (hw:WF R B g w):jh P w' R' B' g' (cs.map (aZ X)) vs :=
 ⟨by simpa using h.1,fun k x hk => by
  rw [List.getElem?_map] at hk
  cases hc:cs[k]? with
  | none => rw [hc] at hk; cases hk
  | some y =>
   rw [hc] at hk
   injection hk with hk
   subst hk
   obtain ⟨u,hu,hr⟩:=h.2 k y hc
   exact ⟨u,hu,had.rc hw hr⟩⟩
theorem LT.newVar {o:Oper} {ins:List (Operand × AV)} {us:Mem} {t:TypeId} {n:Nat} {cs:List CV} (hl:cs.length = aW P t)
  (h:∀ R B g w (a:Act),WF R B g w → (∀ p ∈ ins,RA P w R B g p.2 (a.eval p.1)) → (∀ p ∈ us,RO P w R B g p.1 p.2) → ∃ vs:List Value,jh P w R B g cs vs ∧ (execOp a.eval o).run P w = .ok (.value (.pointer (some ⟨w.heap.size,0,none⟩))) (w.alloc (.cells vs.toArray t))) :
  LT P o ins us (Cc (.pl n 0)) [(n,.row t [cs.map (aZ [n])])] [] [n]:=by
 intro R B g w a hw hi hu K Q hK
 obtain ⟨vs,hrel,hr⟩:=h R B g w a hw hi hu
 unfold Oper.wp
 rw [hr]
 have had:=dK.alloc hw n (.cells vs.toArray t)
 have hk:=hrel.keep had hw
 refine hK _ _ _ _ _ had (fun b hb => .inl hb) (fun _ => ⟨rfl,w.heap.size,upd_same ..,rfl⟩) (fun p hp => ?_)
 have:p = (n,.row t [cs.map (aZ [n])]):=by simpa using hp
 subst this
 refine .inr ⟨w.heap.size,vs.toArray,upd_same ..,heap_alloc_new w _,fun c hc => ?_,?_,fun j k c x hj hx => ?_⟩
 ·have:c = cs.map (aZ [n]):=by simpa using hc
  subst this
  simpa using hl
 ·simp only [List.length_singleton,Nat.one_mul,List.size_toArray,hrel.1]
  omega
 ·cases j with
  | zero =>
   simp at hj
   subst hj
   obtain ⟨u,hu,hr⟩:=hk.2 k x hx
   exact ⟨u,by simpa using hu,hr⟩
  | succ j => simp at hj
theorem LT.alloc {o:Oper} {t:TypeId} {n s b:Nat} {z:Value} {cells:List CV} (ho:o.op = .alloc t) (ht:TI P t z s b) (hc:z.cells.toList.map sC = cells) (h1:z.cells.toList.all (·.oneCell') = true) (hl:cells.length = s) :
  LT P o [] [] (Cc (.pl n 0)) [(n,.row t [cells.map (aZ [n])])] [] [n] :=
 .newVar (by rw [ht.sz]; exact hl) fun R B g w a _ _ _ => by
  obtain ⟨i,hi,hz,_⟩:=ht.parts
  refine ⟨z.cells.toList,by rw [← hc]; exact A8 h1,?_⟩
  simp [execOp,ho,Instr.alloc,zeroValue,typeInfo,hi,hz,Go.newVar,newRow]
theorem LT.box {o:Oper} {t:TypeId} {n s:Nat} {x:Operand} {v:SV} (ho:o.op = .box t x) (hs:aW P t = s) (hl:(fK v).length = s):LT P o [(x,.s v)] [] (Cc (.pl n 0)) [(n,.row t [(fK v).map (aZ [n])])] [] [n] :=
 .newVar (by rw [hs]; exact hl) fun R B g w a _ hi _ => by
  have h:=in1 hi
  refine ⟨(a.eval x).cells.toList,RS.cells h,?_⟩
  simp [execOp,ho,Instr.box,Go.newVar,newRow]
def rM (place:Nat → Option (Nat × Nat)) (cells:List CV):List (Nat × SV) → Option (List CV)
 | [] => some cells
 | (i,v) :: rest => match place i with
  | none => none
  | some (off,size) => if (fK v).length ≠ size ∨ off + (fK v).length > cells.length then none else rM place (ow cells off (fK v)) rest
theorem foldl_set (l:List Value):∀ (cells:Array Value) (off i:Nat),off + i + l.length ≤ cells.size → (l.zipIdx i).foldl (fun cs (q:Value × Nat) => cs.setIfInBounds (off + q.2) q.1) cells = (ow cells.toList (off + i) l).toArray:=by
 induction l with
 | nil =>
  intro cells off i _
  simp [ow]
 | cons v r ih =>
  intro cells off i h
  simp only [List.zipIdx_cons,List.foldl_cons]
  rw [ih (cells.setIfInBounds (off + i) v) off (i + 1) (by simp at h ⊢; omega)]
  congr 1
  have e:=list_seg_step cells.toList (off + i) v r (by simp at h ⊢; omega)
  simpa [ow,Array.toList_setIfInBounds,Nat.add_assoc] using e
theorem ET {place:Nat → Option (Nat × Nat)}:∀ (ps:List (Nat × SV)) (zH:List (Nat × Value)) (cells:List CV) (vs:List Value) (out:List CV),jh P w R B g cells vs →
  (zH.length = ps.length ∧ ∀ (k:Nat) q,ps[k]? = some q → ∃ u,zH[k]? = some (q.1,u) ∧ RS P w R B g q.2 u) → rM place cells ps = some out → ∃ pX:List Value,Instr.fill place vs.toArray zH = some pX.toArray ∧ jh P w R B g out pX
 | [],[],cells,vs,out,hrel,_,h => by
  injection h with h
  subst h
  exact ⟨vs,rfl,hrel⟩
 | [],_ :: _,_,_,_,_,hp,_ => by simp at hp
 | (i,v) :: rest,zH,cells,vs,out,hrel,hp,h => by
  obtain ⟨u,hu,hr⟩:=hp.2 0 (i,v) rfl
  cases zH with
  | nil => simp at hu
  | cons vp Sr =>
   simp at hu
   subst hu
   unfold rM at h
   unfold Instr.fill
   cases hpl:place i with
   | none => rw [hpl] at h; cases h
   | some q =>
    obtain ⟨off,size⟩:=q
    rw [hpl] at h
    simp only at h ⊢
    split at h
    ·cases h
    ·rename_i hn
     have hcell:=RS.cells hr
     have hlen:u.cells.size = (fK v).length:=by simpa using hcell.1
     have hfit:off + (fK v).length ≤ cells.length:=by omega
     rw [if_neg (by simpa [hlen,hrel.1] using hn)]
     have hf:=foldl_set u.cells.toList vs.toArray off 0 (by simp [hrel.1,hlen]; omega)
     have hf':u.cells.zipIdx.foldl (fun cs (x:Value × Nat) => cs.setIfInBounds (off + x.2) x.1) vs.toArray = (ow vs off u.cells.toList).toArray:=by
      rw [← Array.foldl_toList,Array.toList_zipIdx]
      simpa using hf
     rw [hf']
     refine ET rest Sr (ow cells off (fK v)) (ow vs off u.cells.toList) out ⟨?_,fun k x hk => ?_⟩ ⟨by simpa using hp.1,fun k q hk => by simpa using hp.2 (k + 1) q (by simpa using hk)⟩ h
     ·rw [Ah _ _ _ hfit,Ah _ _ _ (by rw [hrel.1,hcell.1]; exact hfit)]; exact hrel.1
     ·by_cases hin:off ≤ k ∧ k < off + (fK v).length
      ·rw [Af _ _ _ hfit k hin.1 hin.2] at hk
       obtain ⟨y,hy,DZ⟩:=hcell.2 _ x hk
       exact ⟨y,by rw [Af _ _ _ (by rw [hrel.1,hcell.1]; exact hfit) k hin.1 (by rw [hcell.1]; exact hin.2)]; exact hy,DZ⟩
      ·have hout:k < off ∨ off + (fK v).length ≤ k:=by omega
       rw [zB _ _ _ hfit k hout] at hk
       obtain ⟨y,hy,DZ⟩:=hrel.2 k x hk
       exact ⟨y,by rw [zB _ _ _ (by rw [hrel.1,hcell.1]; exact hfit) k (by rw [hcell.1]; exact hout)]; exact hy,DZ⟩
def zC (P:Program) (t:TypeId):Option (List (Nat × Nat)) :=
 match P.underlying t with
 | some (.struct fs) => fs.toList.mapM fun f => (P.info? f.type).map fun i => (f.offset,i.size)
 | _ => none
theorem run_places:∀ (fs:List Field) (kD:List (Nat × Nat)),fs.mapM (fun f => (P.info? f.type).map fun i => (f.offset,i.size)) = some kD →
  (fs.mapM (fun f => do pure (f.offset,← sizeOf f.type):Field → Sem (Nat × Nat))).run P w = .ok kD w
 | [],kD,h => by
  injection h with h
  subst h
  rfl
 | f :: fs,kD,h => by
  rw [List.mapM_cons] at h
  obtain ⟨p,hp,h2⟩:=Option.bind_eq_some_iff.1 h
  obtain ⟨r,hr,h3⟩:=Option.bind_eq_some_iff.1 h2
  injection h3 with h3
  subst h3
  obtain ⟨i,hi,hpi⟩:=Option.map_eq_some_iff.1 hp
  subst hpi
  have ih:=run_places fs r hr
  have hs:(sizeOf f.type).run P w = .ok i.size w:=by simp [sizeOf,typeInfo,hi]
  simp only [List.mapM_cons,Sem.run_bind,hs,Result.andThen_ok,Sem.run_pure,ih]
abbrev Parts:=List (Nat × Operand × SV)
def Parts.ins (ps:Parts):List (Operand × AV):=ps.map fun q => (q.2.1,.s q.2.2)
def Parts.vals (ps:Parts):List (Nat × SV):=ps.map fun q => (q.1,q.2.2)
def Parts.ops (ps:Parts):List (Nat × Operand):=ps.map fun q => (q.1,q.2.1)
theorem JC {a:Act} {ps:Parts} (h:∀ p ∈ Parts.ins ps,RA P w R B g p.2 (a.eval p.1)) :
  ((Parts.ops ps).map fun q => (q.1,a.eval q.2)).length = (Parts.vals ps).length ∧ ∀ (k:Nat) q,(Parts.vals ps)[k]? = some q → ∃ u,((Parts.ops ps).map fun q => (q.1,a.eval q.2))[k]? = some (q.1,u) ∧ RS P w R B g q.2 u:=by
 refine ⟨by simp [Parts.ops,Parts.vals],fun k q hk => ?_⟩
 unfold Parts.vals at hk
 rw [List.getElem?_map] at hk
 cases hx:ps[k]? with
 | none => rw [hx] at hk; cases hk
 | some y =>
  rw [hx] at hk
  injection hk with hk
  subst hk
  refine ⟨a.eval y.2.1,by simp [Parts.ops,hx],?_⟩
  exact h (y.2.1,.s y.2.2) (List.mem_map.2 ⟨y,List.mem_of_getElem? hx,rfl⟩)
theorem LT.build {o:Oper} {t:TypeId} {parts:Array (Nat × Operand)} (ps:Parts) {kD:List (Nat × Nat)} {z:Value} {s b:Nat} {zc out:List CV} (ho:o.op = .build t parts) (hps:parts.toList = Parts.ops ps) (hp:zC P t = some kD) (hz:TI P t z s b)
  (hzc:z.cells.toList.map sC = zc) (h1:z.cells.toList.all (·.oneCell') = true) (hf:rM (fun i => kD[i]?) zc (Parts.vals ps) = some out):LT P o (Parts.ins ps) [] (Ag out) [] [] []:=.calm fun R B g w a _ hi _ => by
 obtain ⟨i,hi1,hi2,_⟩:=hz.parts
 unfold zC at hp
 split at hp
 ·rename_i fs hfs
  have hrel:jh P w R B g zc z.cells.toList:=by rw [← hzc]; exact A8 h1
  obtain ⟨pX,k1,k2⟩:=ET (place:=fun i => kD[i]?) (Parts.vals ps) _ zc z.cells.toList out hrel (JC hi) hf
  refine ⟨.agg pX.toArray,?_,pX,rfl,k2.1,k2.2⟩
  have hpl:(fs.mapM (fun f => do pure (f.offset,← sizeOf f.type):Field → Sem (Nat × Nat))).run P w = .ok kD.toArray w:=by
   rw [Array.mapM_eq_mapM_toList]
   simp only [Sem.run_map,run_places fs.toList kD hp,Result.andThen_ok]
  have hpa:(parts.map fun x => (x.1,a.eval x.2)).toList = (Parts.ops ps).map fun q => (q.1,a.eval q.2):=by rw [Array.toList_map,hps]
  have hk1:Instr.fill (fun x => kD.toArray[x]?) z.cells (parts.map fun x => (x.1,a.eval x.2)).toList = some pX.toArray:=by
   rw [hpa]
   simpa using k1
  simp only [execOp,ho,Instr.build,Sem.run_bind,zeroValue,typeInfo,run_program,Result.andThen_ok,hi1,Sem.run_pure,hi2,run_underlying hfs,hpl,hk1]
 ·cases hp
theorem zf {α:Type} {s:Nat}:∀ (els:List (List α)),(∀ cs ∈ els,cs.length = s) → ∀ (j k:Nat) cs x,els[j]? = some cs → cs[k]? = some x → els.flatten[j * s + k]? = some x
 | [],_,j,_,_,_,hj,_ => by simp at hj
 | c :: els,h,0,k,cs,x,hj,hk => by
  simp at hj
  subst hj
  rw [List.flatten_cons,Nat.zero_mul,Nat.zero_add,List.getElem?_append_left (List.getElem?_eq_some_iff.1 hk).1]
  exact hk
 | c :: els,h,j + 1,k,cs,x,hj,hk => by
  have hc:c.length = s:=h c List.mem_cons_self
  have ih:=zf els (fun cs hcs => h cs (List.mem_cons_of_mem _ hcs)) j k cs x (by simpa using hj) hk
  rw [List.flatten_cons,List.getElem?_append_right (by rw [hc,Nat.succ_mul]; omega),hc,show (j + 1) * s + k - s = j * s + k by rw [Nat.succ_mul]; omega]
  exact ih
theorem flat_length {α:Type} {s:Nat}:∀ (els:List (List α)),(∀ cs ∈ els,cs.length = s) → els.flatten.length = els.length * s
 | [],_ => by simp
 | c :: els,h => by
  rw [List.flatten_cons,List.length_append,h c List.mem_cons_self,flat_length els (fun cs hcs => h cs (List.mem_cons_of_mem _ hcs)),List.length_cons,Nat.succ_mul]
  omega
theorem LT.newRow {o:Oper} {ins:List (Operand × AV)} {us:Mem} {e:TypeId} {n:Nat} {els:List (List CV)} (hl:∀ cs ∈ els,cs.length = aW P e) (hm:els.length ≤ maxLen)
  (h:∀ R B g w (a:Act),WF R B g w → (∀ p ∈ ins,RA P w R B g p.2 (a.eval p.1)) → (∀ p ∈ us,RO P w R B g p.1 p.2) →
   ∃ vs:List Value,jh P w R B g els.flatten vs ∧ (execOp a.eval o).run P w = .ok (.value (.slice (some ⟨w.heap.size,0,none⟩) els.length els.length)) (w.alloc (.cells vs.toArray e))) :
  LT P o ins us (Cc (.loc n 0 els.length)) [(n,.row e (els.map (·.map (aZ [n]))))] [] [n]:=by
 intro R B g w a hw hi hu K Q hK
 obtain ⟨vs,hrel,hr⟩:=h R B g w a hw hi hu
 unfold Oper.wp
 rw [hr]
 have had:=dK.alloc hw n (.cells vs.toArray e)
 have hk:=hrel.keep had hw
 have hvl:vs.length = els.length * aW P e:=by rw [hrel.1,flat_length els hl]
 refine hK _ _ _ _ _ had (fun b hb => .inl hb) (fun _ => ⟨rfl,.inr (.inr ⟨w.heap.size,els.length,vs.toArray,e,upd_same ..,heap_alloc_new w _,Nat.le_refl _,by omega,by simp [hvl],by simp⟩)⟩) (fun p hp => ?_)
 have:p = (n,.row e (els.map (·.map (aZ [n])))):=by simpa using hp
 subst this
 have hl':∀ cs ∈ els.map (·.map (aZ [n])),cs.length = aW P e:=fun cs hcs => by
  obtain ⟨c0,hc0,rfl⟩:=List.mem_map.1 hcs
  simpa using hl c0 hc0
 refine .inr ⟨w.heap.size,vs.toArray,upd_same ..,heap_alloc_new w _,hl',by simp [hvl],fun j k c x hj hx => ?_⟩
 have hf:=zf _ hl' j k c x hj hx
 rw [← List.map_flatten] at hf
 obtain ⟨u,hu,hr⟩:=hk.2 _ x hf
 exact ⟨u,by simpa using hu,hr⟩
theorem LT.buildSlice {o:Oper} {t e:TypeId} {len n:Nat} {parts:Array (Nat × Operand)} (ps:Parts) {z:Value} {s b:Nat} {zc:List CV} {els:List (List CV)} (ho:o.op = .buildSlice t len parts) (hps:parts.toList = Parts.ops ps) (he:P.underlying t = some (.slice e)) (hz:TI P e z s b)
  (hzc:z.cells.toList.map sC = zc) (h1:z.cells.toList.all (·.oneCell') = true) (hsz:zc.length = s) (hlen:els.length = len) (hmax:len * s ≤ 16777216 ∧ 0 < s) (hel:els.all (fun cs => Nat.beq cs.length s) = true)
  (hf:rM (fun i => some (i * s,s)) ((List.range (len * s)).map fun i => zc.getD (i % s) .junk) (Parts.vals ps) = some els.flatten) :
  LT P o (Parts.ins ps) [] (Cc (.loc n 0 els.length)) [(n,.row e (els.map (·.map (aZ [n]))))] [] [n]:=by
 have OZ:∀ cs ∈ els,cs.length = aW P e:=fun cs hcs => by
  rw [hz.sz]
  exact Nat.eq_of_beq_eq_true (List.all_eq_true.1 hel cs hcs)
 have hlm:len ≤ 16777216:=Nat.le_trans (Nat.le_mul_of_pos_right len hmax.2) hmax.1
 refine .newRow OZ (by simp only [maxLen]; omega) fun R B g w a _ hi _ => ?_
 obtain ⟨i,hi1,hi2,hi3,_⟩:=hz.parts
 have hzs:z.cells.size = s:=by rw [← hsz,← hzc]; simp
 have hrel:jh P w R B g ((List.range (len * s)).map fun i => zc.getD (i % s) .junk) ((List.range (len * s)).map fun i => z.cells[i % z.cells.size]!):=by
  refine ⟨by simp,fun k x hk => ?_⟩
  rw [List.getElem?_map] at hk ⊢
  cases hr:(List.range (len * s))[k]? with
  | none => rw [hr] at hk; cases hk
  | some m =>
   rw [hr] at hk
   injection hk with hk
   subst hk
   have hms:m % s < s:=Nat.mod_lt _ hmax.2
   have hrz:jh P w R B g zc z.cells.toList:=by rw [← hzc]; exact A8 h1
   obtain ⟨u,hu,rV⟩:=hrz.2 (m % s) (zc.getD (m % s) .junk) (by rw [List.getD_eq_getElem?_getD,List.getElem?_eq_getElem (by omega)]; rfl)
   refine ⟨u,?_,rV⟩
   have:z.cells[m % s]? = some u:=by simpa using hu
   rw [hzs]
   simp [getElem!_def,this]
 obtain ⟨pX,k1,k2⟩:=ET (place:=fun i => some (i * s,s)) (Parts.vals ps) _ _ _ els.flatten hrel (JC hi) hf
 refine ⟨pX,k2,?_⟩
 have hpa:(parts.map fun x => (x.1,a.eval x.2)).toList = (Parts.ops ps).map fun q => (q.1,a.eval q.2):=by rw [Array.toList_map,hps]
 have hno:¬ (16777216 < len * s):=by omega
 have hk1:Instr.fill (fun i => some (i * s,s)) ((Array.range (len * s)).map fun x => z.cells[x % z.cells.size]!) (parts.map fun x => (x.1,a.eval x.2)).toList = some pX.toArray:=by
  rw [hpa,← k1]
  congr 1
  apply Array.ext'
  simp
 rw [Array.toList_map] at hk1
 by_cases h0:len * s = 0
 ·simp only [h0,Array.range_zero',Array.map_empty] at hk1
  simp [execOp,ho,Instr.buildSlice,run_underlying he,sizeOf,typeInfo,hi1,hi3,h0,Array.range_zero',hk1,Go.newRow,hlen]
 ·simp [execOp,ho,Instr.buildSlice,run_underlying he,sizeOf,typeInfo,hi1,hi3,hno,h0,zeroValue,hi2,hk1,Go.newRow,hlen]
theorem LT.makeSlice {o:Oper} {t e:TypeId} {n:Nat} {x y:Operand} {len:Int} {z:Value} {s b:Nat} {zc:List CV} (ho:o.op = .makeSlice t x y) (he:P.underlying t = some (.slice e)) (hz:TI P e z s b)
  (hzc:z.cells.toList.map sC = zc) (h1:z.cells.toList.all (·.oneCell') = true) (hsz:zc.length = s) (hs:0 < s) (hb:b ≤ 65536) (hl:0 ≤ len ∧ len ≤ lD) :
  LT P o [(x,Iv len),(y,Iv len)] [] (Cc (.loc n 0 (List.replicate len.toNat zc).length)) [(n,.row e ((List.replicate len.toNat zc).map (·.map (aZ [n]))))] [] [n]:=by
 have hl2:len ≤ 2147483648:=hl.2
 refine .newRow (fun cs hcs => by rw [List.eq_of_mem_replicate hcs,hz.sz]; exact hsz) (by simp only [List.length_replicate,maxLen]; omega) fun R B g w a _ hi _ => ?_
 obtain ⟨i,hi1,hi2,hi3,hi4⟩:=hz.parts
 have hzs:z.cells.size = s:=by rw [← hsz,← hzc]; simp
 have hbb:(i.bytes:Int) * len ≤ 281474976710656:=by
  rw [hi4]
  have:(b:Int) * len ≤ 65536 * 2147483648:=Int.mul_le_mul (by omega) hl2 hl.1 (by omega)
  omega
 have hr:=run_make (P:=P) w t e i z he hi1 hi2 .i64 .i64 len len hl.1 (Int.le_refl _) hbb (by omega)
 refine ⟨(madeCells z.cells (len.toNat * i.size)).toList,⟨?_,fun k c hk => ?_⟩,?_⟩
 ·rw [flat_length (s:=s) _ (fun cs hcs => by rw [List.eq_of_mem_replicate hcs]; exact hsz)]
  simp [madeCells,hi3]
 ·have hkl:k < len.toNat * s:=by
   have:=(List.getElem?_eq_some_iff.1 hk).1
   rwa [flat_length (s:=s) _ (fun cs hcs => by rw [List.eq_of_mem_replicate hcs]; exact hsz),List.length_replicate] at this
  have hj:k / s < len.toNat:=Nat.div_lt_of_lt_mul (by rw [Nat.mul_comm]; exact hkl)
  have hms:k % s < s:=Nat.mod_lt _ hs
  have hf:=zf (s:=s) (List.replicate len.toNat zc) (fun cs hcs => by rw [List.eq_of_mem_replicate hcs]; exact hsz) (k / s) (k % s) zc zc[k % s] (by simp [hj]) (List.getElem?_eq_getElem (by omega))
  rw [show k / s * s + k % s = k by rw [Nat.mul_comm]; exact Nat.div_add_mod k s] at hf
  rw [hf] at hk
  injection hk with hk
  subst hk
  have hrz:jh P w R B g zc z.cells.toList:=by rw [← hzc]; exact A8 h1
  obtain ⟨u,hu,rV⟩:=hrz.2 (k % s) zc[k % s] (List.getElem?_eq_getElem (by omega))
  refine ⟨u,?_,rV⟩
  have:z.cells[k % s]? = some u:=by simpa using hu
  simp [madeCells,hzs,hi3,hkl,getElem!_def,this]
 ·simp only [execOp,ho,kZ (in1 hi),kZ (in2 hi),Sem.run_bind,hr,Result.andThen_ok,Sem.run_pure,List.length_replicate,Array.toArray_toList]
end
end
section
section
variable {P:Program} {w:World} {R B:Nat → Prop} {g:Nat → GS}
theorem dK.setRow (h:WF R B g w) {n b:Nat} {cur cur':Array Value} {e:TypeId} (hn:g n = .blk b) (hh:w.heap[b]? = some (.cells cur e (0,0))) (hs:cur'.size = cur.size):dK R B g w [n] [] R B g (w.setRow b cur') where
 wf:=h.mono (by simp [World.setRow])
 r _ h:=h
 b _ h:=h
 os:=rfl
 tape:=rfl
 output:=rfl
 size:=by simp [World.setRow]
 heap c _ hc:=setRow_other w b c cur' (fun e => hc n List.mem_cons_self (by rw [hn,e]; rfl))
 names _ _:=rfl
 fresh _ hk:=by cases hk
 shape k hk _ c cu e' hg hc:=by
  have:k = n:=by simpa using hk
  subst this
  rw [hn] at hg
  have hg:b = c:=Eq.symm hg
  subst hg
  rw [hh] at hc
  injection hc with hc
  injection hc with h1 h2 h3
  subst h1
  subst h2
  exact ⟨cur',setRow_heap w b cur cur' e (0,0) hh,hs⟩
theorem LT.store {o:Oper} {t e:TypeId} {n off j k s:Nat} {x y:Operand} {els:List (List CV)} {cs:List CV} {v:SV} (ho:o.op = .store t x y) (hd:o.dst = none) {i:TypeInfo} (hi:P.info? t = some i) (hs:aW P t = s) (hl:(fK v).length = s) (hj:els[j]? = some cs)
  (ha:off = j * aW P e + k) (hk:k + s ≤ cs.length):LT P o [(x,Cc (.pl n off)),(y,.s v)] [(n,.row e els)] (.bV []) [(n,.row e (els.set j (ow cs k (fK v))))] [n] []:=by
 intro R B g w a hw hin hu K Q hK
 obtain ⟨_,b,hb,hx⟩:=in1 hin
 have hro:=nX hu
 have hrel:=RS.cells (in2 hin)
 rcases hro with ⟨h1,_⟩ | ⟨b',cur,h1,h2,h3,h4,h5⟩
 ·rw [hb] at h1; cases h1
 rw [hb] at h1
 injection h1 with h1
 subst h1
 have hcs:cs.length = aW P e:=h3 cs (List.mem_of_getElem? hj)
 have hjl:j < els.length:=(List.getElem?_eq_some_iff.1 hj).1
 have hsz:(a.eval y).cells.size = s:=by rw [← hl,← hrel.1]; simp
 have hrow:j * aW P e + aW P e ≤ els.length * aW P e:=by
  have:=Nat.mul_le_mul_right (aW P e) hjl
  rwa [Nat.succ_mul] at this
 have hfit:off + (a.eval y).cells.toList.length ≤ cur.toList.length:=by
  simp only [Array.length_toList,hsz]
  omega
 have hst:=run_storeCells_at P b off e (a.eval y).cells.toList 0 cur w h2 (by simpa using hfit) hrel.one
 simp only [Nat.add_zero] at hst
 have hrun:(execOp a.eval o).run P w = .ok .skip (w.setRow b (ow cur.toList off (a.eval y).cells.toList).toArray):=by
  have hsz':(a.eval y).cells.size = i.size:=by rw [hsz,← hs,Ef hi]
  simp [execOp,ho,hx,Instr.storeAt,Instr.sureAddr,storeVar,sizeOf,typeInfo,hi,hsz',ow] at hst ⊢
  rw [hst]
  rfl
 unfold Oper.wp
 rw [hrun]
 have hsize:(ow cur.toList off (a.eval y).cells.toList).toArray.size = cur.size:=by
  rw [List.size_toArray,Ah _ _ _ hfit]; simp
 have had:=dK.setRow hw hb h2 hsize
 refine hK undef R B g _ had (fun b hb => .inl hb) (fun h => by rw [hd] at h; cases h) (fun p hp => ?_)
 have:p = (n,.row e (els.set j (ow cs k (fK v)))):=by simpa using hp
 subst this
 have hkc:k + (fK v).length ≤ cs.length:=by rw [hl]; exact hk
 refine .inr ⟨b,_,hb,setRow_heap w b cur _ e (0,0) h2,fun c hc => ?_,by rw [hsize]; simpa using h4,fun j' k' c y' hj' hk' => ?_⟩
 ·rcases List.mem_or_eq_of_mem_set hc with h | h
  ·exact h3 c h
  ·rw [h,Ah _ _ _ hkc]; exact hcs
 ·have lift:∀ {y':CV} {u:Value},RC P w R B g y' u → RC P (w.setRow b (ow cur.toList off (a.eval y).cells.toList).toArray) R B g y' u:=fun hr => by
   have:=had.rc hw hr
   rwa [xP] at this
  have hvl:(a.eval y).cells.toList.length = s:=by simpa using hsz
  rw [List.getElem?_set] at hj'
  by_cases hjj:j = j'
  ·subst hjj
   rw [if_pos rfl,if_pos hjl] at hj'
   injection hj' with hj'
   subst hj'
   by_cases hin':k ≤ k' ∧ k' < k + (fK v).length
   ·rw [Af _ _ _ hkc k' hin'.1 hin'.2] at hk'
    obtain ⟨u,hu1,hu2⟩:=hrel.2 _ y' hk'
    refine ⟨u,?_,lift hu2⟩
    have:(ow cur.toList off (a.eval y).cells.toList)[j * aW P e + k']? = some u:=by
     rw [Af _ _ _ hfit _ (by omega) (by rw [hvl]; omega),← hu1]
     congr 1
     omega
    simpa using this
   ·have hout:k' < k ∨ k + (fK v).length ≤ k':=by omega
    rw [zB _ _ _ hkc k' hout] at hk'
    obtain ⟨u,hu1,hu2⟩:=h5 j k' cs y' hj hk'
    refine ⟨u,?_,lift hu2⟩
    have:(ow cur.toList off (a.eval y).cells.toList)[j * aW P e + k']? = some u:=by
     rw [zB _ _ _ hfit _ (by rw [hvl]; omega)]
     simpa using hu1
    simpa using this
  ·rw [if_neg hjj] at hj'
   obtain ⟨u,hu1,hu2⟩:=h5 j' k' c y' hj' hk'
   refine ⟨u,?_,lift hu2⟩
   have Om:k' < aW P e:=by rw [← h3 c (List.mem_of_getElem? hj')]; exact (List.getElem?_eq_some_iff.1 hk').1
   have hne:∀ q,q < aW P e → j * aW P e + q ≠ j' * aW P e + k':=fun q hq => Qj hq Om hjj
   have hout:j' * aW P e + k' < off ∨ off + (a.eval y).cells.toList.length ≤ j' * aW P e + k':=by
    rw [hvl]
    rcases Nat.lt_or_ge (j' * aW P e + k') off with h | h
    ·exact .inl h
    ·refine .inr (Nat.le_of_not_lt fun h' => ?_)
     exact hne (j' * aW P e + k' - j * aW P e) (by omega) (by omega)
   have:(ow cur.toList off (a.eval y).cells.toList)[j' * aW P e + k']? = some u:=by
    rw [zB _ _ _ hfit _ hout]
    simpa using hu1
   simpa using this
theorem LT.conv {o:Oper} {ins:List (Operand × AV)} {us Eo df F8:Mem} {v:AV} {W X:List Nat} (h1:∀ (w:World) (R B:Nat → Prop) (g:Nat → GS),(∀ p ∈ Eo,RO P w R B g p.1 p.2) → ∀ p ∈ us,RO P w R B g p.1 p.2)
  (h2:∀ (w:World) (R B:Nat → Prop) (g:Nat → GS),(∀ p ∈ df,RO P w R B g p.1 p.2) → ∀ p ∈ F8,RO P w R B g p.1 p.2) (h:LT P o ins us v df W X):LT P o ins Eo v F8 W X :=
 fun R B g w a hw hi hu K Q hK => h R B g w a hw hi (h1 w R B g hu) K Q fun u R' B' g' w' had hR hv hob => hK u R' B' g' w' had hR hv (h2 w' R' B' g' hob)
theorem vS {n:Nat} {ob:Ob} (h:RO P w R B g n ob):∀ p ∈ [(n,ob)],RO P w R B g p.1 p.2:=fun p hp => by
 have:p = (n,ob):=by simpa using hp
 subst this
 exact h
theorem LT.wM {o:Oper} {ins:List (Operand × AV)} {us:Mem} {v:AV} {n:Nat} {e:TypeId} {fH:List (List PV)} {W X Y:List Nat} (h:LT P o ins us v [(n,.row e ((bf fH).map (·.map (aZ Y))))] W X):LT P o ins us v [(n,.bZ e fH)] W X :=
 h.conv (fun _ _ _ _ h => h) fun w R B g hu => vS (by have:=nX hu; rwa [zD] at this)
theorem LT.J5 {o:Oper} {ins:List (Operand × AV)} {df:Mem} {v:AV} {n:Nat} {e:TypeId} {fH:List (List PV)} {W X:List Nat} (h:LT P o ins [(n,.row e (bf fH))] v df W X):LT P o ins [(n,.bZ e fH)] v df W X :=
 LT.conv (us:=[(n,.row e (bf fH))]) (Eo:=[(n,.bZ e fH)]) (fun w R B g hu => vS (ob:=.row e (bf fH)) (nX (ob:=.bZ e fH) hu)) (fun _ _ _ _ h => h) h
theorem EQ (els:List (List PV)):(bf els).length = els.length:=by simp [bf]
theorem CP {α:Type} {s:Nat} (hs:0 < s):∀ (els:List (List α)),(∀ cs ∈ els,cs.length = s) → ∀ (i:Nat) x,els.flatten[i]? = some x → ∃ cs,els[i / s]? = some cs ∧ cs[i % s]? = some x
 | [],_,i,x,h => by simp at h
 | c :: els,hl,i,x,h => by
  have hc:c.length = s:=hl c List.mem_cons_self
  rw [List.flatten_cons] at h
  by_cases hi:i < s
  ·rw [List.getElem?_append_left (by omega)] at h
   exact ⟨c,by rw [Nat.div_eq_of_lt hi]; rfl,by rw [Nat.mod_eq_of_lt hi]; exact h⟩
  ·rw [List.getElem?_append_right (by omega),hc] at h
   obtain ⟨cs,h1,h2⟩:=CP hs els (fun cs hcs => hl cs (List.mem_cons_of_mem _ hcs)) (i - s) x h
   refine ⟨cs,?_,?_⟩
   ·rw [Nat.div_eq_sub_div hs (by omega)]; exact h1
   ·rw [Nat.mod_eq_sub_mod (by omega)]; exact h2
theorem bJ.flat {n b:Nat} {e:TypeId} {els:List (List CV)} (hs:0 < aW P e) (h:bJ P w R B g n e els) (hb:g n = .blk b) :
  (∀ cs ∈ els,cs.length = aW P e) ∧ ∃ cur,w.heap[b]? = some (.cells cur e (0,0)) ∧ els.length * aW P e ≤ cur.size ∧ jh P w R B g els.flatten (cur.toList.take (els.length * aW P e)):=by
 rcases h with ⟨h1,_⟩ | ⟨b',cur,h1,h2,h3,h4,h5⟩
 ·rw [hb] at h1; cases h1
 ·rw [hb] at h1
  injection h1 with h1
  subst h1
  refine ⟨h3,cur,h2,h4,by rw [flat_length els h3]; simp; omega,fun i x hi => ?_⟩
  obtain ⟨cs,k1,k2⟩:=CP hs els h3 i x hi
  obtain ⟨u,hu,hr⟩:=h5 _ _ cs x k1 k2
  have hil:i < els.length * aW P e:=by rw [← flat_length els h3]; exact (List.getElem?_eq_some_iff.1 hi).1
  refine ⟨u,?_,hr⟩
  rw [List.getElem?_take,if_pos hil]
  have:i / aW P e * aW P e + i % aW P e = i:=by rw [Nat.mul_comm]; exact Nat.div_add_mod i _
  rw [this] at hu
  simpa using hu
theorem bJ.of_flat {n b:Nat} {e:TypeId} {els:List (List CV)} {cur:Array Value} (hb:g n = .blk b) (hl:∀ cs ∈ els,cs.length = aW P e) (hh:w.heap[b]? = some (.cells cur e (0,0))) (hc:els.length * aW P e ≤ cur.size)
  (hr:jh P w R B g els.flatten (cur.toList.take (els.length * aW P e))):bJ P w R B g n e els :=
 .inr ⟨b,cur,hb,hh,hl,hc,fun j k cs x hj hk => by
  obtain ⟨u,hu,rV⟩:=hr.2 _ x (zf els hl j k cs x hj hk)
  refine ⟨u,?_,rV⟩
  rw [List.getElem?_take] at hu
  split at hu
  ·simpa using hu
  ·cases hu⟩
def zL (P:Program) (w:World) (R B:Nat → Prop) (g:Nat → GS) (v:Value) (els:List (List CV)) (s:Nat):Prop :=
 ∃ A c,v = .slice A els.length c ∧ ∃ news:List Value,jh P w R B g els.flatten news ∧ ∀ i u,news[i]? = some u → ∃ ad,A = some ad ∧ w.cell? (ad.add i) = some u
theorem Ry {v:Value} {q:Bool} {els:List (List PV)} {s:Nat} (hs:0 < s) (hl:∀ cs ∈ els,cs.length = s) (h:RC P w R B g (.pv (.xs q els)) v):zL P w R B g v (bf els) s:=by
 obtain ⟨_,h⟩:=h
 cases h with
 | emp => exact ⟨_,_,rfl,[],⟨rfl,fun k x hk => by simp [bf] at hk⟩,fun i u hu => by simp at hu⟩
 | @xs _ _ ad c s' n val hn hq hc hs' hv hr =>
  subst hn
  have hss:∀ cs ∈ els,s' = s:=fun cs hcs => (hs' cs hcs).symm.trans (hl cs hcs)
  have G7:∀ (i:Nat) p,els.flatten[i]? = some p → ∃ cs,els[i / s]? = some cs ∧ cs[i % s]? = some p:=CP hs els hl
  refine ⟨some ad,c,by simp [bf],(List.range els.flatten.length).map fun i => val (i / s) (i % s),⟨by simp [bf,← List.map_flatten],fun k x hk => ?_⟩,fun i u hu => ?_⟩
  ·simp only [bf,← List.map_flatten,List.getElem?_map] at hk
   cases hp:els.flatten[k]? with
   | none => rw [hp] at hk; cases hk
   | some p =>
    rw [hp] at hk
    injection hk with hk
    subst hk
    obtain ⟨cs,h1,h2⟩:=G7 k p hp
    have hlt:k < els.flatten.length:=(List.getElem?_eq_some_iff.1 hp).1
    exact ⟨val (k / s) (k % s),by rw [List.getElem?_map,List.getElem?_range hlt]; rfl,(hr _ _ _ _ h1 h2).oneCell,hr _ _ _ _ h1 h2⟩
  ·rw [List.getElem?_map] at hu
   cases hi:(List.range els.flatten.length)[i]? with
   | none => rw [hi] at hu; cases hu
   | some i' =>
    rw [hi] at hu
    injection hu with hu
    subst hu
    have hlt:i < els.flatten.length:=by simpa using (List.getElem?_eq_some_iff.1 hi).1
    have hii:i = i':=by
     rw [List.getElem?_eq_getElem (by simpa using hlt)] at hi
     simpa using hi
    subst hii
    obtain ⟨cs,h1,h2⟩:=G7 i els.flatten[i] (List.getElem?_eq_getElem hlt)
    refine ⟨ad,rfl,?_⟩
    have:=hv _ _ _ _ h1 h2
    rw [hss cs (List.mem_of_getElem? h1)] at this
    rwa [show i / s * s + i % s = i by rw [Nat.mul_comm]; exact Nat.div_add_mod i s] at this
theorem Jq {v:Value} {n:Nat} {e:TypeId} {els:List (List CV)} (hs:0 < aW P e) (h:RC P w R B g (.loc n 0 els.length) v) (ho:bJ P w R B g n e els):zL P w R B g v els (aW P e):=by
 obtain ⟨_,h⟩:=h
 rcases h with ⟨h1,_,h3,h4⟩ | ⟨_,h2,_⟩ | ⟨b,cap,cur,e',k1,k2,k3,k4,k5,k6⟩
 ·have:els = []:=List.eq_nil_of_length_eq_zero h3
  subst this
  exact ⟨none,0,h4,[],⟨rfl,fun k x hk => by simp at hk⟩,fun i u hu => by simp at hu⟩
 ·exact absurd rfl h2
 ·obtain ⟨hl,cur',h5,h6,h7⟩:=ho.flat hs k1
  rw [k2] at h5
  injection h5 with h5
  injection h5 with h5 h8 h9
  subst h5
  subst h8
  refine ⟨some ⟨b,0,none⟩,cap,by simpa using k6,_,h7,fun i u hu => ⟨_,rfl,?_⟩⟩
  rw [add_lit,Nat.zero_add,sJ k2]
  rw [List.getElem?_take] at hu
  split at hu
  ·simpa using hu
  ·cases hu
theorem JY {t ty e:TypeId} {i:TypeInfo} (ht:P.underlying t = some (.slice e)) (hi:P.info? e = some i) (A:Option Addr) (n c c':Nat) (hn:n ≤ c) (w:World) :
  (Builtin.append_ #[t,t] ty #[.slice A n c,.slice none 0 c']).run P w = .ok (.slice A n c) w:=by
 cases A <;> simp [Builtin.append_,run_underlying ht,sizeOf,typeInfo,hi,Builtin.lenOf,Builtin.firstCells,storeCells,hn]
def FB (P:Program) (w:World) (R B:Nat → Prop) (g:Nat → GS) (n:Nat) (e:TypeId) (v:Value) (els:List (List CV)):Prop :=
 (v = fU ∧ els = []) ∨ (RC P w R B g (.loc n 0 els.length) v ∧ bJ P w R B g n e els)
theorem Rk {t ty e:TypeId} {z:Value} {s jB:Nat} (ht:P.underlying t = some (.slice e)) (hz:TI P e z s jB) (hzs:z.cells.size = s) (hs:0 < s) (hb:jB ≤ 65536) (hw:WF R B g w) {n:Nat} {v x:Value} {els dM:List (List CV)}
  (hl2:∀ cs ∈ dM,cs.length = s) (hv:FB P w R B g n e v els) (hx:zL P w R B g x dM s) (hlim:els.length + dM.length ≤ lD) (W:List Nat) (hW:W = [n] ∨ (v = fU ∧ W = [])) :
  ∃ v' g' w',(Builtin.append_ #[t,t] ty #[v,x]).run P w = .ok v' w' ∧ dK R B g w W [n] R B g' w' ∧ RC P w' R B g' (.loc n 0 (els.length + dM.length)) v' ∧ bJ P w' R B g' n e ((els ++ dM).map (·.map (aZ [n]))):=by
 obtain ⟨i,hi1,hi2,hi3,hi4⟩:=hz.parts
 have hsz:aW P e = s:=hz.sz
 have Oo:els.length + dM.length ≤ 2147483648:=hlim
 -- the target owns its row
 have hown:∃ xs,w.ownsRow 0 e s v els.length xs ∧ jh P w R B g els.flatten xs ∧ (∀ cs ∈ els,cs.length = s) ∧ (∀ b,v.ownBlock = some b → g n = .blk b):=by
  rcases hv with ⟨rfl,rfl⟩ | ⟨hv1,hv2⟩
  ·exact ⟨[],World.ownsRow_nil w 0 e s,⟨rfl,fun k x hk => by simp at hk⟩,fun cs hcs => by simp at hcs,fun b hb => by simp [Value.ownBlock] at hb⟩
  ·obtain ⟨_,hv1⟩:=hv1
   rcases hv1 with ⟨h1,_,h3,h4⟩ | ⟨_,h2,_⟩ | ⟨b,cap,cur,e',k1,k2,k3,k4,k5,k6⟩
   ·have:els = []:=List.eq_nil_of_length_eq_zero h3
    subst this
    subst h4
    exact ⟨[],World.ownsRow_nil w 0 e s,⟨rfl,fun k x hk => by simp at hk⟩,fun cs hcs => by simp at hcs,fun b hb => by simp [Value.ownBlock] at hb⟩
   ·exact absurd rfl h2
   ·obtain ⟨hl,cur',h5,h6,h7⟩:=hv2.flat (by rw [hsz]; exact hs) k1
    rw [k2] at h5
    injection h5 with h5
    injection h5 with h5 h8 h9
    subst h5
    subst h8
    rw [hsz] at h7 h6 hl k5
    have hk6:v = .slice (some ⟨b,0,none⟩) els.length cap:=by simpa using k6
    refine ⟨_,⟨?_,.inr ⟨b,cap,cur,hk6,Nat.zero_le _,k2,k3,by omega,by simpa using k5.symm,rfl⟩⟩,h7,hl,fun b' hb' => ?_⟩
    ·simp; omega
    ·rw [hk6] at hb'
     simp [Value.ownBlock] at hb'
     rw [← hb']; exact k1
 obtain ⟨xs,hown,G9,hlx,hblk⟩:=hown
 obtain ⟨A,c,rfl,news,zy,hcell⟩:=hx
 have hnl:news.length = dM.length * s:=by rw [zy.1,flat_length dM hl2]
 -- the run
 have hrun:∃ v' w',(Builtin.append_ #[t,t] ty #[v,.slice A dM.length c]).run P w = .ok v' w' ∧ w'.ownsRow 0 e s v' (els.length + dM.length) (xs ++ news) ∧ w.grownBy w' v.ownBlock ∧
   (v'.ownBlock = v.ownBlock ∨ v'.ownBlock = some w.heap.size):=by
  cases A with
  | none =>
   have hn0:news = []:=by
    cases news with
    | nil => rfl
    | cons u r =>
     obtain ⟨ad,h,_⟩:=hcell 0 u rfl
     cases h
   have h20:dM.length = 0:=by
    rw [hn0] at hnl
    rcases Nat.mul_eq_zero.1 hnl.symm with h | h
    ·exact h
    ·omega
   refine ⟨v,w,?_,by rw [hn0,h20]; simpa using hown,World.grownBy.refl w _,.inl rfl⟩
   rw [h20]
   rcases hown.2 with ⟨rfl,_⟩ | ⟨b,cap,cur,rfl,_,_,hnc,_⟩
   ·exact JY ht hi1 none 0 0 c (Nat.le_refl _) w
   ·exact JY ht hi1 _ _ _ c hnc w
  | some ad =>
   have hc:∀ j u,news[j]? = some u → w.cell? (ad.add j) = some u:=fun j u hu => by
    obtain ⟨ad',h,hc⟩:=hcell j u hu
    injection h with h
    subst h
    exact hc
   obtain ⟨v',w',h1,h2,h3,_,h5⟩:=run_append_own_at (P:=P) w 0 t ty e i z s jB ht hi1 hi2 hi3 hi4 hzs hs v els.length xs hown ad dM.length c news hnl hc zy.one
    (by simp only [maxLen]; omega) (by
     have:(els.length + dM.length) * jB ≤ 2147483648 * 65536:=Nat.mul_le_mul Oo hb
     omega) (Nat.zero_le _)
   exact ⟨v',w',h1,h2,h3,h5⟩
 obtain ⟨v',w',hr1,hr2,hr3,hr4⟩:=hrun
 have Hl:∀ b,v.ownBlock = some b → W = [n]:=fun b hb => by
  rcases hW with h | ⟨h,_⟩
  ·exact h
  ·rw [h] at hb; simp [Value.ownBlock] at hb
 have hheap:∀ k,k < w.heap.size → (∀ m ∈ W,¬ (g m).has k) → w'.heap[k]? = w.heap[k]?:=fun k hk hkW => hr3.block k hk fun e => by
  have h1:=hblk k e.symm
  have h2:=Hl k e.symm
  exact hkW n (by rw [h2]; exact List.mem_cons_self) (GS.lX h1)
 have hl12:∀ cs ∈ els ++ dM,cs.length = s:=fun cs hcs => (List.mem_append.1 hcs).elim (hlx cs) (hl2 cs)
 rcases hr2.2 with ⟨h1,h2⟩ | ⟨b2,cap,cur,h1,_,h3,h4,h5,h6,h7⟩
 ·-- still nil
  have he1:els = []:=List.eq_nil_of_length_eq_zero (by omega)
  have he2:dM = []:=List.eq_nil_of_length_eq_zero (by omega)
  subst he1
  subst he2
  refine ⟨v',upd g n .nil,w',hr1,?_,⟨by rw [h1]; rfl,.inl ⟨upd_same ..,rfl,rfl,h1⟩⟩,.inl ⟨upd_same ..,rfl⟩⟩
  refine ⟨hw.upd n _ hr3.size (fun b hb => hb.elim) (fun j k b hj => by cases hj),fun _ h => h,fun _ h => h,hr3.os,hr3.tape,hr3.output,hr3.size,hheap,fun k hk => upd_ne g _ (by simpa using hk),fun k hk b hb => ?_,fun k hkW hkX => ?_⟩
  ·have:k = n:=by simpa using hk
   subst this
   rw [upd_same] at hb; exact hb.elim
  ·rcases hW with h | ⟨_,h⟩
   ·rw [h] at hkW; exact absurd (by simpa using hkW) hkX
   ·rw [h] at hkW; cases hkW
 ·-- a row
  have hb2:(g n = .blk b2) ∨ w.heap.size ≤ b2:=by
   rw [h1] at hr4
   simp only [Value.ownBlock] at hr4
   rcases hr4 with h | h
   ·exact .inl (hblk b2 h.symm)
   ·injection h with h
    exact .inr (by omega)
  have OA:w.heap.size ≤ b2 ∨ ∃ m ∈ W,(g m).has b2:=by
   rw [h1] at hr4
   simp only [Value.ownBlock] at hr4
   rcases hr4 with h | h
   ·exact .inr ⟨n,by rw [Hl b2 h.symm]; exact List.mem_cons_self,GS.lX (hblk b2 h.symm)⟩
   ·injection h with h
    exact .inl (by omega)
  have OB:b2 < w'.heap.size:=(Array.getElem?_eq_some_iff.1 h3).1
  have had:dK R B g w W [n] R B (upd g n (.blk b2)) w':=by
   have hother:∀ q,q ≠ n → ¬ (g q).has b2:=fun q hq hg => by
    rcases hb2 with h | h
    ·exact hq (hw.fC q n b2 hg (GS.lX h))
    ·exact absurd (hw.eP q b2 hg).2 (by omega)
   refine ⟨hw.upd n _ hr3.size (fun b hb => ?_) GS.Ic,fun _ h => h,fun _ h => h,hr3.os,hr3.tape,hr3.output,hr3.size,hheap,fun k hk => upd_ne g _ (by simpa using hk),fun k hk b hb => ?_,fun k hkW hkX => ?_⟩
   ·have hb:b = b2:=hb
    subst hb
    refine ⟨fun hB => ?_,OB,hother⟩
    rcases hb2 with h | h
    ·exact (hw.own n b h).1 hB
    ·exact absurd (hw.lt b hB) (by omega)
   ·have:k = n:=by simpa using hk
    subst this
    rw [upd_same] at hb
    have hb:b = b2:=hb
    subst hb
    exact OA
   ·rcases hW with h | ⟨_,h⟩
    ·rw [h] at hkW; exact absurd (by simpa using hkW) hkX
    ·rw [h] at hkW; cases hkW
  refine ⟨v',_,w',hr1,had,⟨by rw [h1]; rfl,.inr (.inr ⟨b2,cap,cur,e,upd_same ..,h3,h4,by omega,by rw [hsz]; simpa using h6.symm,by simpa using h1⟩)⟩,?_⟩
  have hk1:=(G9.keep had hw)
  have hk2:=(zy.keep had hw)
  refine bJ.of_flat (upd_same ..) (fun cs hcs => ?_) h3 ?_ ?_
  ·obtain ⟨c0,hc0,rfl⟩:=List.mem_map.1 hcs
   rw [hsz]; simpa using hl12 c0 hc0
  ·rw [hsz]
   simp only [List.length_map,List.length_append]
   rw [h6]
   exact Nat.mul_le_mul_right _ h4
  ·rw [hsz]
   simp only [List.length_map,List.length_append]
   rw [h7,← List.map_flatten,List.flatten_append,List.map_append]
   refine ⟨by simp [hk1.1,hk2.1,G9.1,zy.1],fun k x hk => ?_⟩
   rw [List.getElem?_append] at hk ⊢
   have hlen:xs.length = (els.flatten.map (aZ [n])).length:=hk1.1
   rw [hlen]
   split at hk
   ·rename_i hlt
    rw [if_pos hlt]
    exact hk1.2 k x hk
   ·rename_i hlt
    rw [if_neg hlt]
    exact hk2.2 _ x hk
theorem LT.append {o:Oper} {ins:List (Operand × AV)} {us:Mem} {t e:TypeId} {x y:Operand} {n:Nat} {els dM:List (List CV)} {z:Value} {s jB:Nat} {W:List Nat} (ho:o.op = .call { callee:=.builtin .append,args:=#[x,y],argTypes:=#[t,t] })
  (ht:P.underlying t = some (.slice e)) (hz:TI P e z s jB) (hzs:z.cells.size = s) (hs:0 < s) (hb:jB ≤ 65536) (hl2:∀ cs ∈ dM,cs.length = s) (hlim:els.length + dM.length ≤ lD)
  (h:∀ R B g w (a:Act),WF R B g w → (∀ p ∈ ins,RA P w R B g p.2 (a.eval p.1)) → (∀ p ∈ us,RO P w R B g p.1 p.2) → FB P w R B g n e (a.eval x) els ∧ zL P w R B g (a.eval y) dM s ∧ (W = [n] ∨ (a.eval x = fU ∧ W = []))) :
  LT P o ins us (Cc (.loc n 0 (els.length + dM.length))) [(n,.row e ((els ++ dM).map (·.map (aZ [n]))))] W [n]:=by
 intro R B g w a hw hi hu K Q hK
 obtain ⟨h1,h2,h3⟩:=h R B g w a hw hi hu
 obtain ⟨v',g',w',hr,had,hv,hro⟩:=Rk (ty:=o.type) ht hz hzs hs hb hw hl2 h1 h2 hlim W h3
 unfold Oper.wp execOp
 simp only [ho,resolve,invoke,builtin,Sem.run_bind,Sem.run_pure,Result.andThen_ok,List.map_toArray,List.map_cons,List.map_nil,hr]
 exact hK v' R B g' w' had (fun b hb => .inl hb) (fun _ => hv) (vS hro)
section
variable {o:Oper} {t e:TypeId} {x y:Operand} {n n2:Nat} {fH iP:List (List PV)} {z:Value} {s jB:Nat} {q:Bool}
theorem LT.Ku (ho:o.op = .call { callee:=.builtin .append,args:=#[x,y],argTypes:=#[t,t] }) (ht:P.underlying t = some (.slice e)) (hz:TI P e z s jB) (hzs:z.cells.size = s) (hs:0 < s) (hb:jB ≤ 65536)
  (hl2:∀ cs ∈ iP,cs.length = s) (hlim:fH.length + iP.length ≤ lD) :
  LT P o [(x,Cc (.loc n 0 fH.length)),(y,Cc (.pv (.xs q iP)))] [(n,.bZ e fH)] (Cc (.loc n 0 (fH.length + iP.length))) [(n,.bZ e (fH ++ iP))] [n] [n]:=by
 have:=LT.append (P:=P) (ins:=[(x,Cc (.loc n 0 fH.length)),(y,Cc (.pv (.xs q iP)))]) (us:=[(n,.bZ e fH)]) (n:=n) (els:=bf fH) (dM:=bf iP) (W:=[n]) ho ht hz hzs hs hb
  (fun cs hcs => by obtain ⟨c,hc,rfl⟩:=List.mem_map.1 hcs; simpa using hl2 c hc) (by simpa [bf] using hlim)
  (fun R B g w a hw hi hu => ⟨.inr ⟨by rw [EQ]; exact in1 hi,nX hu⟩,Ry hs hl2 (in2 hi),.inl rfl⟩)
 have h2:LT P o [(x,Cc (.loc n 0 fH.length)),(y,Cc (.pv (.xs q iP)))] [(n,.bZ e fH)] (Cc (.loc n 0 (fH.length + iP.length))) [(n,.row e ((bf (fH ++ iP)).map (·.map (aZ [n]))))] [n] [n]:=by
  simpa [bf] using this
 exact h2.wM
theorem LT.Kt (ho:o.op = .call { callee:=.builtin .append,args:=#[x,y],argTypes:=#[t,t] }) (ht:P.underlying t = some (.slice e)) (hz:TI P e z s jB) (hzs:z.cells.size = s) (hs:0 < s) (hb:jB ≤ 65536)
  (hl2:∀ cs ∈ iP,cs.length = s) (hlim:fH.length + iP.length ≤ lD) :
  LT P o [(x,Cc (.loc n 0 fH.length)),(y,Cc (.loc n2 0 iP.length))] [(n,.bZ e fH),(n2,.bZ e iP)] (Cc (.loc n 0 (fH.length + iP.length))) [(n,.bZ e (fH ++ iP))] [n] [n]:=by
 have:=LT.append (P:=P) (ins:=[(x,Cc (.loc n 0 fH.length)),(y,Cc (.loc n2 0 iP.length))]) (us:=[(n,.bZ e fH),(n2,.bZ e iP)]) (n:=n) (els:=bf fH) (dM:=bf iP) (W:=[n]) ho ht hz hzs hs hb
  (fun cs hcs => by obtain ⟨c,hc,rfl⟩:=List.mem_map.1 hcs; simpa using hl2 c hc) (by simpa [bf] using hlim)
  (fun R B g w a hw hi hu => ⟨.inr ⟨by rw [EQ]; exact in1 hi,nX hu⟩,by
   have:=Jq (els:=bf iP) (by rw [hz.sz]; exact hs) (by rw [EQ]; exact in2 hi) (J4 hu)
   rwa [hz.sz] at this,.inl rfl⟩)
 have h2:LT P o [(x,Cc (.loc n 0 fH.length)),(y,Cc (.loc n2 0 iP.length))] [(n,.bZ e fH),(n2,.bZ e iP)] (Cc (.loc n 0 (fH.length + iP.length))) [(n,.row e ((bf (fH ++ iP)).map (·.map (aZ [n]))))] [n] [n]:=by
  simpa [bf] using this
 exact h2.wM
end
end
end
section
inductive aX:PV → Prop
 | sc {v:Value}:aX (.sc v)
 | xs {els:List (List PV)} (h:∀ cs ∈ els,∀ p ∈ cs,aX p):aX (.xs true els)
def qF:CV → Prop
 | .pv p => aX p
 | .px q cells => q = true ∧ ∀ p ∈ cells,aX p
 | _ => True
def wG:SV → Prop
 | .c x => qF x
 | .agg cs => ∀ x ∈ cs,qF x
def zJ:AV → Prop
 | .s x => wG x
 | .bV xs => ∀ x ∈ xs,wG x
def dB:Ob → Prop
 | .row _ els => ∀ cs ∈ els,∀ x ∈ cs,qF x
 | .bZ _ els => ∀ cs ∈ els,∀ p ∈ cs,aX p
 | .mp _ => True
 | .pool _ rows => ∀ els ∈ rows,∀ cs ∈ els,∀ p ∈ cs,aX p
 | .fM _ _ _ => True
 | .ax _ _ _ _ => True
 | .unk => True
section
variable {P:Program} {w:World} {R B B':Nat → Prop} {g g':Nat → GS}
theorem eH.perm {p:PV} {v:Value} (hp:aX p) (h:eH w R B p v):eH w R B' p v:=by
 induction h with
 | sc h => exact .sc h
 | emp => exact .emp
 | @xs q els ad c s n val hn hq hc hs hv hr ih =>
  cases hp with
  | xs hp => exact .xs val hn hq hc hs hv fun j k cs p h1 h2 => ih j k cs p h1 h2 (hp cs (List.mem_of_getElem? h1) p (List.mem_of_getElem? h2))
theorem RC.perm {x:CV} {v:Value} (hp:qF x) (h:RC P w R B g x v):RC P w R B' g x v:=by
 refine ⟨h.1,?_⟩
 have h2:=h.2
 cases x with
 | pv p => exact eH.perm hp h2
 | px q cells =>
  obtain ⟨rfl,hp⟩:=hp
  obtain ⟨a,h3,h4,h5⟩:=h2
  exact ⟨a,h3,h4,fun k p hk => by
   obtain ⟨u,h6,h7⟩:=h5 k p hk
   exact ⟨u,h6,h7.perm (hp p (List.mem_of_getElem? hk))⟩⟩
 | _ => exact h2
theorem RS.perm {x:SV} {v:Value} (hp:wG x) (h:RS P w R B g x v):RS P w R B' g x v:=by
 cases x with
 | c x => exact RC.perm hp h
 | agg cs =>
  obtain ⟨vs,h1,h2,h3⟩:=h
  exact ⟨vs,h1,h2,fun k x hk => by
   obtain ⟨u,h4,h5⟩:=h3 k x hk
   exact ⟨u,h4,h5.perm (hp x (List.mem_of_getElem? hk))⟩⟩
theorem RA.perm {x:AV} {v:Value} (hp:zJ x) (h:RA P w R B g x v):RA P w R B' g x v:=by
 cases x with
 | s x => exact RS.perm hp h
 | bV xs =>
  obtain ⟨vs,h1,h2,h3⟩:=h
  exact ⟨vs,h1,h2,fun k x hk => by
   obtain ⟨u,h4,h5⟩:=h3 k x hk
   exact ⟨u,h4,h5.perm (hp x (List.mem_of_getElem? hk))⟩⟩
theorem Ad {p:Nat} {lens:List Nat} {cs:List CV} (h:cs ∈ jK p lens):∃ j l,cs = [.tl p j 0 l]:=by
 obtain ⟨i,hi⟩:=List.mem_iff_getElem?.1 h
 unfold jK at hi
 rw [List.getElem?_mapIdx] at hi
 cases hl:lens[i]? with
 | none => rw [hl] at hi; cases hi
 | some l => rw [hl] at hi; injection hi with hi; exact ⟨i,l,hi.symm⟩
theorem yj {p q:Nat} {fs:List (Int × Nat × Nat)} {cs:List CV} (h:cs ∈ dU p q fs):∃ j i a b,cs = [.pv (.sc (.int .i64 i)),.tl p j 0 a,.tl q j 0 b]:=by
 obtain ⟨i,hi⟩:=List.mem_iff_getElem?.1 h
 unfold dU at hi
 rw [List.getElem?_mapIdx] at hi
 cases hl:fs[i]? with
 | none => rw [hl] at hi; cases hi
 | some l => rw [hl] at hi; injection hi with hi; exact ⟨i,_,_,_,hi.symm⟩
theorem bJ.perm {n:Nat} {e:TypeId} {els:List (List CV)} (hp:∀ cs ∈ els,∀ x ∈ cs,qF x) (h:bJ P w R B g n e els):bJ P w R B' g n e els:=by
 rcases h with h | ⟨b,cur,h1,h2,h3,h4,h5⟩
 ·exact .inl h
 ·exact .inr ⟨b,cur,h1,h2,h3,h4,fun j k cs x hj hk => by
   obtain ⟨u,h6,h7⟩:=h5 j k cs x hj hk
   exact ⟨u,h6,h7.perm (hp cs (List.mem_of_getElem? hj) x (List.mem_of_getElem? hk))⟩⟩
theorem RO.perm {n:Nat} {o:Ob} (hp:dB o) (h:RO P w R B g n o):RO P w R B' g n o:=by
 cases o with
 | row e els => exact bJ.perm hp h
 | bZ e els => exact bJ.perm (fun cs hcs x hx => by
   obtain ⟨c0,hc0,rfl⟩:=List.mem_map.1 hcs
   obtain ⟨p,hp0,rfl⟩:=List.mem_map.1 hx
   exact hp c0 hc0 p hp0) h
 | mp es => exact h
 | pool e rows => exact ⟨h.1,fun k els hk => by
   rcases h.2 k els hk with h1 | ⟨b,cur,h1,h2,h3,h4,h5⟩
   ·exact .inl h1
   ·exact .inr ⟨b,cur,h1,h2,h3,h4,fun j i cs x hj hi => by
     obtain ⟨u,h6,h7⟩:=h5 j i cs x hj hi
     exact ⟨u,h6,h7.perm (hp els (List.mem_of_getElem? hk) cs (List.mem_of_getElem? hj) x (List.mem_of_getElem? hi))⟩⟩⟩
 | fM e p lens => exact bJ.perm (fun cs hcs x hx => by
   obtain ⟨j,l,rfl⟩:=Ad hcs
   have:x = .tl p j 0 l:=by simpa using hx
   subst this; trivial) h
 | ax e p q fs => exact bJ.perm (fun cs hcs x hx => by
   obtain ⟨j,i,a,b,rfl⟩:=yj hcs
   simp only [List.mem_cons,List.not_mem_nil,or_false] at hx
   rcases hx with rfl | rfl | rfl <;> first | trivial | exact .sc) h
 | unk => trivial
theorem RC.names {x:CV} {v:Value} (h:RC P w R B g x v) (hg:∀ n,g n ≠ .dead → g' n = g n):RC P w R B g' x v:=by
 have hgb:∀ n b,g n = .blk b → g' n = .blk b:=fun n b h => (hg n (by rw [h]; simp)).trans h
 have hgn:∀ n,g n = .nil → g' n = .nil:=fun n h => (hg n (by rw [h]; simp)).trans h
 have hga:∀ n k s,(g n).at k = s → s ≠ .dead → (g' n).at k = s:=fun n k s h hs => by
  rw [hg n fun hd => hs (by rw [← h,hd]; rfl)]
  exact h
 refine ⟨h.1,?_⟩
 have h2:=h.2
 cases x with
 | pv p => exact h2
 | px q cells => exact h2
 | loc n off len =>
  rcases h2 with ⟨h3,h4⟩ | h3 | ⟨b,cap,cur,e,h3,h4⟩
  ·exact .inl ⟨hgn n h3,h4⟩
  ·exact .inr (.inl h3)
  ·exact .inr (.inr ⟨b,cap,cur,e,hgb n b h3,h4⟩)
 | pl n off =>
  obtain ⟨b,h3,h4⟩:=h2
  exact ⟨b,hgb n b h3,h4⟩
 | fn f caps =>
  obtain ⟨vs,h3,h4,h5⟩:=h2
  exact ⟨vs,h3,h4,fun k n hk => by
   obtain ⟨b,h6,h7⟩:=h5 k n hk
   exact ⟨b,hgb n b h6,h7⟩⟩
 | mref n =>
  obtain ⟨b,h3,h4⟩:=h2
  exact ⟨b,hgb n b h3,h4⟩
 | tl p k off len =>
  rcases h2 with ⟨h3,h4⟩ | h3 | ⟨b,cap,cur,e,h3,h4⟩
  ·exact .inl ⟨hga p k _ h3 (by simp),h4⟩
  ·exact .inr (.inl h3)
  ·exact .inr (.inr ⟨b,cap,cur,e,hga p k _ h3 (by simp),h4⟩)
 | tpl p k off =>
  obtain ⟨b,h3,h4⟩:=h2
  exact ⟨b,hga p k _ h3 (by simp),h4⟩
 | junk => trivial
theorem RS.names {x:SV} {v:Value} (h:RS P w R B g x v) (hg:∀ n,g n ≠ .dead → g' n = g n):RS P w R B g' x v:=by
 cases x with
 | c x => exact RC.names h hg
 | agg cs =>
  obtain ⟨vs,h1,h2,h3⟩:=h
  exact ⟨vs,h1,h2,fun k x hk => by
   obtain ⟨u,h4,h5⟩:=h3 k x hk
   exact ⟨u,h4,h5.names hg⟩⟩
theorem RA.names {x:AV} {v:Value} (h:RA P w R B g x v) (hg:∀ n,g n ≠ .dead → g' n = g n):RA P w R B g' x v:=by
 cases x with
 | s x => exact RS.names h hg
 | bV xs =>
  obtain ⟨vs,h1,h2,h3⟩:=h
  exact ⟨vs,h1,h2,fun k x hk => by
   obtain ⟨u,h4,h5⟩:=h3 k x hk
   exact ⟨u,h4,h5.names hg⟩⟩
theorem bJ.names {n:Nat} {e:TypeId} {els:List (List CV)} (h:bJ P w R B g n e els) (hg:∀ n,g n ≠ .dead → g' n = g n):bJ P w R B g' n e els:=by
 rcases h with ⟨h1,h2⟩ | ⟨b,cur,h1,h2,h3,h4,h5⟩
 ·exact .inl ⟨(hg n (by rw [h1]; simp)).trans h1,h2⟩
 ·exact .inr ⟨b,cur,(hg n (by rw [h1]; simp)).trans h1,h2,h3,h4,fun j k cs x hj hk => by
   obtain ⟨u,h6,h7⟩:=h5 j k cs x hj hk
   exact ⟨u,h6,h7.names hg⟩⟩
theorem RO.names {n:Nat} {o:Ob} (h:RO P w R B g n o) (hg:∀ n,g n ≠ .dead → g' n = g n):RO P w R B g' n o:=by
 cases o with
 | row e els => exact bJ.names h hg
 | bZ e els => exact bJ.names h hg
 | mp es =>
  obtain ⟨b,kQ,clock,h1,h2⟩:=h
  exact ⟨b,kQ,clock,(hg n (by rw [h1]; simp)).trans h1,h2⟩
 | pool e rows =>
  obtain ⟨⟨bs,h1,h2⟩,h3⟩:=h
  have e1:=hg n (by rw [h1]; simp)
  exact ⟨⟨bs,e1.trans h1,h2⟩,by rw [e1]; exact h3⟩
 | fM e p lens => exact bJ.names h hg
 | ax e p q fs => exact bJ.names h hg
 | unk => trivial
def jg (zs:List Nat):CV → Bool
 | .loc n _ _ => zs.elem n
 | .pl n _ => zs.elem n
 | .fn _ caps => caps.all zs.elem
 | .mref n => zs.elem n
 | .tl p _ _ _ => zs.elem p
 | .tpl p _ _ => zs.elem p
 | _ => true
def okS (zs:List Nat):SV → Bool
 | .c x => jg zs x
 | .agg cs => cs.all (jg zs)
def okA (zs:List Nat):AV → Bool
 | .s x => okS zs x
 | .bV xs => xs.all (okS zs)
def okO (zs:List Nat):Ob → Bool
 | .row _ els => els.all (·.all (jg zs))
 | .fM _ p _ => zs.elem p
 | .ax _ p q _ => zs.elem p && zs.elem q
 | _ => true
theorem RC.ok {zs:List Nat} {x:CV} {v:Value} (hz:jg zs x = true) (hg:∀ n ∈ zs,g' n = g n) (h:RC P w R B g x v):RC P w R B g' x v:=by
 refine ⟨h.1,?_⟩
 have h2:=h.2
 cases x with
 | pv p => exact h2
 | px q cells => exact h2
 | loc n off len =>
  have hn:=hg n (List.mem_of_elem_eq_true hz)
  rcases h2 with ⟨h3,h4⟩ | h3 | ⟨b,cap,cur,e,h3,h4⟩
  ·exact .inl ⟨hn.trans h3,h4⟩
  ·exact .inr (.inl h3)
  ·exact .inr (.inr ⟨b,cap,cur,e,hn.trans h3,h4⟩)
 | pl n off =>
  obtain ⟨b,h3,h4⟩:=h2
  exact ⟨b,(hg n (List.mem_of_elem_eq_true hz)).trans h3,h4⟩
 | fn f caps =>
  obtain ⟨vs,h3,h4,h5⟩:=h2
  exact ⟨vs,h3,h4,fun k n hk => by
   obtain ⟨b,h6,h7⟩:=h5 k n hk
   exact ⟨b,(hg n (List.mem_of_elem_eq_true (List.all_eq_true.1 hz n (List.mem_of_getElem? hk)))).trans h6,h7⟩⟩
 | mref n =>
  obtain ⟨b,h3,h4⟩:=h2
  exact ⟨b,(hg n (List.mem_of_elem_eq_true hz)).trans h3,h4⟩
 | tl p k off len =>
  have hn:=hg p (List.mem_of_elem_eq_true hz)
  rcases h2 with ⟨h3,h4⟩ | h3 | ⟨b,cap,cur,e,h3,h4⟩
  ·exact .inl ⟨by rw [hn]; exact h3,h4⟩
  ·exact .inr (.inl h3)
  ·exact .inr (.inr ⟨b,cap,cur,e,by rw [hn]; exact h3,h4⟩)
 | tpl p k off =>
  obtain ⟨b,h3,h4⟩:=h2
  exact ⟨b,by rw [hg p (List.mem_of_elem_eq_true hz)]; exact h3,h4⟩
 | junk => trivial
theorem RS.ok {zs:List Nat} {x:SV} {v:Value} (hz:okS zs x = true) (hg:∀ n ∈ zs,g' n = g n) (h:RS P w R B g x v):RS P w R B g' x v:=by
 cases x with
 | c x => exact RC.ok hz hg h
 | agg cs =>
  obtain ⟨vs,h1,h2,h3⟩:=h
  exact ⟨vs,h1,h2,fun k x hk => by
   obtain ⟨u,h4,h5⟩:=h3 k x hk
   exact ⟨u,h4,h5.ok (List.all_eq_true.1 hz x (List.mem_of_getElem? hk)) hg⟩⟩
theorem RA.ok {zs:List Nat} {x:AV} {v:Value} (hz:okA zs x = true) (hg:∀ n ∈ zs,g' n = g n) (h:RA P w R B g x v):RA P w R B g' x v:=by
 cases x with
 | s x => exact RS.ok hz hg h
 | bV xs =>
  obtain ⟨vs,h1,h2,h3⟩:=h
  exact ⟨vs,h1,h2,fun k x hk => by
   obtain ⟨u,h4,h5⟩:=h3 k x hk
   exact ⟨u,h4,h5.ok (List.all_eq_true.1 hz x (List.mem_of_getElem? hk)) hg⟩⟩
theorem bJ.ok {zs:List Nat} {n:Nat} {e:TypeId} {els:List (List CV)} (hn:n ∈ zs) (hz:els.all (·.all (jg zs)) = true) (hg:∀ n ∈ zs,g' n = g n) (h:bJ P w R B g n e els):bJ P w R B g' n e els:=by
 rcases h with ⟨h1,h2⟩ | ⟨b,cur,h1,h2,h3,h4,h5⟩
 ·exact .inl ⟨(hg n hn).trans h1,h2⟩
 ·exact .inr ⟨b,cur,(hg n hn).trans h1,h2,h3,h4,fun j k cs x hj hk => by
   obtain ⟨u,h6,h7⟩:=h5 j k cs x hj hk
   exact ⟨u,h6,h7.ok (List.all_eq_true.1 (List.all_eq_true.1 hz cs (List.mem_of_getElem? hj)) x (List.mem_of_getElem? hk)) hg⟩⟩
theorem RO.ok {zs:List Nat} {n:Nat} {o:Ob} (hn:n ∈ zs) (hz:okO zs o = true) (hg:∀ n ∈ zs,g' n = g n) (h:RO P w R B g n o):RO P w R B g' n o:=by
 cases o with
 | row e els => exact bJ.ok hn hz hg h
 | bZ e els => exact bJ.ok hn (by simp [bf,List.all_eq_true,jg]) hg h
 | mp es =>
  obtain ⟨b,kQ,clock,h1,h2⟩:=h
  exact ⟨b,kQ,clock,(hg n hn).trans h1,h2⟩
 | pool e rows =>
  obtain ⟨⟨bs,h1,h2⟩,h3⟩:=h
  exact ⟨⟨bs,(hg n hn).trans h1,h2⟩,by rw [hg n hn]; exact h3⟩
 | fM e p lens => exact bJ.ok hn (List.all_eq_true.2 fun cs hcs => by
   obtain ⟨j,l,rfl⟩:=Ad hcs
   simpa [jg,okO] using hz) hg h
 | ax e p q fs => exact bJ.ok hn (List.all_eq_true.2 fun cs hcs => by
   obtain ⟨j,i,a,b,rfl⟩:=yj hcs
   simpa [jg,okO] using hz) hg h
 | unk => trivial
theorem eH.more (hb:∀ b,B b → B' b) {p:PV} {v:Value} (h:eH w R B p v):eH w R B' p v:=by
 induction h with
 | sc h => exact .sc h
 | emp => exact .emp
 | xs val hn hq hc hs hv _ ih => exact .xs val hn (Ak (fun _ h => h) hb hq) hc hs hv ih
theorem RC.more (hb:∀ b,B b → B' b) {x:CV} {v:Value} (h:RC P w R B g x v):RC P w R B' g x v:=by
 refine ⟨h.1,?_⟩
 have h2:=h.2
 cases x with
 | pv p => exact eH.more hb h2
 | px q cells =>
  obtain ⟨a,h3,h4,h5⟩:=h2
  exact ⟨a,h3,Ak (fun _ h => h) hb h4,fun k p hk => by
   obtain ⟨u,h6,h7⟩:=h5 k p hk
   exact ⟨u,h6,h7.more hb⟩⟩
 | _ => exact h2
theorem RS.more (hb:∀ b,B b → B' b) {x:SV} {v:Value} (h:RS P w R B g x v):RS P w R B' g x v:=by
 cases x with
 | c x => exact RC.more hb h
 | agg cs =>
  obtain ⟨vs,h1,h2,h3⟩:=h
  exact ⟨vs,h1,h2,fun k x hk => by
   obtain ⟨u,h4,h5⟩:=h3 k x hk
   exact ⟨u,h4,h5.more hb⟩⟩
theorem RA.more (hb:∀ b,B b → B' b) {x:AV} {v:Value} (h:RA P w R B g x v):RA P w R B' g x v:=by
 cases x with
 | s x => exact RS.more hb h
 | bV xs =>
  obtain ⟨vs,h1,h2,h3⟩:=h
  exact ⟨vs,h1,h2,fun k x hk => by
   obtain ⟨u,h4,h5⟩:=h3 k x hk
   exact ⟨u,h4,h5.more hb⟩⟩
theorem bJ.more (hb:∀ b,B b → B' b) {n:Nat} {e:TypeId} {els:List (List CV)} (h:bJ P w R B g n e els):bJ P w R B' g n e els:=by
 rcases h with h | ⟨b,cur,h1,h2,h3,h4,h5⟩
 ·exact .inl h
 ·exact .inr ⟨b,cur,h1,h2,h3,h4,fun j k cs x hj hk => by
   obtain ⟨u,h6,h7⟩:=h5 j k cs x hj hk
   exact ⟨u,h6,h7.more hb⟩⟩
theorem RO.more (hb:∀ b,B b → B' b) {n:Nat} {o:Ob} (h:RO P w R B g n o):RO P w R B' g n o:=by
 cases o with
 | row e els => exact bJ.more hb h
 | bZ e els => exact bJ.more hb h
 | mp es => exact h
 | pool e rows => exact ⟨h.1,fun k els hk => by
   rcases h.2 k els hk with h1 | ⟨b,cur,h1,h2,h3,h4,h5⟩
   ·exact .inl h1
   ·exact .inr ⟨b,cur,h1,h2,h3,h4,fun j i cs x hj hi => by
     obtain ⟨u,h6,h7⟩:=h5 j i cs x hj hi
     exact ⟨u,h6,h7.more hb⟩⟩⟩
 | fM e p lens => exact bJ.more hb h
 | ax e p q fs => exact bJ.more hb h
 | unk => trivial
end
def Fn (P:Program) (f:FuncId) (args:List SV) (us:Mem) (v:AV) (df:Mem) (W X:List Nat):Prop :=
 ∀ (R B:Nat → Prop) (g:Nat → GS) (w:World) (vs:List Value),WF R B g w → vs.length = args.length → (∀ (k:Nat) x,args[k]? = some x → ∃ u,vs[k]? = some u ∧ RS P w R B g x u) → (∀ p ∈ us,RO P w R B g p.1 p.2) →
  Calls P f vs.toArray w fun e w' => ∃ u R' B' g',e = .returned u ∧ dK R B g w W X R' B' g' w' ∧ (∀ b,R' b → R b ∨ w.heap.size ≤ b) ∧ RA P w' R' R' g' v u ∧ ∀ p ∈ df,RO P w' R' R' g' p.1 p.2
def zK (P:Program) (σ:Slots) (m:Mem):ResultVar → SV → Prop
 | .tmp t,x => lk σ t = some (.s x)
 | .cell t T,x => ∃ n e cells,lk σ t = some (Cc (.pl n 0)) ∧ lk m n = some (.row e [cells]) ∧ x = .agg cells ∧ fP P T = some true ∧ aW P T = cells.length ∧ ∃ i,P.info? T = some i
def lT (P:Program) (σ:Slots) (m:Mem):List ResultVar → List SV → Prop
 | [],[] => True
 | r :: rs,x :: xs => zK P σ m r x ∧ lT P σ m rs xs
 | _,_ => False
def jv:List SV → AV
 | [x] => .s x
 | xs => .bV xs
section
variable {P:Program} {C:Ctx} {σ:Slots} {m:Mem} {R B:Nat → Prop} {g:Nat → GS} {a:Act} {w:World}
def vW (tmps:Array Value):ResultVar → Sem Value
 | .tmp t => pure (tmps.getD t undef)
 | .cell c t => do loadVar t (← asAddr (tmps.getD c undef))
theorem Rf (fn:Func) (tmps:Array Value):results fn tmps = (do let vs ← fn.results.mapM (vW tmps); pure (if h:vs.size = 1 then vs[0] else .tuple vs)):=by
 have:(fun | .tmp t => pure (tmps.getD t undef) | .cell c t => do loadVar t (← asAddr (tmps.getD c undef)):ResultVar → Sem Value) = vW tmps:=by
  funext x
  cases x <;> rfl
 rw [← this]
 rfl
theorem zK.run (hs:St P C σ m R B g a w) {r:ResultVar} {x:SV} (h:zK P σ m r x) :
  ∃ u,(vW a.tmps r).run P w = .ok u w ∧ RS P w R B g x u:=by
 cases r with
 | tmp t => exact ⟨a.tmps.getD t undef,rfl,hs.sl t _ h⟩
 | cell t T =>
  obtain ⟨n,e,cells,h1,h2,rfl,h3,h4,i,hi⟩:=h
  obtain ⟨_,b,k1,k2⟩:=hs.sl t _ h1
  have hro:=hs.ob n _ h2
  have hcell:=(EL hro k1 (j:=0) rfl).2
  obtain ⟨us,k3,k4,k5⟩:=zU (T:=fun u k => w.cell? ⟨b,k,none⟩ = some u) (Rl:=fun p u => RC P w R B g p u) cells 0 (fun k x hk => by
   obtain ⟨u,h5,h6⟩:=hcell k x hk
   rw [Nat.zero_mul] at h5
   exact ⟨u,h5,h6⟩)
  refine ⟨.agg us.toArray,?_,us,rfl,k3,k5⟩
  have hl:=run_loadCells_list (P:=P) w ⟨b,0,none⟩ us (fun j v hj => by rw [add_lit]; simpa using k4 j v hj)
  simp [vW,k2,asAddr,loadVar,EU h3,run_sizeOf hi,h4,← k3,hl]
theorem lT.run (hs:St P C σ m R B g a w):∀ {rs:List ResultVar} {xs:List SV},lT P σ m rs xs →
  ∃ us:List Value,(rs.mapM (vW a.tmps)).run P w = .ok us w ∧ us.length = xs.length ∧ ∀ (k:Nat) x,xs[k]? = some x → ∃ u,us[k]? = some u ∧ RS P w R B g x u
 | [],[],_ => ⟨[],rfl,rfl,fun k x hk => by simp at hk⟩
 | [],_ :: _,h => h.elim
 | _ :: _,[],h => h.elim
 | r :: rs,x :: xs,h => by
  obtain ⟨u,h1,h2⟩:=zK.run hs h.1
  obtain ⟨us,h3,h4,h5⟩:=lT.run hs h.2
  refine ⟨u :: us,?_,by simp [h4],fun k y hk => ?_⟩
  ·simp only [List.mapM_cons,Sem.run_bind]
   rw [h1]
   simp only [Result.andThen_ok,h3,Sem.run_pure]
  ·cases k with
   | zero => simp at hk; subst hk; exact ⟨u,rfl,h2⟩
   | succ k => exact h5 k y (by simpa using hk)
theorem lT.results (hs:St P C σ m R B g a w) {fn:Func} {xs:List SV} (h:lT P σ m fn.results.toList xs):∃ u,(results fn a.tmps).run P w = .ok u w ∧ RA P w R B g (jv xs) u:=by
 obtain ⟨us,h1,h2,h3⟩:=lT.run hs h
 have hm:(fn.results.mapM (vW a.tmps)).run P w = .ok us.toArray w:=by
  rw [Array.mapM_eq_mapM_toList]
  simp only [Sem.run_map,h1,Result.andThen_ok]
 rw [Rf]
 simp only [Sem.run_bind]
 rw [hm]
 simp only [Result.andThen_ok,Sem.run_pure]
 refine ⟨_,rfl,?_⟩
 cases xs with
 | nil =>
  have:us = []:=List.eq_nil_of_length_eq_zero (by simpa using h2)
  subst this
  exact ⟨[],by simp,rfl,fun k x hk => by simp at hk⟩
 | cons x xs =>
  cases xs with
  | nil =>
   obtain ⟨u,hu,hr⟩:=h3 0 x rfl
   match us,h2,hu with
   | [u'],_,hu =>
    simp at hu
    subst hu
    show RS P w R B g x _
    simpa using hr
  | cons y ys =>
   have hne:¬ us.toArray.size = 1:=by simp only [List.size_toArray,h2,List.length_cons]; omega
   rw [dif_neg hne]
   exact ⟨us,rfl,h2,h3⟩
end
def KU (m:Mem) (df:Mem):Prop:=∀ p ∈ df,lk m p.1 = some p.2
theorem iq.all {m:Mem}:∀ {df:Mem},iq m df → KU m df
 | [],_ => fun p hp => by cases hp
 | (n,o) :: r,h => fun p hp => by
  cases hp with
  | head => exact h.1
  | tail _ hp => exact iq.all h.2 p hp
def oV:Nat → List SV → Slots
 | _,[] => []
 | k,x :: xs => (k,.s x) :: oV (k + 1) xs
theorem IJ:∀ (xs:List SV) (k t:Nat) (v:AV),lk (oV k xs) t = some v → ∃ x,v = .s x ∧ k ≤ t ∧ xs[t - k]? = some x
 | [],_,_,_,h => by cases h
 | x :: xs,k,t,v,h => by
  change (bif Nat.beq k t then some (AV.s x) else lk (oV (k + 1) xs) t) = some v at h
  cases hb:Nat.beq k t with
  | true =>
   rw [hb,cond_true] at h
   injection h with h
   have:=Nat.eq_of_beq_eq_true hb
   subst this
   exact ⟨x,h.symm,Nat.le_refl _,by simp⟩
  | false =>
   rw [hb,cond_false] at h
   obtain ⟨y,h1,h2,h3⟩:=IJ xs (k + 1) t v h
   refine ⟨y,h1,by omega,?_⟩
   rw [show t - k = (t - (k + 1)) + 1 by omega,List.getElem?_cons_succ]
   exact h3
theorem Fn.Iy {P:Program} {f:FuncId} {fn:Func} {c:Code} {args:List SV} {us df:Mem} {pn X:List Nat} {N:Nat} {τ:Type} {M:Option τ} {rs:τ → List SV} {dL:τ → Mem} (hf:P.funcs[f]? = some fn) (hb:fn.body = some c) (hN:fn.ntmps = N)
  (hargs:args.length ≤ N) (hside:(bP (keys us) (pn ++ X) && gu X pn && bP pn (keys us)) = true)
  (h:∀ w0 U0 R0 g0,(∀ b,U0 b → ∃ n ∈ keys us,(g0 n).has b) → aA P ⟨w0,U0,R0,g0,N,pn⟩ [.code c] (oV 0 args) us M fun t e σ m => (e = .normal ∨ e = .ret) ∧ lT P σ m fn.results.toList (rs t) ∧ iq m (dL t) ∧ bP (keys us) (keys (dL t)) = true ∧ bP X (keys (dL t)) = true ∧ zJ (jv (rs t)) ∧ (∀ p ∈ dL t,dB p.2) ∧ okA (keys us ++ X) (jv (rs t)) = true ∧ (dL t).all (fun p => (keys us ++ X).elem p.1 && okO (keys us ++ X) p.2) = true) :
  ∀ t,M = some t → Fn P f args us (jv (rs t)) (dL t) (keys us) X:=by
 intro t ht R B g w vs hw hlen hvs hus
 simp only [Bool.and_eq_true] at hside
 obtain ⟨⟨hs1,hs2⟩,hs3⟩:=hside
 let U0:Nat → Prop:=fun b => ∃ n ∈ keys us,(g n).has b
 let C:Ctx:=⟨w,U0,R,g,N,pn⟩
 have UQ:vs.length ≤ N:=by rw [hlen]; exact hargs
 refine calls_of_wp hf hb ?_
 have hSt:St P C (oV 0 args) us R B g { tmps:=vs.toArray ++ Array.replicate (fn.ntmps - vs.toArray.size) undef,defers:=[] } w:=by
  refine ⟨hw,rfl,by simp [C,hN]; omega,fun t v hl => ?_,fun n o hl => ?_,fun n o b hl hg => ?_,fun b hb => .inl hb,fun _ h => h,rfl,rfl,rfl,Nat.le_refl _,fun _ _ _ => rfl,fun _ _ => rfl,fun _ _ _ cur e _ hh => ⟨cur,hh,rfl⟩⟩
  ·obtain ⟨x,rfl,_,h3⟩:=IJ args 0 t v hl
   obtain ⟨u,hu,hr⟩:=hvs _ x h3
   have hlt:t < vs.length:=by rw [hlen]; exact (List.getElem?_eq_some_iff.1 h3).1
   have:(vs.toArray ++ Array.replicate (fn.ntmps - vs.toArray.size) undef).getD t undef = u:=by
    rw [Array.getD_eq_getD_getElem?,Array.getElem?_append_left (by simpa using hlt)]
    simp only [Nat.sub_zero] at hu
    simp [hu]
   rw [this]
   exact hr
  ·have hm:∀ (us:Mem),(∀ p ∈ us,RO P w R B g p.1 p.2) → lk us n = some o → RO P w R B g n o:=by
    intro us
    induction us with
    | nil => intro _ h; cases h
    | cons q r ih =>
     intro hq h
     obtain ⟨k,v⟩:=q
     change (bif Nat.beq k n then some v else lk r n) = some o at h
     cases hb:Nat.beq k n with
     | true =>
      rw [hb,cond_true] at h
      injection h with h
      have:=Nat.eq_of_beq_eq_true hb
      subst this
      subst h
      exact hq (k,v) List.mem_cons_self
     | false =>
      rw [hb,cond_false] at h
      exact ih (fun p hp => hq p (List.mem_cons_of_mem _ hp)) h
   exact hm us hus hl
  ·right
   have hm:∀ (us:Mem),lk us n = some o → n ∈ keys us:=by
    intro us
    induction us with
    | nil => intro h; cases h
    | cons q r ih =>
     intro h
     obtain ⟨k,v⟩:=q
     change (bif Nat.beq k n then some v else lk r n) = some o at h
     cases hb:Nat.beq k n with
     | true => have:=Nat.eq_of_beq_eq_true hb; subst this; exact List.mem_cons_self
     | false =>
      rw [hb,cond_false] at h
      exact List.mem_cons_of_mem _ (ih h)
   exact ⟨n,hm us hl,hg⟩
 refine wp_mono (h w U0 R g (fun b hb => hb) t ht R B g _ w hSt) fun e a' w' hp => ?_
 obtain ⟨σ',m',R',B',g',hs',he,PD,hdf,hk1,hk2,hpa,hpo,hoa,Ot⟩:=hp
 obtain ⟨u,hu1,hu2⟩:=lT.results hs' PD
 have G6:=hdf.all
 -- the names that come out
 let Z:Nat → Prop:=fun n => n ∈ keys us ∨ n ∈ X
 have Nz:∀ n,Z n → n ∈ keys (dL t):=fun n hn => hn.elim (lu hk1 n) (lu hk2 n)
 classical
 let g2:Nat → GS:=fun n => if Z n then g' n else g n
 have o7:∀ n,Z n → g2 n = g' n:=fun n hn => if_pos hn
 have rQ:∀ n,¬ Z n → g2 n = g n:=fun n hn => if_neg hn
 have CY:∀ n,Z n → ∀ b,(g' n).has b → w.heap.size ≤ b ∨ ∃ k ∈ keys us,(g k).has b:=fun n hn b hb => by
  obtain ⟨o,ho⟩:=mem_keys (Nz n hn)
  exact hs'.ow n o b (G6 (n,o) ho) hb
 have tq:∀ b,R' b → R b ∨ w.heap.size ≤ b:=hs'.perm
 have hRR:∀ b,R b → R' b:=hs'.r0
 have Nr:∀ b,R' b → b < w'.heap.size:=fun b hb => hs'.wf.lt b (hs'.wf.rb b hb)
 have hwf:WF R' (fun b => B b ∨ R' b) g2 w':=by
  refine ⟨fun b hb => .inr hb,fun b hb => hb.elim (fun hb => Nat.lt_of_lt_of_le (hw.lt b hb) hs'.size) (Nr b),fun n b hg => ?_,fun n k b hn hk => ?_,fun n j k b hj hk => ?_⟩
  ·by_cases hn:Z n
   ·rw [o7 n hn] at hg
    have h1:=hs'.wf.eP n b hg
    refine ⟨fun hB => ?_,h1.2⟩
    rcases hB with hB | hB
    ·rcases CY n hn b hg with h2 | ⟨k,_,h2⟩
     ·exact absurd (hw.lt b hB) (by omega)
     ·exact (hw.eP k b h2).1 hB
    ·exact h1.1 (hs'.wf.rb b hB)
   ·rw [rQ n hn] at hg
    have h1:=hw.eP n b hg
    refine ⟨fun hB => ?_,Nat.lt_of_lt_of_le h1.2 hs'.size⟩
    rcases hB with hB | hB
    ·exact h1.1 hB
    ·rcases tq b hB with h2 | h2
     ·exact h1.1 (hw.rb b h2)
     ·exact absurd h1.2 (by omega)
  ·have cross:∀ n k b,Z n → ¬ Z k → (g' n).has b → (g k).has b → False:=fun n k b hn hk h1 h2 => by
    rcases CY n hn b h1 with h3 | ⟨j,hj,h3⟩
    ·exact absurd (hw.eP k b h2).2 (by omega)
    ·exact hk (.inl (hw.fC j k b h3 h2 ▸ hj))
   by_cases oC:Z n <;> by_cases tu:Z k
   ·rw [o7 n oC] at hn
    rw [o7 k tu] at hk
    exact hs'.wf.fC n k b hn hk
   ·rw [o7 n oC] at hn
    rw [rQ k tu] at hk
    exact (cross n k b oC tu hn hk).elim
   ·rw [rQ n oC] at hn
    rw [o7 k tu] at hk
    exact (cross k n b tu oC hk hn).elim
   ·rw [rQ n oC] at hn
    rw [rQ k tu] at hk
    exact hw.fC n k b hn hk
  ·by_cases hn:Z n
   ·rw [o7 n hn] at hj hk
    exact hs'.wf.nd n j k b hj hk
   ·rw [rQ n hn] at hj hk
    exact hw.nd n j k b hj hk
 have hpn:∀ n ∈ pn,n ∈ keys us:=lu hs3
 have wY:dK R B g w (keys us) X R' (fun b => B b ∨ R' b) g2 w':=by
  refine ⟨hwf,hRR,fun b hb => .inl hb,hs'.os,hs'.tape,hs'.output,hs'.size,fun b hb iD => hs'.heap b hb fun hU => ?_,fun n hn => ?_,fun n hn b hb => ?_,fun n iD lI b cur e' hg hh => ?_⟩
  ·obtain ⟨n,hn,hg⟩:=hU
   exact iD n hn hg
  ·by_cases oC:Z n
   ·rw [o7 n oC]
    have hnu:n ∈ keys us:=oC.resolve_right hn
    exact hs'.pin n ((List.mem_append.1 (lu hs1 n hnu)).resolve_right hn)
   ·exact rQ n oC
  ·rw [o7 n (.inr hn)] at hb
   exact CY n (.inr hn) b hb
  ·have hnp:n ∈ pn:=(List.mem_append.1 (lu hs1 n iD)).resolve_right lI
   exact hs'.Jk n hnp b cur e' hg hh
 have hgz:∀ n ∈ keys us ++ X,g2 n = g' n:=fun n hn => o7 n (List.mem_append.1 hn)
 have hres:bodyPost P fn (fun e w' => ∃ u R' B' g',e = .returned u ∧ dK R B g w (keys us) X R' B' g' w' ∧ (∀ b,R' b → R b ∨ w.heap.size ≤ b) ∧ RA P w' R' R' g' (jv (rs t)) u ∧ ∀ p ∈ dL t,RO P w' R' R' g' p.1 p.2) .ret a' w':=by
  refine ⟨hs'.nd,u,hu1,u,R',_,g2,rfl,wY,tq,?_,?_⟩
  ·exact (hu2.perm hpa).ok hoa hgz
  ·intro p hp
   have hz:=List.all_eq_true.1 Ot p hp
   simp only [Bool.and_eq_true] at hz
   exact ((hs'.ob p.1 p.2 (G6 p hp)).perm (hpo p hp)).ok (List.mem_of_elem_eq_true hz.1) hz.2 hgz
 rcases he with rfl | rfl
 ·exact hres
 ·exact hres
inductive QW:PV → PV → Prop
 | sc {v:Value}:QW (.sc v) (.sc v)
 | xs {q q':Bool} {els els':List (List PV)} (hq:q' = true → q = true) (hl:els'.length = els.length) (hc:∀ (j:Nat) cs cs',els[j]? = some cs → els'[j]? = some cs' → cs'.length = cs.length) (h:∀ (j k:Nat) cs cs' p p',els[j]? = some cs → els'[j]? = some cs' → cs[k]? = some p → cs'[k]? = some p' → QW p p'):QW (.xs q els) (.xs q' els')
theorem RF {R B:Nat → Prop} {q q':Bool} {b:Nat} (tq:∀ b,R b → B b) (hq:q' = true → q = true) (h:sG R B q b):sG R B q' b:=by
 cases q' with
 | true => rw [hq rfl] at h; exact h
 | false =>
  cases q with
  | true => exact tq b h
  | false => exact h
theorem eH.UI {w:World} {R B:Nat → Prop} (tq:∀ b,R b → B b) {p:PV} {v:Value} (h:eH w R B p v):∀ {p':PV},QW p p' → eH w R B p' v:=by
 induction h with
 | sc h => intro p' hq; cases hq; exact .sc h
 | emp =>
  intro p' hq
  cases hq with
  | xs hq hl hc h =>
   have:=List.eq_nil_of_length_eq_zero hl
   subst this
   exact .emp
 | @xs q els a c s n val hn hb hc hs hv hr ih =>
  intro p' hq
  cases hq with
  | @xs _ q' _ els' hqq hl hcc hh =>
   refine .xs (s:=s) val (hn.trans hl.symm) (RF tq hqq hb) (by omega) (fun cs' hcs' => ?_) (fun j k cs' p' hj hk => ?_) (fun j k cs' p' hj hk => ?_)
   ·obtain ⟨j,hj,rfl⟩:=List.mem_iff_getElem.1 hcs'
    have h1:els[j]? = some (els[j]'(by omega)):=List.getElem?_eq_getElem (by omega)
    rw [hcc j _ _ h1 (List.getElem?_eq_getElem hj)]
    exact hs _ (List.mem_of_getElem? h1)
   ·have hjl:=(List.getElem?_eq_some_iff.1 hj).1
    have h1:els[j]? = some (els[j]'(by omega)):=List.getElem?_eq_getElem (by omega)
    have hkl:=(List.getElem?_eq_some_iff.1 hk).1
    have h2:=hcc j _ _ h1 hj
    have h3:(els[j]'(by omega))[k]? = some ((els[j]'(by omega))[k]'(by omega)):=List.getElem?_eq_getElem (by omega)
    exact hv _ _ _ _ h1 h3
   ·have hjl:=(List.getElem?_eq_some_iff.1 hj).1
    have h1:els[j]? = some (els[j]'(by omega)):=List.getElem?_eq_getElem (by omega)
    have hkl:=(List.getElem?_eq_some_iff.1 hk).1
    have h2:=hcc j _ _ h1 hj
    have h3:(els[j]'(by omega))[k]? = some ((els[j]'(by omega))[k]'(by omega)):=List.getElem?_eq_getElem (by omega)
    exact ih _ _ _ _ h1 h3 (hh _ _ _ _ _ _ h1 hj h3 hk)
inductive gW (sh:Mem):CV → CV → Prop
 | same {x:CV} (h:aZ (keys sh) x = x):gW sh x x
 | weak {x:CV} {p p':PV} (h:gW sh x (.pv p)) (hq:QW p p'):gW sh x (.pv p')
 | loc {n:Nat} {e:TypeId} {els:List (List PV)} (h:lk sh n = some (.bZ e els)):gW sh (.loc n 0 els.length) (.pv (.xs false els))
 | nil {q:Bool}:gW sh (.pv (.sc (.slice none 0 0))) (.pv (.xs q []))
 | fM {n p:Nat} {e e2:TypeId} {rows:List (List (List PV))} {lens:List Nat} (h1:lk sh n = some (.fM e p lens)) (h2:lk sh p = some (.pool e2 rows)) (hl:lens = rows.map List.length):gW sh (.loc n 0 lens.length) (.pv (.xs false (rows.map fun r => [.xs false r])))
 | tl {p k:Nat} {e2:TypeId} {rows:List (List (List PV))} {r:List (List PV)} (h2:lk sh p = some (.pool e2 rows)) (hk:rows[k]? = some r):gW sh (.tl p k 0 r.length) (.pv (.xs false r))
 | Gu {n p q:Nat} {e:TypeId} {fs:List (Int × Nat × Nat)} {els:List (List PV)} (h1:lk sh n = some (.ax e p q fs)) (hl:els.length = (dU p q fs).length) (hc:∀ (j:Nat) cs ps,(dU p q fs)[j]? = some cs → els[j]? = some ps → ps.length = cs.length)
  (hh:∀ (j:Nat) cs ps (k:Nat) c p',(dU p q fs)[j]? = some cs → els[j]? = some ps → cs[k]? = some c → ps[k]? = some p' → gW sh c (.pv p')):gW sh (.loc n 0 els.length) (.pv (.xs false els))
inductive tK (sh:Mem):List CV → List CV → Prop
 | nil:tK sh [] []
 | cons {x y:CV} {xs ys:List CV} (h:gW sh x y) (t:tK sh xs ys):tK sh (x :: xs) (y :: ys)
inductive tN (sh:Mem):SV → SV → Prop
 | c {x y:CV} (h:gW sh x y):tN sh (.c x) (.c y)
 | agg {xs ys:List CV} (h:tK sh xs ys):tN sh (.agg xs) (.agg ys)
inductive jZ (sh:Mem):List SV → List SV → Prop
 | nil:jZ sh [] []
 | cons {x y:SV} {xs ys:List SV} (h:tN sh x y) (t:jZ sh xs ys):jZ sh (x :: xs) (y :: ys)
section
variable {P:Program} {w:World} {R B:Nat → Prop} {g:Nat → GS}
def uK (sh:Mem) (B:Nat → Prop) (g:Nat → GS):Nat → Prop:=fun b => B b ∨ ∃ n ∈ keys sh,(g n).has b
def oG (sh:Mem) (g:Nat → GS):Nat → GS:=fun n => if n ∈ keys sh then .dead else g n
theorem uM {sh:Mem} {n:Nat} (h:n ∈ keys sh):oG sh g n = .dead:=by unfold oG; exact if_pos h
theorem oH {sh:Mem} {n:Nat} (h:n ∉ keys sh):oG sh g n = g n:=by unfold oG; exact if_neg h
theorem Dy (hw:WF R B g w) (sh:Mem):WF R (uK sh B g) (oG sh g) w:=by
 refine ⟨fun b hb => .inl (hw.rb b hb),fun b hb => hb.elim (hw.lt b) fun ⟨n,_,hg⟩ => (hw.eP n b hg).2,fun n b hg => ?_,fun n k b hn hk => ?_,fun n j k b hj hk => ?_⟩
 ·by_cases hn:n ∈ keys sh
  ·rw [uM hn] at hg; exact hg.elim
  ·rw [oH hn] at hg
   refine ⟨fun hB => ?_,(hw.eP n b hg).2⟩
   rcases hB with hB | ⟨k,hk,hg'⟩
   ·exact (hw.eP n b hg).1 hB
   ·exact hn (hw.fC k n b hg' hg ▸ hk)
 ·by_cases hn1:n ∈ keys sh
  ·rw [uM hn1] at hn; exact hn.elim
  ·by_cases hk1:k ∈ keys sh
   ·rw [uM hk1] at hk; exact hk.elim
   ·rw [oH hn1] at hn
    rw [oH hk1] at hk
    exact hw.fC n k b hn hk
 ·by_cases hn:n ∈ keys sh
  ·rw [uM hn] at hj; cases hj
  ·rw [oH hn] at hj hk
   exact hw.nd n j k b hj hk
theorem IE (hw:WF R B g w) (sh:Mem):dK R B g w [] (keys sh) R (uK sh B g) (oG sh g) w :=
 ⟨Dy hw sh,fun _ h => h,fun _ h => .inl h,rfl,rfl,rfl,Nat.le_refl _,fun _ _ _ => rfl,fun n hn => oH hn,fun n hn b hb => (by rw [uM hn] at hb; exact hb.elim),fun n hn => (by cases hn)⟩
theorem pJ {α:Type}:∀ {l:List (Nat × α)} {n:Nat} {o:α},lk l n = some o → (n,o) ∈ l
 | [],_,_,h => by cases h
 | (k,v) :: r,n,o,h => by
  change (bif Nat.beq k n then some v else lk r n) = some o at h
  cases hb:Nat.beq k n with
  | true =>
   rw [hb,cond_true] at h
   injection h with h
   have:=Nat.eq_of_beq_eq_true hb
   subst this
   subst h
   exact List.mem_cons_self
  | false =>
   rw [hb,cond_false] at h
   exact List.mem_cons_of_mem _ (pJ h)
theorem kM.JX {B2:Nat → Prop} (hb:∀ b,B b → B2 b) {p k:Nat} {e:TypeId} {els:List (List PV)} {v:Value} (hx:RC P w R B g (.tl p k 0 els.length) v) (hr:kM P w R B ((g p).at k) e els) (hB:∀ b,(g p).has b → B2 b):eH w R B2 (.xs false els) v:=by
 rcases hx.2 with ⟨h1,_,h3,h4⟩ | ⟨_,h2,_⟩ | ⟨b,cap,cur,e',k1,k2,k3,k4,k5,k6⟩
 ·have:els = []:=List.eq_nil_of_length_eq_zero h3
  subst this
  subst h4
  exact .emp
 ·exact absurd rfl h2
 ·rcases hr with ⟨h1,_⟩ | ⟨b',cur',h1,h2,h3,h4,h5⟩
  ·rw [k1] at h1; cases h1
  ·rw [k1] at h1
   injection h1 with h1
   subst h1
   rw [k2] at h2
   injection h2 with h2
   injection h2 with h2 h6 h7
   subst h2
   subst h6
   subst k6
   refine .xs (s:=aW P e') (fun j i => cur.getD (j * aW P e' + i) undef) rfl (hB b (GS.kS k1)) k3 h3 (fun j i cs q hj hi => ?_) (fun j i cs q hj hi => ?_)
   ·obtain ⟨u,hu,_⟩:=h5 j i cs q hj hi
    rw [Nat.zero_mul,add_lit,Nat.zero_add,sJ k2,hu]
    simp [Array.getD_eq_getD_getElem?,hu]
   ·obtain ⟨u,hu,hr⟩:=h5 j i cs q hj hi
    have:cur.getD (j * aW P e' + i) undef = u:=by simp [Array.getD_eq_getD_getElem?,hu]
    rw [this]
    exact eH.more hb hr
theorem gW.rc {sh:Mem} (hw:WF R B g w) (hsh:∀ p ∈ sh,RO P w R B g p.1 p.2) {x y:CV} {v:Value} (h:gW sh x y) (hx:RC P w R B g x v):RC P w R (uK sh B g) (oG sh g) y v:=by
 induction h generalizing v with
 | weak h hq ih => exact ⟨(ih hx).1,eH.UI (Dy hw sh).rb (ih hx).2 hq⟩
 | same h =>
  have:=(IE hw sh).rc hw hx
  rwa [h] at this
 | nil =>
  obtain ⟨_,h2⟩:=hx
  cases h2
  exact ⟨rfl,.emp⟩
 | @loc n e els h =>
  have hm:=pJ h
  have hro:bJ P w R B g n e (bf els):=hsh (n,.bZ e els) hm
  have hnk:n ∈ keys sh:=List.mem_map.2 ⟨_,hm,rfl⟩
  refine ⟨hx.1,?_⟩
  rcases hx.2 with ⟨h1,_,h3,h4⟩ | ⟨_,h2,_⟩ | ⟨b,cap,cur,e',k1,k2,k3,k4,k5,k6⟩
  ·have:els = []:=List.eq_nil_of_length_eq_zero h3
   subst this
   subst h4
   exact .emp
  ·exact absurd rfl h2
  ·rcases hro with ⟨h1,_⟩ | ⟨b',cur',h1,h2,h3,h4,h5⟩
   ·rw [k1] at h1; cases h1
   ·rw [k1] at h1
    injection h1 with h1
    subst h1
    rw [k2] at h2
    injection h2 with h2
    injection h2 with h2 h6 h7
    subst h2
    subst h6
    subst k6
    have hval:∀ j k cs p,els[j]? = some cs → cs[k]? = some p → ∃ u,cur[j * aW P e' + k]? = some u ∧ RC P w R B g (.pv p) u:=fun j k cs p hj hk => by
     have:=h5 j k (cs.map .pv) (.pv p) (by simp [bf,hj]) (by simp [hk])
     exact this
    refine .xs (s:=aW P e') (fun j k => cur.getD (j * aW P e' + k) undef) rfl (.inr ⟨n,hnk,GS.lX k1⟩) k3 (fun cs hcs => ?_) (fun j k cs p hj hk => ?_) (fun j k cs p hj hk => ?_)
    ·have:=h3 (cs.map .pv) (List.mem_map.2 ⟨cs,hcs,rfl⟩)
     simpa using this
    ·obtain ⟨u,hu,_⟩:=hval j k cs p hj hk
     rw [Nat.zero_mul,add_lit,Nat.zero_add,sJ k2,hu]
     simp [Array.getD_eq_getD_getElem?,hu]
    ·obtain ⟨u,hu,hr⟩:=hval j k cs p hj hk
     have:cur.getD (j * aW P e' + k) undef = u:=by simp [Array.getD_eq_getD_getElem?,hu]
     rw [this]
     exact eH.more (fun _ h => .inl h) hr.2
 | @Gu n p q e fs els h1 hl hc hh ih =>
  have hm:=pJ h1
  have hro:bJ P w R B g n e (dU p q fs):=hsh (n,.ax e p q fs) hm
  have hnk:n ∈ keys sh:=List.mem_map.2 ⟨_,hm,rfl⟩
  refine ⟨hx.1,?_⟩
  rcases hx.2 with ⟨h1,_,h3,h4⟩ | ⟨_,h2,_⟩ | ⟨b,cap,cur,e',k1,k2,k3,k4,k5,k6⟩
  ·have:els = []:=List.eq_nil_of_length_eq_zero h3
   subst this
   subst h4
   exact .emp
  ·exact absurd rfl h2
  ·rcases hro with ⟨h1,_⟩ | ⟨b',cur',h1,h2,h3,h4,h5⟩
   ·rw [k1] at h1; cases h1
   ·rw [k1] at h1
    injection h1 with h1
    subst h1
    rw [k2] at h2
    injection h2 with h2
    injection h2 with h2 h6 h7
    subst h2
    subst h6
    subst k6
    have hcell:∀ (j:Nat) ps,els[j]? = some ps → ∃ cs,(dU p q fs)[j]? = some cs:=fun j ps hj => by
     have hjl:=(List.getElem?_eq_some_iff.1 hj).1
     exact ⟨_,List.getElem?_eq_getElem (by omega)⟩
    have hval:∀ (j k:Nat) ps p,els[j]? = some ps → ps[k]? = some p → ∃ u,cur[j * aW P e' + k]? = some u ∧ eH w R (uK sh B g) p u:=fun j k ps p hj hk => by
     obtain ⟨cs,hcs⟩:=hcell j ps hj
     have hln:=hc j cs ps hcs hj
     have hkl:=(List.getElem?_eq_some_iff.1 hk).1
     have hck:cs[k]? = some (cs[k]'(by omega)):=List.getElem?_eq_getElem (by omega)
     obtain ⟨u,hu,hr⟩:=h5 j k cs _ hcs hck
     exact ⟨u,hu,(ih j cs ps k _ p hcs hj hck hk hr).2⟩
    refine .xs (s:=aW P e') (fun j k => cur.getD (j * aW P e' + k) undef) rfl (.inr ⟨n,hnk,GS.lX k1⟩) k3 (fun ps hps => ?_) (fun j k cs p hj hk => ?_) (fun j k cs p hj hk => ?_)
    ·obtain ⟨j,hj⟩:=List.mem_iff_getElem?.1 hps
     obtain ⟨cs,hcs⟩:=hcell j ps hj
     rw [hc j cs ps hcs hj]
     exact h3 cs (List.mem_of_getElem? hcs)
    ·obtain ⟨u,hu,_⟩:=hval j k cs p hj hk
     rw [Nat.zero_mul,add_lit,Nat.zero_add,sJ k2,hu]
     simp [Array.getD_eq_getD_getElem?,hu]
    ·obtain ⟨u,hu,hr⟩:=hval j k cs p hj hk
     have:cur.getD (j * aW P e' + k) undef = u:=by simp [Array.getD_eq_getD_getElem?,hu]
     rw [this]
     exact hr
 | @tl p k e2 rows r h2 hk =>
  have hm:=pJ h2
  obtain ⟨_,hrows⟩:=hsh (p,.pool e2 rows) hm
  exact ⟨hx.1,kM.JX (fun _ h => .inl h) hx (hrows k r hk) fun b hb => .inr ⟨p,List.mem_map.2 ⟨_,hm,rfl⟩,hb⟩⟩
 | @fM n p e e2 rows lens h1 h2 hl =>
  have hm1:=pJ h1
  have hm2:=pJ h2
  have hro:bJ P w R B g n e (jK p lens):=hsh (n,.fM e p lens) hm1
  obtain ⟨_,hrows⟩:=hsh (p,.pool e2 rows) hm2
  have hnk:n ∈ keys sh:=List.mem_map.2 ⟨_,hm1,rfl⟩
  have hpk:p ∈ keys sh:=List.mem_map.2 ⟨_,hm2,rfl⟩
  refine ⟨hx.1,?_⟩
  rcases hx.2 with ⟨h1,_,h3,h4⟩ | ⟨_,h2,_⟩ | ⟨b,cap,cur,e',k1,k2,k3,k4,k5,k6⟩
  ·have:rows = []:=List.eq_nil_of_length_eq_zero (by rw [hl] at h3; simpa using h3)
   subst this
   subst h4
   exact .emp
  ·exact absurd rfl h2
  ·rcases hro with ⟨h1,_⟩ | ⟨b',cur',h1,h2,h3,h4,h5⟩
   ·rw [k1] at h1; cases h1
   ·rw [k1] at h1
    injection h1 with h1
    subst h1
    rw [k2] at h2
    injection h2 with h2
    injection h2 with h2 h6 h7
    subst h2
    subst h6
    subst k6
    have hcell:∀ j r,rows[j]? = some r → (jK p lens)[j]? = some [CV.tl p j 0 r.length]:=fun j r hj => by
     unfold jK
     rw [List.getElem?_mapIdx,hl,List.getElem?_map,hj]
     rfl
    have hval:∀ j r,rows[j]? = some r → ∃ u,cur[j * aW P e' + 0]? = some u ∧ RC P w R B g (.tl p j 0 r.length) u:=fun j r hj => h5 j 0 _ _ (hcell j r hj) rfl
    have hone:∀ (j i:Nat) cs q,(rows.map fun r => [PV.xs false r])[j]? = some cs → cs[i]? = some q → ∃ r,rows[j]? = some r ∧ i = 0 ∧ q = .xs false r:=fun j i cs q hj hi => by
     rw [List.getElem?_map] at hj
     cases hr:rows[j]? with
     | none => rw [hr] at hj; cases hj
     | some r =>
      rw [hr] at hj
      injection hj with hj
      subst hj
      cases i with
      | zero => simp at hi; exact ⟨r,rfl,rfl,hi.symm⟩
      | succ i => simp at hi
    refine .xs (s:=aW P e') (fun j i => cur.getD (j * aW P e' + i) undef) (by rw [hl]; simp) (.inr ⟨n,hnk,GS.lX k1⟩) (by rw [hl] at k3; simpa using k3) (fun cs hcs => ?_) (fun j i cs q hj hi => ?_) (fun j i cs q hj hi => ?_)
    ·obtain ⟨j,hj⟩:=List.mem_iff_getElem?.1 hcs
     rw [List.getElem?_map] at hj
     cases hr:rows[j]? with
     | none => rw [hr] at hj; cases hj
     | some r =>
      rw [hr] at hj
      injection hj with hj
      subst hj
      exact h3 _ (List.mem_of_getElem? (hcell j r hr))
    ·obtain ⟨r,hr,rfl,rfl⟩:=hone j i cs q hj hi
     obtain ⟨u,hu,_⟩:=hval j r hr
     have hu':cur[j * aW P e']? = some u:=hu
     rw [Nat.zero_mul,add_lit,Nat.zero_add,sJ k2,hu]
     simp [Array.getD_eq_getD_getElem?,hu']
    ·obtain ⟨r,hr,rfl,rfl⟩:=hone j i cs q hj hi
     obtain ⟨u,hu,rV⟩:=hval j r hr
     have hu':cur[j * aW P e']? = some u:=hu
     have:cur.getD (j * aW P e' + 0) undef = u:=by simp [Array.getD_eq_getD_getElem?,hu']
     rw [this]
     exact kM.JX (fun _ h => .inl h) rV (hrows j r hr) fun b hb => .inr ⟨p,hpk,hb⟩
theorem tK.get {sh:Mem} {xs ys:List CV} (h:tK sh xs ys):xs.length = ys.length ∧ ∀ (k:Nat) y,ys[k]? = some y → ∃ x,xs[k]? = some x ∧ gW sh x y:=by
 induction h with
 | nil => exact ⟨rfl,fun k y h => by simp at h⟩
 | cons h _ ih =>
  refine ⟨by simp [ih.1],fun k y hk => ?_⟩
  cases k with
  | zero => simp at hk; subst hk; exact ⟨_,rfl,h⟩
  | succ k => exact ih.2 k y (by simpa using hk)
theorem tN.rs {sh:Mem} (hw:WF R B g w) (hsh:∀ p ∈ sh,RO P w R B g p.1 p.2) {x y:SV} {v:Value} (h:tN sh x y) (hx:RS P w R B g x v):RS P w R (uK sh B g) (oG sh g) y v:=by
 cases h with
 | c h => exact gW.rc hw hsh h hx
 | agg h =>
  obtain ⟨h1,h2⟩:=h.get
  obtain ⟨vs,h3,h4,h5⟩:=hx
  refine ⟨vs,h3,h4.trans h1,fun k y hk => ?_⟩
  obtain ⟨x,h6,h7⟩:=h2 k y hk
  obtain ⟨u,h8,h9⟩:=h5 k x h6
  exact ⟨u,h8,h7.rc hw hsh h9⟩
theorem jZ.get {sh:Mem} {xs ys:List SV} (h:jZ sh xs ys):xs.length = ys.length ∧ ∀ (k:Nat) y,ys[k]? = some y → ∃ x,xs[k]? = some x ∧ tN sh x y:=by
 induction h with
 | nil => exact ⟨rfl,fun k y h => by simp at h⟩
 | cons h _ ih =>
  refine ⟨by simp [ih.1],fun k y hk => ?_⟩
  cases k with
  | zero => simp at hk; subst hk; exact ⟨_,rfl,h⟩
  | succ k => exact ih.2 k y (by simpa using hk)
end
def cZ (P:Program) (f:FuncId):Bool:=match P.funcs[f]? with
 | some fn => !(fn.name == "runtime.NumGoroutine") && fn.body.isSome
 | none => false
theorem JZ {P:Program} {f:FuncId} (h:cZ P f = true) (args:Array Value) (w:World):(callFunc f args).run P w = .ok (.enter f args) w:=by
 unfold cZ at h
 split at h
 ·rename_i fn hf
  simp only [Bool.and_eq_true,Bool.not_eq_true'] at h
  have hn:fn.name ≠ "runtime.NumGoroutine" := by simpa using h.1
  have hb:fn.body ≠ none:=by cases hbody:fn.body <;> simp_all
  simp [callFunc,hf,hn,hb]
 ·cases h
def qB (ops:List Operand) (xs:List SV):List (Operand × AV):=(ops.zip xs).map fun q => (q.1,.s q.2)
def vU (n:Nat):SV:=.c (.pl n 0)
theorem LT.call {P:Program} {o:Oper} {cf:Operand} {f:FuncId} {ops:Array Operand} {ts:Array TypeId} {caps:List Nat} {xs ys:List SV} {us sh df:Mem} {v:AV} {W X:List Nat} (hf:Fn P f (ys ++ caps.map vU) us v df W X)
  (ho:o.op = .call { callee:=.value cf,args:=ops,argTypes:=ts }) (hb:cZ P f = true) (hlen:ops.size = xs.length) (hsh:jZ sh xs ys)
  (hside:(gu (keys sh) (W ++ X ++ keys us ++ keys df ++ caps) && bP W (keys us)) = true) (hus:∀ p ∈ us,fQ (keys sh) p.2 = p.2):LT P o ((cf,Cc (.fn f caps)) :: qB ops.toList xs) (us ++ sh) v df W X:=by
 intro R B g w a hw hin hu K Q hK
 simp only [Bool.and_eq_true] at hside
 obtain ⟨hdis,UN⟩:=hside
 have hd:=zV hdis
 have PE:∀ p ∈ sh,RO P w R B g p.1 p.2:=fun p hp => hu p (List.mem_append_right _ hp)
 have N7:=IE hw sh
 obtain ⟨_,cv,hcf,hcl,OX⟩:=in1 hin
 obtain ⟨hl1,hget⟩:=hsh.get
 have hvl:(ops.toList.map a.eval).length = ys.length:=by rw [List.length_map,Array.length_toList,hlen,hl1]
 have hcall:=hf R (uK sh B g) (oG sh g) w (ops.toList.map a.eval ++ cv) (Dy hw sh) (by rw [List.length_append,List.length_append,hvl,hcl,List.length_map]) (fun k y hk => by
  rw [List.getElem?_append] at hk ⊢
  rw [hvl]
  split at hk
  ·rename_i hlt
   rw [if_pos hlt]
   obtain ⟨x,hx,hs⟩:=hget k y hk
   have hkl:k < ops.toList.length:=by rw [Array.length_toList,hlen,hl1]; exact hlt
   refine ⟨a.eval ops.toList[k],by rw [List.getElem?_map,List.getElem?_eq_getElem hkl]; rfl,?_⟩
   refine hs.rs hw PE ?_
   have hm:(ops.toList[k],AV.s x) ∈ qB ops.toList xs:=by
    refine List.mem_map.2 ⟨(ops.toList[k],x),?_,rfl⟩
    refine List.mem_of_getElem? (i:=k) ?_
    rw [List.getElem?_zip_eq_some]
    exact ⟨List.getElem?_eq_getElem hkl,hx⟩
   exact hin _ (List.mem_cons_of_mem _ hm)
  ·rename_i hlt
   rw [if_neg hlt]
   rw [List.getElem?_map] at hk
   cases hc:caps[k - ys.length]? with
   | none => rw [hc] at hk; cases hk
   | some n =>
    rw [hc] at hk
    injection hk with hk
    subst hk
    obtain ⟨b,h1,h2⟩:=OX _ n hc
    have hn:n ∉ keys sh:=fun hm => hd n hm (List.mem_append_right _ (List.mem_of_getElem? hc))
    exact ⟨_,h2,rfl,b,(oH hn).trans h1,rfl⟩)
  (fun p hp => by
   have hn:p.1 ∉ keys sh:=fun hm => hd p.1 hm (List.mem_append_left _ (List.mem_append_left _ (List.mem_append_right _ (List.mem_map.2 ⟨p,hp,rfl⟩))))
   have:=N7.ro hw hn (by simp) (hu p (List.mem_append_left _ hp))
   rwa [hus p hp] at this)
 have hrun:(execOp a.eval o).run P w = .ok (.enter f (ops.toList.map a.eval ++ cv).toArray) w:=by
  have e1:(ops.map a.eval ++ cv.toArray) = (ops.toList.map a.eval ++ cv).toArray:=by
   apply Array.ext'
   simp
  simp only [execOp,ho,resolve,hcf,Deferred.ofValue,Sem.run_bind,Sem.run_pure,Result.andThen_ok,invoke]
  first
   | (simp only [Array.empty_append,JZ hb,e1]; done)
   | (simp only [Array.empty_append]; rw [← e1]; exact JZ hb _ w)
 unfold Oper.wp
 rw [hrun]
 rw [Oper.upon_enter]
 refine hcall.mono fun e w' hp => ?_
 obtain ⟨u,R',B',g',rfl,had,hR,hv,hdf⟩:=hp
 -- back in the caller: what was lent is its own again
 have He:∀ n ∈ keys sh,n ∉ X:=fun n hn hx => hd n hn (List.mem_append_left _ (List.mem_append_left _ (List.mem_append_left _ (List.mem_append_right _ hx))))
 have HY:∀ n ∈ keys sh,n ∉ W:=fun n hn hx => hd n hn (List.mem_append_left _ (List.mem_append_left _ (List.mem_append_left _ (List.mem_append_left _ hx))))
 have Oh:∀ n ∈ keys sh,g' n = .dead:=fun n hn => (had.names n (He n hn)).trans (uM hn)
 classical
 let g2:Nat → GS:=fun n => if n ∈ keys sh then g n else g' n
 have hin2:∀ n,n ∈ keys sh → g2 n = g n:=fun n hn => if_pos hn
 have hout2:∀ n,n ∉ keys sh → g2 n = g' n:=fun n hn => if_neg hn
 let B2:Nat → Prop:=fun b => B b ∨ R' b
 have hold:∀ n b,n ∈ keys sh → (g n).has b → ¬ B2 b ∧ b < w'.heap.size:=fun n b hn hg => by
  have h1:=hw.eP n b hg
  refine ⟨fun hB => ?_,Nat.lt_of_lt_of_le h1.2 had.size⟩
  rcases hB with hB | hB
  ·exact h1.1 hB
  ·rcases hR b hB with h2 | h2
   ·exact h1.1 (hw.rb b h2)
   ·exact absurd h1.2 (by omega)
 have wu:∀ n k b,n ∈ keys sh → k ∉ keys sh → (g n).has b → (g' k).has b → False:=fun n k b hn hk h1 h2 => by
  by_cases hkX:k ∈ X
  ·rcases had.fresh k hkX b h2 with h3 | ⟨j,hj,h3⟩
   ·exact absurd (hw.eP n b h1).2 (by omega)
   ·have hjs:j ∉ keys sh:=fun hm => HY j hm hj
    rw [oH hjs] at h3
    exact hjs (hw.fC n j b h1 h3 ▸ hn)
  ·rw [had.names k hkX,oH hk] at h2
   exact hk (hw.fC n k b h1 h2 ▸ hn)
 have Dk:WF R' B2 g2 w':=by
  refine ⟨fun b hb => .inr hb,fun b hb => hb.elim (fun hb => Nat.lt_of_lt_of_le (hw.lt b hb) had.size) fun hb => had.wf.lt b (had.wf.rb b hb),fun n b hg => ?_,fun n k b hn hk => ?_,fun n j k b hj hk => ?_⟩
  ·by_cases hn:n ∈ keys sh
   ·rw [hin2 n hn] at hg
    exact hold n b hn hg
   ·rw [hout2 n hn] at hg
    have h1:=had.wf.eP n b hg
    exact ⟨fun hB => h1.1 (hB.elim (fun h => had.b b (.inl h)) (had.wf.rb b)),h1.2⟩
  ·by_cases h1:n ∈ keys sh <;> by_cases h2:k ∈ keys sh
   ·rw [hin2 n h1] at hn
    rw [hin2 k h2] at hk
    exact hw.fC n k b hn hk
   ·rw [hin2 n h1] at hn
    rw [hout2 k h2] at hk
    exact (wu n k b h1 h2 hn hk).elim
   ·rw [hout2 n h1] at hn
    rw [hin2 k h2] at hk
    exact (wu k n b h2 h1 hk hn).elim
   ·rw [hout2 n h1] at hn
    rw [hout2 k h2] at hk
    exact had.wf.fC n k b hn hk
  ·by_cases hn:n ∈ keys sh
   ·rw [hin2 n hn] at hj hk
    exact hw.nd n j k b hj hk
   ·rw [hout2 n hn] at hj hk
    exact had.wf.nd n j k b hj hk
 have CX:∀ n ∈ W,oG sh g n = g n:=fun n hn => oH fun hm => HY n hm hn
 have N8:dK R B g w W X R' B2 g2 w':=by
  refine ⟨Dk,had.r,fun b hb => .inl hb,had.os,had.tape,had.output,had.size,fun b hb hW => had.heap b hb fun n hn => by rw [CX n hn]; exact hW n hn,fun n hn => ?_,fun n hn b hb => ?_,fun n iD lI b cur e hg hh => ?_⟩
  ·by_cases h1:n ∈ keys sh
   ·exact hin2 n h1
   ·rw [hout2 n h1,had.names n hn,oH h1]
  ·have h1:n ∉ keys sh:=fun hm => He n hm hn
   rw [hout2 n h1] at hb
   rcases had.fresh n hn b hb with h2 | ⟨k,hk,h2⟩
   ·exact .inl h2
   ·rw [CX k hk] at h2
    exact .inr ⟨k,hk,h2⟩
  ·exact had.shape n iD lI b cur e (by rw [CX n iD]; exact hg) hh
 have hgd:∀ n,g' n ≠ .dead → g2 n = g' n:=fun n hg => by
  by_cases h1:n ∈ keys sh
  ·exact absurd (Oh n h1) hg
  ·exact hout2 n h1
 exact hK u R' B2 g2 w' N8 hR (fun _ => (hv.more fun b hb => .inr hb).names hgd) fun p hp => ((hdf p hp).more fun b hb => .inr hb).names hgd
end
section
structure Ct where
 ins:List (Operand × AV)
 us:Mem
 v:AV
 df:Mem
 W:List Nat
 X:List Nat
 want:Bool
abbrev OC:=Oper × Ct
def gQ (p:OC) (st:Slots × Mem):Slots × Mem:=(bU (iI p.2.X st.1) p.1.dst p.2.v,p.2.df ++ fE p.2.X st.2)
def fJ:List OC → Slots × Mem → Slots × Mem
 | [],st => st
 | p :: r,st => fJ r (gQ p st)
def dS (X:List Nat):CV → Bool
 | .loc n _ _ => !X.elem n
 | .pl n _ => !X.elem n
 | .fn _ caps => !caps.any X.elem
 | .mref n => !X.elem n
 | .tl p _ _ _ => !X.elem p
 | .tpl p _ _ => !X.elem p
 | _ => true
def vP (X:List Nat):SV → Bool
 | .c x => dS X x
 | .agg cs => cs.all (dS X)
def kX (X:List Nat):AV → Bool
 | .s x => vP X x
 | .bV xs => xs.all (vP X)
def iV (X:List Nat):Ob → Bool
 | .row _ els => els.all (·.all (dS X))
 | .fM _ p _ => !X.elem p
 | .ax _ p q _ => !X.elem p && !X.elem q
 | _ => true
def sF:CV → Bool
 | .junk => false
 | _ => true
def EG:SV → Bool
 | .c x => sF x
 | .agg cs => cs.all sF
def yw:AV → Bool
 | .s x => EG x
 | .bV xs => xs.all EG
def EF:Ob → Bool
 | .row _ els => els.all (·.all sF)
 | .unk => false
 | _ => true
theorem xQ {X:List Nat} {x:CV} (h:dS X x = true):aZ X x = x:=by
 cases x with
 | fn f caps => cases hx:caps.any X.elem <;> simp only [dS,aZ,hx,cond_true,cond_false] at h ⊢ <;> first | rfl | cases h
 | tl p k o l => cases hx:X.elem p <;> simp only [dS,aZ,hx,cond_true,cond_false] at h ⊢ <;> first | rfl | cases h
 | tpl p k o => cases hx:X.elem p <;> simp only [dS,aZ,hx,cond_true,cond_false] at h ⊢ <;> first | rfl | cases h
 | _ => simp_all [dS,aZ]
theorem qW {α:Type} {f:α → α} {l:List α} (h:∀ x ∈ l,f x = x):l.map f = l:=by
 rw [List.map_congr_left h,List.map_id']
theorem H7 {X:List Nat} {x:SV} (h:vP X x = true):je X x = x:=by
 cases x with
 | c x => simp only [je,xQ h]
 | agg cs => simp only [je,qW fun x hx => xQ (List.all_eq_true.1 h x hx)]
theorem Dt {X:List Nat} {x:AV} (h:kX X x = true):jG X x = x:=by
 cases x with
 | s x => simp only [jG,H7 h]
 | bV xs => simp only [jG,qW fun x hx => H7 (List.all_eq_true.1 h x hx)]
theorem Dw {X:List Nat} {x:Ob} (h:iV X x = true):fQ X x = x:=by
 cases x with
 | row e els => simp only [fQ,qW fun cs hcs => qW fun x hx => xQ (List.all_eq_true.1 (List.all_eq_true.1 h cs hcs) x hx)]
 | bZ e els => rfl
 | mp es => rfl
 | pool e rows => rfl
 | fM e p lens =>
  have hx:X.elem p = false:=by simpa [iV] using h
  simp only [fQ,hx,cond_false]
 | ax e p q fs =>
  simp only [iV,Bool.and_eq_true,Bool.not_eq_true'] at h
  simp only [fQ,h.1,h.2,cond_false]
 | unk => rfl
theorem Dv {X:List Nat} {x:CV} (h:sF (aZ X x) = true):dS X x = true:=by
 cases x with
 | loc n o l => cases hx:X.elem n <;> simp_all [dS,aZ,sF]
 | pl n o => cases hx:X.elem n <;> simp_all [dS,aZ,sF]
 | fn f caps => cases hx:caps.any X.elem <;> simp only [dS,aZ,hx,cond_true,cond_false] at h ⊢ <;> first | rfl | cases h
 | mref n => cases hx:X.elem n <;> simp_all [dS,aZ,sF]
 | tl p k o l => cases hx:X.elem p <;> simp only [dS,aZ,hx,cond_true,cond_false] at h ⊢ <;> first | rfl | cases h
 | tpl p k o => cases hx:X.elem p <;> simp only [dS,aZ,hx,cond_true,cond_false] at h ⊢ <;> first | rfl | cases h
 | _ => rfl
theorem H6 {X:List Nat} {x:SV} (h:EG (je X x) = true):vP X x = true:=by
 cases x with
 | c x => exact Dv h
 | agg cs => exact List.all_eq_true.2 fun x hx => Dv (List.all_eq_true.1 h _ (List.mem_map.2 ⟨x,hx,rfl⟩))
theorem QL {X:List Nat} {x:AV} (h:yw (jG X x) = true):kX X x = true:=by
 cases x with
 | s x => exact H6 h
 | bV xs => exact List.all_eq_true.2 fun x hx => H6 (List.all_eq_true.1 h _ (List.mem_map.2 ⟨x,hx,rfl⟩))
theorem QO {X:List Nat} {x:Ob} (h:EF (fQ X x) = true):iV X x = true:=by
 cases x with
 | row e els => exact List.all_eq_true.2 fun cs hcs => List.all_eq_true.2 fun x hx => Dv (List.all_eq_true.1 (List.all_eq_true.1 h _ (List.mem_map.2 ⟨cs,hcs,rfl⟩)) _ (List.mem_map.2 ⟨x,hx,rfl⟩))
 | bZ e els => rfl
 | mp es => rfl
 | pool e rows => rfl
 | fM e p lens =>
  cases hx:X.elem p with
  | false => simp only [iV,hx,Bool.not_false]
  | true => simp only [fQ,hx,cond_true] at h; cases h
 | ax e p q fs =>
  cases hx:X.elem p with
  | true => simp only [fQ,hx,cond_true] at h; cases h
  | false =>
   cases hy:X.elem q with
   | true => simp only [fQ,hx,hy,cond_true,cond_false] at h; cases h
   | false => simp only [iV,hx,hy,Bool.not_false,Bool.and_self]
 | unk => cases h
theorem Du (X Y:List Nat) (x:CV):aZ X (aZ Y x) = aZ Y (aZ X x):=by
 cases x with
 | loc n o l => cases hx:X.elem n <;> cases hy:Y.elem n <;> simp only [aZ,hx,hy,cond_true,cond_false]
 | pl n o => cases hx:X.elem n <;> cases hy:Y.elem n <;> simp only [aZ,hx,hy,cond_true,cond_false]
 | fn f caps => cases hx:caps.any X.elem <;> cases hy:caps.any Y.elem <;> simp only [aZ,hx,hy,cond_true,cond_false]
 | mref n => cases hx:X.elem n <;> cases hy:Y.elem n <;> simp only [aZ,hx,hy,cond_true,cond_false]
 | tl n k o l => cases hx:X.elem n <;> cases hy:Y.elem n <;> simp only [aZ,hx,hy,cond_true,cond_false]
 | tpl n k o => cases hx:X.elem n <;> cases hy:Y.elem n <;> simp only [aZ,hx,hy,cond_true,cond_false]
 | _ => rfl
theorem Hy (X Y:List Nat) (x:SV):je X (je Y x) = je Y (je X x):=by
 cases x with
 | c x => simp only [je,Du X Y]
 | agg cs => simp only [je,List.map_map,Function.comp_def,Du X Y]
theorem QJ (X Y:List Nat) (x:AV):jG X (jG Y x) = jG Y (jG X x):=by
 cases x with
 | s x => simp only [jG,Hy X Y]
 | bV xs => simp only [jG,List.map_map,Function.comp_def,Hy X Y]
theorem QM (X Y:List Nat) (x:Ob):fQ X (fQ Y x) = fQ Y (fQ X x):=by
 cases x with
 | row e els => simp only [fQ,List.map_map,Function.comp_def,Du X Y]
 | bZ e els => rfl
 | mp es => rfl
 | pool e rows => rfl
 | fM e p lens => cases hx:X.elem p <;> cases hy:Y.elem p <;> simp only [fQ,hx,hy,cond_true,cond_false]
 | ax e p q fs => cases hx:X.elem p <;> cases hy:Y.elem p <;> cases hz:X.elem q <;> cases hw:Y.elem q <;> simp only [fQ,hx,hy,hz,hw,cond_true,cond_false]
 | unk => rfl
theorem IU (σ:Slots) (d:Option Tmp) (v:AV) (t:Nat):lk (bU σ d v) t = if d = some t then some v else lk σ t:=by
 cases d with
 | none => simp [bU]
 | some d =>
  show (bif Nat.beq d t then some v else lk σ t) = _
  cases hb:Nat.beq d t with
  | true => have:=Nat.eq_of_beq_eq_true hb; subst this; simp
  | false => have:=Nat.ne_of_beq_eq_false hb; simp [this]
theorem pO (p:OC) (st:Slots × Mem) (t:Nat):lk (gQ p st).1 t = if p.1.dst = some t then some p.2.v else (lk st.1 t).map (jG p.2.X):=by
 unfold gQ
 rw [IU,uO]
theorem D5 (X:List Nat):∀ (m:Mem) (n:Nat),lk (fE X m) n = if n ∈ X then none else (lk m n).map (fQ X)
 | [],n => by simp [fE,lk]
 | (k,v) :: r,n => by
  unfold fE
  have ih:=D5 X r n
  cases hk:X.elem k with
  | true =>
   rw [cond_true,ih]
   have hkX:=List.mem_of_elem_eq_true hk
   by_cases hn:n ∈ X
   ·rw [if_pos hn,if_pos hn]
   ·rw [if_neg hn,if_neg hn]
    congr 1
    show lk r n = (bif Nat.beq k n then some v else lk r n)
    cases hb:Nat.beq k n with
    | true => have:=Nat.eq_of_beq_eq_true hb; subst this; exact absurd hkX hn
    | false => rfl
  | false =>
   rw [cond_false]
   show (bif Nat.beq k n then some (fQ X v) else lk (fE X r) n) = if n ∈ X then none else ((bif Nat.beq k n then some v else lk r n)).map (fQ X)
   cases hb:Nat.beq k n with
   | true => have:=Nat.eq_of_beq_eq_true hb; subst this; rw [if_neg (iE hk)]; rfl
   | false => rw [cond_false,cond_false,ih]
theorem II {α:Type}:∀ (x y:List (Nat × α)) (n:Nat),lk (x ++ y) n = if n ∈ keys x then lk x n else lk y n
 | [],y,n => by simp [keys]
 | (k,v) :: r,y,n => by
  show (bif Nat.beq k n then some v else lk (r ++ y) n) = if n ∈ keys ((k,v) :: r) then (bif Nat.beq k n then some v else lk r n) else lk y n
  cases hb:Nat.beq k n with
  | true => have:=Nat.eq_of_beq_eq_true hb; subst this; simp [keys]
  | false =>
   have hne:=Nat.ne_of_beq_eq_false hb
   rw [cond_false,cond_false,II r y n]
   have:n ∈ keys ((k,v) :: r) ↔ n ∈ keys r:=by simp [keys,Ne.symm hne]
   by_cases h:n ∈ keys r
   ·rw [if_pos h,if_pos (this.2 h)]
   ·rw [if_neg h,if_neg fun h' => h (this.1 h')]
theorem pK (p:OC) (st:Slots × Mem) (n:Nat):lk (gQ p st).2 n = if n ∈ keys p.2.df then lk p.2.df n else if n ∈ p.2.X then none else (lk st.2 n).map (fQ p.2.X):=by
 unfold gQ
 rw [II,D5]
def kL (a b:Slots × Mem):Prop:=(∀ t,lk a.1 t = lk b.1 t) ∧ ∀ n,lk a.2 n = lk b.2 n
theorem kL.refl (a:Slots × Mem):kL a a:=⟨fun _ => rfl,fun _ => rfl⟩
theorem kL.trans {a b c:Slots × Mem} (h:kL a b) (k:kL b c):kL a c:=⟨fun t => (h.1 t).trans (k.1 t),fun n => (h.2 n).trans (k.2 n)⟩
theorem kL.step {a b:Slots × Mem} (h:kL a b) (p:OC):kL (gQ p a) (gQ p b):=⟨fun t => by rw [pO,pO,h.1],fun n => by rw [pK,pK,h.2]⟩
theorem kL.run {a b:Slots × Mem} (h:kL a b):∀ L:List OC,kL (fJ L a) (fJ L b)
 | [] => h
 | p :: r => kL.run (h.step p) r
def qf (ops:Array Oper) (p:OC):List Nat :=
 (p.2.ins.filterMap fun q => match q.1 with | .tmp t => some t | _ => none) ++ (match p.1.guard with | some (j,_) => ((ops[j]?).bind (·.dst)).toList | none => [])
def pY (p:OC):List Nat:=p.2.W ++ p.2.X ++ keys p.2.df
def y8 (p:OC):List Nat:=keys p.2.us ++ pY p
def half (ops:Array Oper) (a b:OC):Bool :=
 (match a.1.dst with | some d => !(qf ops b).elem d && b.1.dst != some d | none => true) && gu (pY a) (y8 b) && kX a.2.X b.2.v && b.2.ins.all (fun q => kX a.2.X q.2) && b.2.us.all (fun q => iV a.2.X q.2) && b.2.df.all (fun q => iV a.2.X q.2)
def indep (ops:Array Oper) (a b:OC):Bool:=half ops a b && half ops b a
structure Half (ops:Array Oper) (a b:OC):Prop where
 rd:∀ d,a.1.dst = some d → d ∉ qf ops b
 ds:∀ d,a.1.dst = some d → b.1.dst ≠ some d
 nm:∀ n ∈ pY a,n ∉ y8 b
 v:jG a.2.X b.2.v = b.2.v
 ins:∀ q ∈ b.2.ins,kX a.2.X q.2 = true
 us:∀ q ∈ b.2.us,iV a.2.X q.2 = true
 df:∀ q ∈ b.2.df,iV a.2.X q.2 = true
theorem zu {ops:Array Oper} {a b:OC} (h:half ops a b = true):Half ops a b:=by
 unfold half at h
 simp only [Bool.and_eq_true] at h
 obtain ⟨⟨⟨⟨⟨h1,h2⟩,h3⟩,h4⟩,h5⟩,h6⟩:=h
 refine ⟨fun d hd => ?_,fun d hd => ?_,zV h2,Dt h3,List.all_eq_true.1 h4,List.all_eq_true.1 h5,List.all_eq_true.1 h6⟩
 ·rw [hd] at h1
  simp only [Bool.and_eq_true,Bool.not_eq_true'] at h1
  exact iE h1.1
 ·rw [hd] at h1
  simp only [Bool.and_eq_true] at h1
  simpa using h1.2
theorem xU {p:OC} {n:Nat} (h:n ∈ keys p.2.df):n ∈ pY p:=List.mem_append_right _ h
theorem BP {p:OC} {n:Nat} (h:n ∈ p.2.X):n ∈ pY p:=List.mem_append_left _ (List.mem_append_right _ h)
theorem E5 {p:OC} {n:Nat} (h:n ∈ pY p):n ∈ y8 p:=List.mem_append_right _ h
theorem IL {α:Type} {l:List (Nat × α)} {n:Nat} {o:α} (h:lk l n = some o):n ∈ keys l:=List.mem_map.2 ⟨_,pJ h,rfl⟩
theorem IK {X:List Nat} {df:Mem} (h:∀ q ∈ df,iV X q.2 = true) (n:Nat):(lk df n).map (fQ X) = lk df n:=by
 cases hl:lk df n with
 | none => rfl
 | some o => exact congrArg some (Dw (h _ (pJ hl)))
theorem swap {ops:Array Oper} {a b:OC} (h:indep ops a b = true) (st:Slots × Mem):kL (gQ a (gQ b st)) (gQ b (gQ a st)):=by
 unfold indep at h
 simp only [Bool.and_eq_true] at h
 have hab:=zu h.1
 have hba:=zu h.2
 refine ⟨fun t => ?_,fun n => ?_⟩
 ·rw [pO,pO,pO,pO]
  by_cases h1:a.1.dst = some t
  ·have h2:=hab.ds t h1
   rw [if_pos h1,if_neg h2,if_pos h1]
   simp [hba.v]
  ·by_cases h2:b.1.dst = some t
   ·rw [if_neg h1,if_pos h2,if_pos h2]
    simp [hab.v]
   ·rw [if_neg h1,if_neg h2,if_neg h2,if_neg h1]
    cases lk st.1 t with
    | none => rfl
    | some x => simp [QJ a.2.X b.2.X]
 ·rw [pK,pK,pK,pK]
  have e1:n ∈ pY a → n ∉ keys b.2.df ∧ n ∉ b.2.X:=fun hn => ⟨fun h => hab.nm n hn (E5 (xU h)),fun h => hab.nm n hn (E5 (BP h))⟩
  by_cases ha1:n ∈ keys a.2.df
  ·obtain ⟨hb1,hb2⟩:=e1 (xU ha1)
   rw [if_pos ha1,if_neg hb1,if_neg hb2,if_pos ha1,IK hba.df]
  ·by_cases hb1:n ∈ keys b.2.df
   ·have hb:n ∈ pY b:=xU hb1
    have ha2:n ∉ a.2.X:=fun h => hba.nm n hb (E5 (BP h))
    rw [if_neg ha1,if_neg ha2,if_pos hb1,if_pos hb1,IK hab.df]
   ·by_cases ha2:n ∈ a.2.X
    ·obtain ⟨_,hb2⟩:=e1 (BP ha2)
     rw [if_neg ha1,if_pos ha2,if_neg hb1,if_neg hb2,if_neg ha1,if_pos ha2]
     rfl
    ·by_cases hb2:n ∈ b.2.X
     ·rw [if_neg ha1,if_neg ha2,if_neg hb1,if_pos hb2,if_neg hb1,if_pos hb2]
      rfl
     ·rw [if_neg ha1,if_neg ha2,if_neg hb1,if_neg hb2,if_neg hb1,if_neg hb2,if_neg ha1,if_neg ha2]
      cases lk st.2 n with
      | none => rfl
      | some x => simp [QM a.2.X b.2.X]
theorem push {ops:Array Oper} {a:OC}:∀ (L:List OC) (st:Slots × Mem),(∀ b ∈ L,indep ops a b = true) → kL (gQ a (fJ L st)) (fJ L (gQ a st))
 | [],_,_ => .refl _
 | b :: r,st,h => (push r (gQ b st) fun c hc => h c (List.mem_cons_of_mem _ hc)).trans ((swap (h b List.mem_cons_self) st).run r)
theorem Jf:∀ (L:List OC) (p:OC) (st:Slots × Mem),fJ (L ++ [p]) st = gQ p (fJ L st)
 | [],_,_ => rfl
 | q :: r,p,st => Jf r p (gQ q st)
theorem sK:∀ (L K:List OC) (st:Slots × Mem),fJ (L ++ K) st = fJ K (fJ L st)
 | [],_,_ => rfl
 | q :: r,K,st => sK r K (gQ q st)
theorem Jl {t:Nat} {av:AV} (hj:yw av = true):∀ (L:List OC) (st:Slots × Mem),lk (fJ L st).1 t = some av →
  (∃ A p B,L = A ++ p :: B ∧ p.1.dst = some t ∧ p.2.v = av ∧ ∀ q ∈ B,q.1.dst ≠ some t ∧ kX q.2.X av = true) ∨ (lk st.1 t = some av ∧ ∀ q ∈ L,q.1.dst ≠ some t ∧ kX q.2.X av = true)
 | [],st,h => .inr ⟨h,fun q hq => by cases hq⟩
 | p :: r,st,h => by
  rcases Jl hj r (gQ p st) h with ⟨A,q,B,rfl,h1,h2,h3⟩ | ⟨h1,h2⟩
  ·exact .inl ⟨p :: A,q,B,rfl,h1,h2,h3⟩
  ·rw [pO] at h1
   by_cases hd:p.1.dst = some t
   ·rw [if_pos hd] at h1
    injection h1 with h1
    exact .inl ⟨[],p,r,rfl,hd,h1,h2⟩
   ·rw [if_neg hd] at h1
    cases hl:lk st.1 t with
    | none => rw [hl] at h1; cases h1
    | some x =>
     rw [hl] at h1
     injection h1 with h1
     have hnr:kX p.2.X x = true:=QL (by rw [h1]; exact hj)
     have hx:x = av:=by rw [← h1,Dt hnr]
     subst hx
     refine .inr ⟨rfl,fun q hq => ?_⟩
     cases hq with
     | head => exact ⟨hd,hnr⟩
     | tail _ hq => exact h2 q hq
theorem Ea {t:Nat} {av:AV}:∀ (L:List OC) (st:Slots × Mem),lk st.1 t = some av → (∀ q ∈ L,q.1.dst ≠ some t ∧ kX q.2.X av = true) → lk (fJ L st).1 t = some av
 | [],_,h,_ => h
 | p :: r,st,h,k => by
  refine Ea r (gQ p st) ?_ fun q hq => k q (List.mem_cons_of_mem _ hq)
  obtain ⟨h1,h2⟩:=k p List.mem_cons_self
  rw [pO,if_neg h1,h]
  exact congrArg some (Dt h2)
theorem Iw {n:Nat} {ob:Ob} (hj:EF ob = true):∀ (L:List OC) (st:Slots × Mem),lk (fJ L st).2 n = some ob →
  (∃ A p B,L = A ++ p :: B ∧ lk p.2.df n = some ob ∧ ∀ q ∈ B,n ∉ keys q.2.df ∧ n ∉ q.2.X ∧ iV q.2.X ob = true) ∨ (lk st.2 n = some ob ∧ ∀ q ∈ L,n ∉ keys q.2.df ∧ n ∉ q.2.X ∧ iV q.2.X ob = true)
 | [],st,h => .inr ⟨h,fun q hq => by cases hq⟩
 | p :: r,st,h => by
  rcases Iw hj r (gQ p st) h with ⟨A,q,B,rfl,h1,h2⟩ | ⟨h1,h2⟩
  ·exact .inl ⟨p :: A,q,B,rfl,h1,h2⟩
  ·rw [pK] at h1
   by_cases hd:n ∈ keys p.2.df
   ·rw [if_pos hd] at h1
    exact .inl ⟨[],p,r,rfl,h1,h2⟩
   ·rw [if_neg hd] at h1
    by_cases hX:n ∈ p.2.X
    ·rw [if_pos hX] at h1; cases h1
    ·rw [if_neg hX] at h1
     cases hl:lk st.2 n with
     | none => rw [hl] at h1; cases h1
     | some x =>
      rw [hl] at h1
      injection h1 with h1
      have hnr:iV p.2.X x = true:=QO (by rw [h1]; exact hj)
      have hx:x = ob:=by rw [← h1,Dw hnr]
      subst hx
      refine .inr ⟨rfl,fun q hq => ?_⟩
      cases hq with
      | head => exact ⟨hd,hX,hnr⟩
      | tail _ hq => exact h2 q hq
theorem EI {n:Nat} {ob:Ob}:∀ (L:List OC) (st:Slots × Mem),lk st.2 n = some ob → (∀ q ∈ L,n ∉ keys q.2.df ∧ n ∉ q.2.X ∧ iV q.2.X ob = true) → lk (fJ L st).2 n = some ob
 | [],_,h,_ => h
 | p :: r,st,h,k => by
  refine EI r (gQ p st) ?_ fun q hq => k q (List.mem_cons_of_mem _ hq)
  obtain ⟨h1,h2,h3⟩:=k p List.mem_cons_self
  rw [pK,if_neg h1,if_neg h2,h]
  exact congrArg some (Dw h3)
def One (P:Program) (C:Ctx) (ops:Array Oper) (p:OC) (st:Slots × Mem):Prop :=
 match p.2.want with
 | true => LT P p.1 p.2.ins p.2.us p.2.v p.2.df p.2.W p.2.X ∧ EvL st.1 p.2.ins ∧ iq st.2 p.2.us ∧ dH ops st.1 p.1 true ∧ (dG C.N p.1.dst && bP p.2.W (p.2.X ++ keys p.2.df) && bP p.2.W (keys p.2.us) && bP (keys p.2.df) (p.2.X ++ p.2.W) && gu p.2.X C.pn) = true
 | false => dH ops st.1 p.1 false ∧ dG C.N p.1.dst = true ∧ p.2.v = .bV [] ∧ p.2.df = [] ∧ p.2.X = [] ∧ p.2.ins = [] ∧ p.2.us = []
section
variable {P:Program} {C:Ctx} {ops:Array Oper}
theorem St.eqs {st st':Slots × Mem} {R B:Nat → Prop} {g:Nat → GS} {a:Act} {w:World} (h:kL st st') (hs:St P C st.1 st.2 R B g a w):St P C st'.1 st'.2 R B g a w :=
 hs.weak (fun t v hv => (h.1 t).trans hv) fun n o ho => (h.2 n).trans ho
theorem One.wp {p:OC} {st:Slots × Mem} (h:One P C ops p st) {R B:Nat → Prop} {g:Nat → GS} {a:Act} {w:World} (hs:St P C st.1 st.2 R B g a w) {i:Nat} (hi:ops[i]? = some p.1) {K:Act → World → Prop} {Q:Exit → Act → World → Prop}
  (hK:∀ R' B' g' a' w',St P C (gQ p st).1 (gQ p st).2 R' B' g' a' w' → K a' w'):wpOp P ops Q i K a w:=by
 unfold wpOp
 rw [hi]
 simp only
 unfold One at h
 split at h
 ·obtain ⟨hlt,hin,hus,hg,hside⟩:=h
  simp only [Bool.and_eq_true] at hside
  obtain ⟨⟨⟨⟨h1,h2⟩,h3⟩,h4⟩,h5⟩:=hside
  rw [if_pos (hg.wanted hs)]
  refine .inl (hlt R B g w a hs.wf (EvL.ra hs hin) (fun p hp => (iq.ro hs hus p hp).1) K _ fun u R' B' g' w' had hR hv hob => ?_)
  exact hK _ _ _ _ _ (hs.step hus (fun n hn => ⟨List.mem_append.1 (lu h2 n hn),mem_keys (lu h3 n hn)⟩) (fun p hp => List.mem_append.1 (lu h4 p.1 (List.mem_map.2 ⟨p,hp,rfl⟩))) h1 (zV h5) had hR hv hob)
 ·obtain ⟨hg,hd,h1,h2,h3,_,_⟩:=h
  rw [if_neg (by rw [hg.wanted hs]; exact Bool.false_ne_true)]
  refine hK R B g _ w ?_
  have e:gQ p st = (bU st.1 p.1.dst (.bV []),st.2):=by
   unfold gQ
   rw [h1,h2,h3,xR,uI]
   rfl
  rw [e]
  refine { hs with nd:=(EO a _ _).trans hs.nd,sz:=(EP a _ _).trans hs.sz,sl:=fun t v ht => ?_ }
  change lk (bU st.1 p.1.dst (.bV [])) t = some v at ht
  rw [IU] at ht
  cases hdst:p.1.dst with
  | none => rw [hdst] at ht; exact hs.sl t v (by simpa using ht)
  | some d =>
   rw [hdst] at ht hd
   have hlt:d < a.tmps.size:=by rw [hs.sz]; exact Nat.le_of_ble_eq_true hd
   rw [CU a d t undef hlt]
   by_cases hdt:d = t
   ·subst hdt
    rw [if_pos rfl] at ht ⊢
    injection ht with ht
    subst ht
    exact ⟨[],rfl,rfl,fun k x hk => by simp at hk⟩
   ·rw [if_neg hdt]
    rw [if_neg (by simpa using hdt)] at ht
    exact hs.sl t v ht
theorem One.of {p:OC} {st st':Slots × Mem} (h:One P C ops p st) (h1:∀ t ∈ qf ops p,∀ v,lk st.1 t = some v → lk st'.1 t = some v) (h2:∀ q ∈ p.2.us,lk st.2 q.1 = some q.2 → lk st'.2 q.1 = some q.2):One P C ops p st':=by
 have hg:∀ b,dH ops st.1 p.1 b → dH ops st'.1 p.1 b:=fun b hb => by
  unfold dH at hb ⊢
  split at hb
  ·exact hb
  ·rename_i j want hgd
   obtain ⟨d,k1,⟨c,k2,k3⟩ | ⟨k2,k3⟩⟩:=hb
   ·exact ⟨d,k1,.inl ⟨c,h1 d (by simp [qf,hgd,k1]) _ k2,k3⟩⟩
   ·exact ⟨d,k1,.inr ⟨h1 d (by simp [qf,hgd,k1]) _ k2,k3⟩⟩
 unfold One at h ⊢
 split at h
 ·rename_i hw
  obtain ⟨k1,k2,k3,k4,k5⟩:=h
  refine ⟨k1,?_,?_,hg _ k4,k5⟩
  ·have:∀ ins:List (Operand × AV),(∀ q ∈ ins,q ∈ p.2.ins) → EvL st.1 ins → EvL st'.1 ins:=by
    intro ins
    induction ins with
    | nil => intro _ _; trivial
    | cons q r ih =>
     intro hm he
     obtain ⟨x,v⟩:=q
     refine ⟨?_,ih (fun q hq => hm q (List.mem_cons_of_mem _ hq)) he.2⟩
     have hx:=he.1
     cases x with
     | tmp t => exact h1 t (List.mem_append_left _ (List.mem_filterMap.2 ⟨_,hm _ List.mem_cons_self,rfl⟩)) v hx
     | _ => exact hx
   exact this _ (fun _ h => h) k2
  ·have:∀ us:Mem,(∀ q ∈ us,q ∈ p.2.us) → iq st.2 us → iq st'.2 us:=by
    intro us
    induction us with
    | nil => intro _ _; trivial
    | cons q r ih =>
     intro hm he
     obtain ⟨n,o⟩:=q
     exact ⟨h2 _ (hm _ List.mem_cons_self) he.1,ih (fun q hq => hm q (List.mem_cons_of_mem _ hq)) he.2⟩
   exact this _ (fun _ h => h) k3
 ·exact ⟨hg _ h.1,h.2⟩
def vV (l:List Oper) (pr:List Nat):Nat → List Oper → Bool
 | _,[] => true
 | k,o :: r => (o.after.toList.all fun e => !Region.binds .any e || Nat.blt e.on k) && Nat.beq (Nat.lor (pr.getD k 0) (o.after.toList.foldl (fun s e => bif Region.binds .any e then Nat.lor (Nat.lor s (2 ^ e.on)) (pr.getD e.on 0) else s) 0)) (o.after.toList.foldl (fun s e => bif Region.binds .any e then Nat.lor (Nat.lor s (2 ^ e.on)) (pr.getD e.on 0) else s) 0) && vV l pr (k + 1) r
def vT (ops:Array Oper) (kE:Nat) (b:OC):Nat → List OC → Bool
 | _,[] => true
 | j,a :: r => (kE.testBit j || indep ops a b) && vT ops kE b (j + 1) r
def wJ (kE:Nat):Nat → Bool
 | 0 => true
 | n + 1 => kE.testBit n && wJ kE n
def yx (p:OC):Bool:=p.2.ins.all (fun q => yw q.2) && p.2.us.all fun q => EF q.2
def rG (ops:Array Oper) (L:List OC) (pr:List Nat):Nat → List OC → Bool
 | _,[] => true
 | k,b :: r => vT ops (pr.getD k 0) b 0 (L.take k) && (yx b || (wJ (pr.getD k 0) k && (r.zipIdx (k + 1)).all fun q => (pr.getD q.2 0).testBit k)) && rG ops L pr (k + 1) r
def wO (l:List Oper) (cs:List Ct):Bool :=
 let pr:=(Region.before l.toArray).toList
 Nat.beq cs.length l.length && vV l pr 0 l && rG l.toArray (l.zip cs) pr 0 (l.zip cs)
theorem Gq {pr:List Nat} {j:Nat}:∀ (es:List Edge) (s:Nat),(es.foldl (fun s e => bif Region.binds .any e then Nat.lor (Nat.lor s (2 ^ e.on)) (pr.getD e.on 0) else s) s).testBit j = true →
  s.testBit j = true ∨ ∃ e ∈ es,Region.binds .any e = true ∧ (e.on = j ∨ (pr.getD e.on 0).testBit j = true)
 | [],s,h => .inl h
 | e :: r,s,h => by
  rw [List.foldl_cons] at h
  rcases Gq r _ h with h | ⟨e',h1,h2⟩
  ·cases hb:Region.binds .any e with
   | false => rw [hb] at h; exact .inl h
   | true =>
    rw [hb,cond_true] at h
    change ((s ||| 2 ^ e.on) ||| pr.getD e.on 0).testBit j = true at h
    rw [Nat.testBit_or,Nat.testBit_or,Nat.testBit_two_pow] at h
    simp only [Bool.or_eq_true,decide_eq_true_eq] at h
    rcases h with (h | h) | h
    ·exact .inl h
    ·exact .inr ⟨e,List.mem_cons_self,hb,.inl h⟩
    ·exact .inr ⟨e,List.mem_cons_self,hb,.inr h⟩
  ·exact .inr ⟨e',List.mem_cons_of_mem _ h1,h2⟩
theorem Au {l:List Oper} {pr:List Nat}:∀ (r:List Oper) (k:Nat),vV l pr k r = true → ∀ (i:Nat) o,r[i]? = some o → (∀ e ∈ o.after,Region.binds .any e = true → e.on < k + i) ∧
  ∀ j,(pr.getD (k + i) 0).testBit j = true → ∃ e ∈ o.after,Region.binds .any e = true ∧ (e.on = j ∨ (pr.getD e.on 0).testBit j = true)
 | [],_,_,i,_,h => by simp at h
 | q :: r,k,h,i,o,hi => by
  unfold vV at h
  simp only [Bool.and_eq_true] at h
  obtain ⟨⟨h1,h2⟩,h3⟩:=h
  cases i with
  | zero =>
   simp at hi
   subst hi
   refine ⟨fun e he hb => (by have:=List.all_eq_true.1 h1 e (by simpa using he); rw [hb] at this; exact Nat.le_of_ble_eq_true this),fun j hj => ?_⟩
   have e2:=Nat.eq_of_beq_eq_true h2
   have hb:(Nat.lor (pr.getD k 0) (q.after.toList.foldl (fun s e => bif Region.binds .any e then Nat.lor (Nat.lor s (2 ^ e.on)) (pr.getD e.on 0) else s) 0)).testBit j = true:=by
    show ((pr.getD k 0) ||| _).testBit j = true
    rw [Nat.testBit_or]
    rw [Nat.add_zero] at hj
    rw [hj,Bool.true_or]
   rw [e2] at hb
   rcases Gq _ _ hb with h | ⟨e,he,h⟩
   ·simp at h
   ·exact ⟨e,by simpa using he,h⟩
  | succ i =>
   have:=Au r (k + 1) h3 i o (by simpa using hi)
   rwa [show k + 1 + i = k + (i + 1) by omega] at this
theorem JB {ops:Array Oper} {kE:Nat} {b:OC}:∀ (r:List OC) (j:Nat),vT ops kE b j r = true → ∀ (i:Nat) a,r[i]? = some a → kE.testBit (j + i) = true ∨ indep ops a b = true
 | [],_,_,i,_,h => by simp at h
 | q :: r,j,h,i,a,hi => by
  unfold vT at h
  simp only [Bool.and_eq_true,Bool.or_eq_true] at h
  cases i with
  | zero => simp at hi; subst hi; exact h.1
  | succ i =>
   have:=JB r (j + 1) h.2 i a (by simpa using hi)
   rwa [show j + 1 + i = j + (i + 1) by omega] at this
theorem FN {kE:Nat}:∀ n,wJ kE n = true → ∀ i < n,kE.testBit i = true
 | 0,_,i,h => by omega
 | n + 1,h,i,hi => by
  unfold wJ at h
  simp only [Bool.and_eq_true] at h
  by_cases hin:i = n
  ·subst hin; exact h.1
  ·exact FN n h.2 i (by omega)
theorem Bl {ops:Array Oper} {L:List OC} {pr:List Nat}:∀ (r:List OC) (k:Nat),rG ops L pr k r = true → ∀ (i:Nat) b,r[i]? = some b →
  (∀ (j:Nat) a,j < k + i → L[j]? = some a → (pr.getD (k + i) 0).testBit j = true ∨ indep ops a b = true) ∧
  (yx b = true ∨ ((∀ j < k + i,(pr.getD (k + i) 0).testBit j = true) ∧ ∀ q,i < q → q < r.length → (pr.getD (k + q) 0).testBit (k + i) = true))
 | [],_,_,i,_,h => by simp at h
 | c :: r,k,h,i,b,hi => by
  unfold rG at h
  simp only [Bool.and_eq_true,Bool.or_eq_true] at h
  obtain ⟨⟨h1,h2⟩,h3⟩:=h
  cases i with
  | zero =>
   simp at hi
   subst hi
   refine ⟨fun j a hj ha => ?_,h2.imp id fun h2 => ⟨fun j hj => FN k h2.1 j hj,fun q hq DI => ?_⟩⟩
   ·have:=JB (L.take k) 0 h1 j a (by rw [List.getElem?_take,if_pos (by omega)]; exact ha)
    rwa [Nat.zero_add] at this
   ·have hlt:q - 1 < r.length:=by simp at DI; omega
    have hm:(r[q - 1],k + q) ∈ r.zipIdx (k + 1):=by
     refine List.mem_of_getElem? (i:=q - 1) ?_
     rw [List.getElem?_zipIdx,List.getElem?_eq_getElem hlt]
     simp
     omega
    have:=List.all_eq_true.1 h2.2 _ hm
    simpa using this
  | succ i =>
   have:=Bl r (k + 1) h3 i b (by simpa using hi)
   rw [show k + 1 + i = k + (i + 1) by omega] at this
   refine ⟨this.1,this.2.imp id fun h => ⟨h.1,fun q hq DI => ?_⟩⟩
   have:=h.2 (q - 1) (by omega) (by simp at DI; omega)
   rwa [show k + 1 + (q - 1) = k + q by omega] at this
def sel (f:Nat → Bool):Nat → List OC → List OC
 | _,[] => []
 | k,p :: r => bif f k then p :: sel f (k + 1) r else sel f (k + 1) r
theorem BA (f:Nat → Bool):∀ (A B:List OC) (k:Nat),sel f k (A ++ B) = sel f k A ++ sel f (k + A.length) B
 | [],B,k => by simp [sel]
 | p :: A,B,k => by
  have ih:=BA f A B (k + 1)
  rw [show k + 1 + A.length = k + (A.length + 1) by omega] at ih
  simp only [List.cons_append,sel,List.length_cons]
  cases f k
  ·rw [cond_false,cond_false,ih]
  ·rw [cond_true,cond_true,ih]; rfl
theorem BB {f:Nat → Bool}:∀ {A:List OC} {k:Nat} {p:OC},p ∈ sel f k A → ∃ i,A[i]? = some p ∧ f (k + i) = true
 | [],_,_,h => by cases h
 | q :: A,k,p,h => by
  unfold sel at h
  cases hf:f k with
  | false =>
   rw [hf,cond_false] at h
   obtain ⟨i,h1,h2⟩:=BB h
   exact ⟨i + 1,by simpa using h1,by rwa [show k + (i + 1) = k + 1 + i by omega]⟩
  | true =>
   rw [hf,cond_true] at h
   cases h with
   | head => exact ⟨0,rfl,hf⟩
   | tail _ h =>
    obtain ⟨i,h1,h2⟩:=BB h
    exact ⟨i + 1,by simpa using h1,by rwa [show k + (i + 1) = k + 1 + i by omega]⟩
theorem BD {f:Nat → Bool} {A:List OC} {k:Nat}:∀ p ∈ sel f k A,p ∈ A:=fun p h => by
 obtain ⟨i,h1,_⟩:=BB h
 exact List.mem_of_getElem? h1
theorem EY {f f':Nat → Bool}:∀ {A:List OC} {k:Nat},(∀ i < A.length,f (k + i) = f' (k + i)) → sel f k A = sel f' k A
 | [],_,_ => rfl
 | p :: A,k,h => by
  have h0:=h 0 (by simp)
  have ih:=EY (f:=f) (f':=f') (A:=A) (k:=k + 1) fun i hi => by
   have:=h (i + 1) (by simpa using hi)
   rwa [show k + (i + 1) = k + 1 + i by omega] at this
  unfold sel
  rw [Nat.add_zero] at h0
  rw [h0,ih]
theorem EX {f:Nat → Bool}:∀ {A:List OC} {k:Nat},(∀ i < A.length,f (k + i) = true) → sel f k A = A
 | [],_,_ => rfl
 | p :: A,k,h => by
  have h0:=h 0 (by simp)
  rw [Nat.add_zero] at h0
  unfold sel
  rw [h0,cond_true,EX fun i hi => by
   have:=h (i + 1) (by simpa using hi)
   rwa [show k + (i + 1) = k + 1 + i by omega] at this]
theorem EZ {f:Nat → Bool}:∀ {A:List OC} {k:Nat},(∀ i < A.length,f (k + i) = false) → sel f k A = []
 | [],_,_ => rfl
 | p :: A,k,h => by
  have h0:=h 0 (by simp)
  rw [Nat.add_zero] at h0
  unfold sel
  rw [h0,cond_false,EZ fun i hi => by
   have:=h (i + 1) (by simpa using hi)
   rwa [show k + (i + 1) = k + 1 + i by omega] at this]
theorem One.found {P:Program} {C:Ctx} {ops:Array Oper} {p:OC} {A A' B:List OC} {st:Slots × Mem} (h:One P C ops p (fJ A st)) (uD:yx p = true) (f:Nat → Bool) (hA:A' = sel f 0 A)
  (hsk:∀ (i:Nat) a,A[i]? = some a → f i = false → indep ops a p = true) (hB:∀ b ∈ B,indep ops p b = true):One P C ops p (fJ B (fJ A' st)):=by
 subst hA
 rw [← sK]
 unfold yx at uD
 simp only [Bool.and_eq_true] at uD
 have wW:∀ b ∈ B,Half ops b p:=fun b hb => by
  have:=hB b hb
  unfold indep at this
  simp only [Bool.and_eq_true] at this
  exact zu this.2
 have Hf:∀ (i:Nat) a,A[i]? = some a → f i = false → Half ops a p:=fun i a hi hf => by
  have:=hsk i a hi hf
  unfold indep at this
  simp only [Bool.and_eq_true] at this
  exact zu this.1
 -- reading a slot
 have slot:∀ t ∈ qf ops p,∀ v,yw v = true → (∀ b ∈ B,kX b.2.X v = true) → lk (fJ A st).1 t = some v → lk (fJ (sel f 0 A ++ B) st).1 t = some v:=fun t ht v hv hvB hl => by
  have hBt:∀ b ∈ B,b.1.dst ≠ some t ∧ kX b.2.X v = true:=fun b hb => ⟨fun hd => (wW b hb).rd t hd ht,hvB b hb⟩
  rcases Jl hv A st hl with ⟨A1,q,B1,rfl,h1,h2,h3⟩ | ⟨h1,h2⟩
  ·have hf:f A1.length = true:=by
    cases hf:f A1.length with
    | true => rfl
    | false => exact absurd ht ((Hf A1.length q (by simp) hf).rd t h1)
   rw [BA]
   simp only [sel,Nat.zero_add,hf,cond_true]
   rw [List.append_assoc,sK,List.cons_append]
   refine Ea _ (gQ q _) (by rw [pO,if_pos h1,h2]) fun b hb => ?_
   rcases List.mem_append.1 hb with hb | hb
   ·exact h3 b (BD b hb)
   ·exact hBt b hb
  ·refine Ea _ st h1 fun b hb => ?_
   rcases List.mem_append.1 hb with hb | hb
   ·exact h2 b (BD b hb)
   ·exact hBt b hb
 refine h.of (fun t ht v hl => ?_) fun q hq hl => ?_
 ·-- v is an input,or a guard's bool
  unfold One at h
  unfold qf at ht
  have hgd:∀ b,dH ops (fJ A st).1 p.1 b → t ∈ (match p.1.guard with | some (j,_) => ((ops[j]?).bind (·.dst)).toList | none => []) → yw v = true ∧ ∀ X,kX X v = true:=fun b hb ht => by
   unfold dH at hb
   split at hb
   ·rename_i hg; rw [hg] at ht; cases ht
   ·rename_i j want hg
    rw [hg] at ht
    obtain ⟨d,k1,⟨c,k2,_⟩ | ⟨k2,_⟩⟩:=hb
    ·simp only [k1,Option.toList_some,List.mem_singleton] at ht
     subst ht
     rw [k2] at hl
     injection hl with hl
     subst hl
     exact ⟨rfl,fun _ => rfl⟩
    ·simp only [k1,Option.toList_some,List.mem_singleton] at ht
     subst ht
     rw [k2] at hl
     injection hl with hl
     subst hl
     exact ⟨rfl,fun _ => rfl⟩
  rcases List.mem_append.1 ht with hti | Hg
  ·split at h
   ·obtain ⟨x,hx,hxt⟩:=List.mem_filterMap.1 hti
    obtain ⟨xo,xv⟩:=x
    cases xo with
    | tmp t' =>
     injection hxt with hxt
     subst hxt
     have hev:∀ ins:List (Operand × AV),EvL (fJ A st).1 ins → (Operand.tmp t',xv) ∈ ins → lk (fJ A st).1 t' = some xv:=by
      intro ins
      induction ins with
      | nil => intro _ hm; cases hm
      | cons y r ih =>
       intro he hm
       obtain ⟨yo,yv⟩:=y
       cases hm with
       | head => exact he.1
       | tail _ hm => exact ih he.2 hm
     have:=hev _ h.2.1 hx
     rw [this] at hl
     injection hl with hl
     subst hl
     exact slot t' (List.mem_append_left _ hti) xv (List.all_eq_true.1 uD.1 _ hx) (fun b hb => (wW b hb).ins _ hx) this
    | _ => cases hxt
   ·obtain ⟨_,_,_,_,_,h6,_⟩:=h
    rw [h6] at hti
    cases hti
  ·have hg:∃ b,dH ops (fJ A st).1 p.1 b:=by
    split at h
    ·exact ⟨true,h.2.2.2.1⟩
    ·exact ⟨false,h.1⟩
   obtain ⟨b,hb⟩:=hg
   obtain ⟨h1,h2⟩:=hgd b hb Hg
   exact slot t (List.mem_append_right _ Hg) v h1 (fun b _ => h2 _) hl
 ·have hqj:=List.all_eq_true.1 uD.2 q hq
  have DJ:q.1 ∈ y8 p:=List.mem_append_left _ (List.mem_map.2 ⟨q,hq,rfl⟩)
  have Gw:∀ b ∈ B,q.1 ∉ keys b.2.df ∧ q.1 ∉ b.2.X ∧ iV b.2.X q.2 = true:=fun b hb =>
   ⟨fun hd => (wW b hb).nm _ (xU hd) DJ,fun hx => (wW b hb).nm _ (BP hx) DJ,(wW b hb).us _ hq⟩
  rcases Iw hqj A st hl with ⟨A1,r,B1,rfl,h1,h2⟩ | ⟨h1,h2⟩
  ·have hf:f A1.length = true:=by
    cases hf:f A1.length with
    | true => rfl
    | false => exact absurd DJ ((Hf A1.length r (by simp) hf).nm _ (xU (IL h1)))
   rw [BA]
   simp only [sel,Nat.zero_add,hf,cond_true]
   rw [List.append_assoc,sK,List.cons_append]
   refine EI _ (gQ r _) (by rw [pK,if_pos (IL h1),h1]) fun b hb => ?_
   rcases List.mem_append.1 hb with hb | hb
   ·exact h2 b (BD b hb)
   ·exact Gw b hb
  ·refine EI _ st h1 fun b hb => ?_
   rcases List.mem_append.1 hb with hb | hb
   ·exact h2 b (BD b hb)
   ·exact Gw b hb
end
end
section
def Chain (P:Program) (C:Ctx) (ops:Array Oper):List OC → Slots × Mem → Prop
 | [],_ => True
 | p :: r,st => One P C ops p st ∧ Chain P C ops r (gQ p st)
section
variable {P:Program} {C:Ctx} {ops:Array Oper}
theorem Chain.at:∀ {L:List OC} {st:Slots × Mem},Chain P C ops L st → ∀ (i:Nat) p,L[i]? = some p → One P C ops p (fJ (L.take i) st)
 | [],_,_,i,_,h => by simp at h
 | q :: r,st,hc,0,p,h => by
  simp at h
  subst h
  exact hc.1
 | q :: r,st,hc,i + 1,p,h => by
  have:=Chain.at hc.2 i p (by simpa using h)
  simpa [fJ] using this
theorem mem_ready {listed:Array Bool} {i:Nat} (h:i ∈ Region.ready .any ops listed):i < ops.size ∧ listed.getD i true = false ∧ ∃ o,ops[i]? = some o ∧ ∀ e ∈ o.after,Region.binds .any e = true → listed.getD e.on false = true:=by
 unfold Region.ready at h
 obtain ⟨h1,h2⟩:=List.mem_filter.1 h
 simp only [Bool.and_eq_true,Bool.not_eq_true'] at h2
 obtain ⟨h2,h3⟩:=h2
 refine ⟨List.mem_range.1 h1,h2,?_⟩
 cases ho:ops[i]? with
 | none => rw [ho] at h3; simp at h3
 | some o =>
  rw [ho] at h3
  refine ⟨o,rfl,fun e he hb => ?_⟩
  have h4:o.after.all (fun e => !Region.binds .any e || listed.getD e.on false) = true:=by simpa using h3
  have h5:=(Array.all_eq_true_iff_forall_mem.1 h4) e he
  rw [hb] at h5
  simpa using h5
theorem RZ {listed:Array Bool} {i:Nat} {o:Oper} (hi:ops[i]? = some o) (hl:listed.getD i true = false) (h:∀ e ∈ o.after,Region.binds .any e = true → listed.getD e.on false = true):i ∈ Region.ready .any ops listed:=by
 unfold Region.ready
 refine List.mem_filter.2 ⟨List.mem_range.2 (Array.getElem?_eq_some_iff.1 hi).1,?_⟩
 rw [hl,hi]
 simp only [Bool.not_false,Option.map_some,Option.getD_some,Bool.true_and]
 refine Array.all_eq_true_iff_forall_mem.2 fun e he => ?_
 cases hb:Region.binds .any e with
 | true => rw [h e he hb]; simp
 | false => simp
theorem St.drew {σ:Slots} {m:Mem} {R B:Nat → Prop} {g:Nat → GS} {a:Act} {w:World} (h:St P C σ m R B g a w):St P C σ m R B g a w.drew:=by
 have had:dK R B g w [] [] R B g w.drew:=⟨⟨h.wf.rb,h.wf.lt,h.wf.eP,h.wf.fC,h.wf.nd⟩,fun _ h => h,fun _ h => h,rfl,rfl,rfl,Nat.le_refl _,fun _ _ _ => rfl,fun _ _ => rfl,fun n hn => (by cases hn),fun n hn => (by cases hn)⟩
 have:=h.step (us:=[]) (df:=[]) (d:=none) (v:=.bV []) (u:=undef) trivial (fun n hn => by cases hn) (fun p hp => by cases hp) rfl (fun n hn => by cases hn) had (fun b hb => .inl hb) (fun h => by cases h) (fun p hp => by cases hp)
 rw [xR,uI] at this
 exact this
variable {l:List Oper} {L:List OC} {pr:List Nat} {st0:Slots × Mem}
theorem Jh {f:Nat → Bool} {i:Nat} {p:OC} (hi:L[i]? = some p):sel f 0 L = sel f 0 (L.take i) ++ (bif f i then [p] else []) ++ sel f (i + 1) (L.drop (i + 1)):=by
 have hlt:i < L.length:=(List.getElem?_eq_some_iff.1 hi).1
 have e:L = L.take i ++ (p :: L.drop (i + 1)):=by
  have h1:L.drop i = p :: L.drop (i + 1):=by
   rw [List.drop_eq_getElem_cons hlt]
   congr 1
   rw [List.getElem?_eq_getElem hlt] at hi
   injection hi
  rw [← h1,List.take_append_drop]
 have hl:(L.take i).length = i:=by simp; omega
 conv => lhs; rw [e]
 rw [BA,hl,Nat.zero_add]
 have e2:sel f i (p :: L.drop (i + 1)) = bif f i then p :: sel f (i + 1) (L.drop (i + 1)) else sel f (i + 1) (L.drop (i + 1)):=rfl
 rw [e2]
 cases f i
 ·simp only [cond_false,List.append_nil]
 ·simp only [cond_true,List.append_assoc,List.singleton_append]
theorem MW {Q:Exit → Act → World → Prop} (hL:L.map (·.1) = l) (hpr:vV l pr 0 l = true) (hdr:rG l.toArray L pr 0 L = true) (Cj:Chain P C l.toArray L st0)
  (hfin:∀ R B g a w,St P C (fJ L st0).1 (fJ L st0).2 R B g a w → Q .normal a w):∀ (fuel:Nat) (listed:Array Bool) (R B:Nat → Prop) (g:Nat → GS) (a:Act) (w:World),listed.size = l.length → listed.toList.count false ≤ fuel →
  (∀ i j,i < l.length → listed.getD i true = true → (pr.getD i 0).testBit j = true → listed.getD j false = true) →
  St P C (fJ (sel (fun k => listed.getD k true) 0 L) st0).1 (fJ (sel (fun k => listed.getD k true) 0 L) st0).2 R B g a w → wpAny P .any l.toArray Q fuel listed a w:=by
 have Nq:L.length = l.length:=by rw [← hL,List.length_map]
 have hget:∀ (i:Nat) p,L[i]? = some p → l[i]? = some p.1:=fun i p h => by rw [← hL,List.getElem?_map,h]; rfl
 have o8:∀ (A:Array Bool) (i:Nat) (d:Bool),i < A.size → A.getD i d = A.getD i true:=fun A i d hi => by
  simp only [Array.getD_eq_getD_getElem?,Array.getElem?_eq_getElem hi,Option.getD_some]
 -- nothing is ready: all are listed
 have hdone:∀ (listed:Array Bool),listed.size = l.length → Region.ready .any l.toArray listed = [] → ∀ i,i < l.length → listed.getD i true = true:=fun listed hsz hr i => by
  induction i using Nat.strongRecOn with
  | ind i ih =>
   intro hi
   cases hx:listed.getD i true with
   | true => rfl
   | false =>
    have ho:l[i]? = some l[i]:=List.getElem?_eq_getElem hi
    have hm:=RZ (ops:=l.toArray) (i:=i) (o:=l[i]) (by simp) hx fun e he hb => by
     have hlt:=((Au l 0 hpr i l[i] ho).1 e he hb)
     rw [Nat.zero_add] at hlt
     rw [o8 _ _ _ (by omega)]
     exact ih e.on hlt (by omega)
    rw [hr] at hm
    cases hm
 have hend:∀ (listed:Array Bool),listed.size = l.length → Region.ready .any l.toArray listed = [] → sel (fun k => listed.getD k true) 0 L = L:=fun listed hsz hr => EX fun i hi => by
  rw [Nat.zero_add]
  exact hdone listed hsz hr i (by omega)
 intro fuel
 induction fuel with
 | zero =>
  intro listed R B g a w hsz hcnt hcl hs
  have hr:Region.ready .any l.toArray listed = []:=by
   cases hr:Region.ready .any l.toArray listed with
   | nil => rfl
   | cons i r =>
    have:=mem_ready (ops:=l.toArray) (listed:=listed) (i:=i) (by rw [hr]; exact List.mem_cons_self)
    obtain ⟨h1,h2,_⟩:=this
    have hi:i < listed.size:=by rw [hsz]; simpa using h1
    have:false ∈ listed.toList:=by
     refine List.mem_of_getElem? (i:=i) ?_
     rw [Array.getD_eq_getD_getElem?,Array.getElem?_eq_getElem hi] at h2
     simpa [Array.getElem?_eq_getElem hi] using h2
    have:=List.count_pos_iff.2 this
    omega
  rw [hend listed hsz hr] at hs
  exact ⟨hr,hfin _ _ _ _ _ hs⟩
 | succ fuel ih =>
  intro listed R B g a w hsz hcnt hcl hs
  refine ⟨fun hr => ?_,fun i hi => ?_⟩
  ·rw [hend listed hsz hr] at hs
   exact hfin _ _ _ _ _ hs
  obtain ⟨h1,h2,o,ho,h3⟩:=mem_ready hi
  have h1':i < l.length:=by simpa using h1
  have hiL:i < L.length:=by omega
  have hp:L[i]? = some L[i]:=List.getElem?_eq_getElem hiL
  generalize hpe:L[i] = p at hp
  have hop:l[i]? = some p.1:=hget i p hp
  have Ou:o = p.1:=by
   have:l.toArray[i]? = some p.1:=by simpa using hop
   rw [ho] at this
   injection this
  subst Ou
  obtain ⟨hp1,hp2⟩:=Au l 0 hpr i p.1 hop
  rw [Nat.zero_add] at hp1 hp2
  -- its predecessors are listed
  have hpred:∀ j,(pr.getD i 0).testBit j = true → listed.getD j false = true:=fun j hj => by
   obtain ⟨e,he,hb,Cm⟩:=hp2 j hj
   have hel:=h3 e he hb
   have hlt:=hp1 e he hb
   rcases Cm with h | h
   ·rw [← h]; exact hel
   ·exact hcl e.on j (by omega) (by rw [o8 _ _ false (by omega)] at hel; exact hel) h
  have Ox:∀ (k:Nat),k < l.length → ∀ j,(pr.getD k 0).testBit j = true → j < k:=by
   intro k
   induction k using Nat.strongRecOn with
   | ind k ihk =>
    intro hk j hj
    obtain ⟨q1,q2⟩:=Au l 0 hpr k l[k] (List.getElem?_eq_getElem hk)
    rw [Nat.zero_add] at q1 q2
    obtain ⟨e,he,hb',Cm⟩:=q2 j hj
    have hlt:=q1 e he hb'
    rcases Cm with h | h
    ·omega
    ·have:=ihk e.on hlt (by omega) j h
     omega
  obtain ⟨hd1,hd2⟩:=Bl L 0 hdr i p hp
  simp only [Nat.zero_add] at hd1 hd2
  -- those behind it that are listed do not stand in its way
  have Gv:∀ b ∈ sel (fun k => listed.getD k true) (i + 1) (L.drop (i + 1)),indep l.toArray p b = true:=fun b hb => by
   obtain ⟨j,hj1,hj2⟩:=BB hb
   rw [List.getElem?_drop] at hj1
   have hjl:i + 1 + j < l.length:=by rw [← Nq]; exact (List.getElem?_eq_some_iff.1 hj1).1
   obtain ⟨q1,_⟩:=Bl L 0 hdr (i + 1 + j) b hj1
   simp only [Nat.zero_add] at q1
   rcases q1 i p (by omega) hp with h | h
   ·have:=hcl (i + 1 + j) i hjl hj2 h
    rw [o8 _ _ false (by omega),h2] at this
    cases this
   ·exact h
  have Np:∀ (j:Nat) q,(L.take i)[j]? = some q → listed.getD j true = false → indep l.toArray q p = true:=fun j q hj hf => by
   rw [List.getElem?_take] at hj
   split at hj
   ·rename_i hji
    rcases hd1 j q hji hj with h | h
    ·have:=hpred j h
     rw [o8 _ _ false (by omega),hf] at this
     cases this
    ·exact h
   ·cases hj
  have hcut:=Jh (f:=fun k => listed.getD k true) hp
  rw [h2,cond_false,List.append_nil] at hcut
  have G8:=Cj.at i p hp
  have hone:One P C l.toArray p (fJ (sel (fun k => listed.getD k true) 0 L) st0):=by
   rcases hd2 with uD | ⟨hall,hnone⟩
   ·rw [hcut,sK]
    exact One.found G8 uD (fun k => listed.getD k true) rfl Np Gv
   ·have e1:sel (fun k => listed.getD k true) 0 (L.take i) = L.take i:=EX fun j hj => by
     rw [Nat.zero_add]
     have hji:j < i:=by simp at hj; omega
     have:=hpred j (hall j hji)
     rwa [o8 _ _ false (by omega)] at this
    have e2:sel (fun k => listed.getD k true) (i + 1) (L.drop (i + 1)) = []:=EZ fun j hj => by
     have hjl:i + 1 + j < L.length:=by simp at hj; omega
     cases hx:listed.getD (i + 1 + j) true with
     | false => rfl
     | true =>
      have:=hcl (i + 1 + j) i (by omega) hx (hnone (i + 1 + j) (by omega) hjl)
      rw [o8 _ _ false (by omega),h2] at this
      cases this
    rw [hcut,e1,e2,List.append_nil]
    exact G8
  refine hone.wp hs ho fun R' B' g' a' w' hs' => ?_
  have hnew:∀ k,k < l.length → (listed.setIfInBounds i true).getD k true = if k = i then true else listed.getD k true:=fun k hk => by
   simp only [Array.getD_eq_getD_getElem?,Array.getElem?_setIfInBounds]
   by_cases hki:i = k
   ·rw [if_pos hki,if_pos hki.symm,if_pos (by omega)]; rfl
   ·rw [if_neg hki,if_neg (Ne.symm hki)]
  refine ih (listed.setIfInBounds i true) R' B' g' a' w' (by simpa using hsz) ?_ ?_ ?_
  ·have hi':i < listed.toList.length:=by simpa [hsz] using h1'
   have hcs:=List.count_set (b:=false) (a:=true) (l:=listed.toList) hi'
   have hv:listed.toList[i] = false:=by
    rw [Array.getD_eq_getD_getElem?,Array.getElem?_eq_getElem (by omega)] at h2
    simpa using h2
   rw [Array.toList_setIfInBounds,hcs,hv]
   have e1:(if (true == false) = true then 1 else 0) = 0:=rfl
   have e2:(if (false == false) = true then 1 else 0) = 1:=rfl
   rw [e1,e2]
   omega
  ·intro k j hk hx hb
   have hjk:=Ox k hk j hb
   rw [o8 _ _ false (by simp; omega),hnew j (by omega)]
   rw [hnew k hk] at hx
   by_cases hki:k = i
   ·subst hki
    have:=hpred j hb
    rw [o8 _ _ false (by omega)] at this
    rw [this]; simp
   ·rw [if_neg hki] at hx
    have:=hcl k j hk hx hb
    rw [o8 _ _ false (by omega)] at this
    rw [this]; simp
  ·have hcut':=Jh (f:=fun k => (listed.setIfInBounds i true).getD k true) hp
   have hfi:(listed.setIfInBounds i true).getD i true = true:=by rw [hnew i h1',if_pos rfl]
   rw [hfi,cond_true] at hcut'
   have e1:sel (fun k => (listed.setIfInBounds i true).getD k true) 0 (L.take i) = sel (fun k => listed.getD k true) 0 (L.take i):=EY fun j hj => by
    have:j < i:=by simp at hj; omega
    rw [Nat.zero_add,hnew j (by omega),if_neg (by omega)]
   have e2:sel (fun k => (listed.setIfInBounds i true).getD k true) (i + 1) (L.drop (i + 1)) = sel (fun k => listed.getD k true) (i + 1) (L.drop (i + 1)):=EY fun j hj => by
    have:i + 1 + j < L.length:=by simp at hj; omega
    rw [hnew _ (by omega),if_neg (by omega)]
   rw [hcut',e1,e2,sK,Jf]
   rw [hcut,sK] at hs'
   exact hs'.eqs (push _ _ Gv)
end
theorem MV (l:List Oper) (cs:List Ct) (h:cs.length = l.length):(l.zip cs).map (·.1) = l:=by
 induction l generalizing cs with
 | nil => rfl
 | cons x r ih =>
  cases cs with
  | nil => cases h
  | cons c cs => simp only [List.zip_cons_cons,List.map_cons,ih cs (by simpa using h)]
theorem MX {P:Program} {C:Ctx} {l:List Oper} {cs:List Ct} {st0:Slots × Mem} {id:Nat} {is:List It} {Q:Post} (hm:P.follows .mixedOrders = true) (hd:wO l cs = true) (Cj:Chain P C l.toArray (l.zip cs) st0)
  (h:dY P C is (fJ (l.zip cs) st0).1 (fJ (l.zip cs) st0).2 Q):dY P C (.code (.region id l.toArray true) :: is) st0.1 st0.2 Q:=fun R B g a w hs => by
 unfold wO at hd
 simp only [Bool.and_eq_true] at hd
 obtain ⟨⟨h1,h2⟩,h3⟩:=hd
 have hz:=MV l cs (Nat.eq_of_beq_eq_true h1)
 refine wp_region_any hm ?_
 refine MW (L:=l.zip cs) hz h2 h3 Cj (fun R B g a w hs => h R B g a w hs) _ _ R B g a w.drew (by simp) ?_ (fun i j hi hx _ => ?_) ?_
 ·simp
 ·rw [Array.getD_eq_getD_getElem?,Array.getElem?_replicate,if_pos (by simpa using hi)] at hx
  cases hx
 ·have e:sel (fun k => (Array.replicate l.toArray.size false).getD k true) 0 (l.zip cs) = []:=EZ fun i hi => by
   have:i < l.length:=by simp at hi; omega
   rw [Nat.zero_add,Array.getD_eq_getD_getElem?,Array.getElem?_replicate,if_pos (by simpa using this)]
   rfl
  rw [e]
  exact hs.drew
def aP {τ:Type} (P:Program) (C:Ctx) (l:List Oper) (done:List Ct) (rest:List Oper) (is:List It) (σ:Slots) (m:Mem) (M:Option τ) (K:τ → Post):Prop :=
 ∀ t,M = some t → ∃ cs:List Ct,cs.length = rest.length ∧ Chain P C l.toArray (rest.zip cs) (σ,m) ∧ wO l (done.reverse ++ cs) = true ∧ dY P C is (fJ (rest.zip cs) (σ,m)).1 (fJ (rest.zip cs) (σ,m)).2 (K t)
section
variable {P:Program} {C:Ctx} {σ:Slots} {m:Mem} {is:List It} {l rest:List Oper} {done:List Ct} {τ υ:Type} {M:Option τ} {K:τ → Post}
theorem aA.draw {id:Nat} (hm:P.follows .mixedOrders = true) (h:aP P C l [] l is σ m M K):aA P C (.code (.region id l.toArray true) :: is) σ m M K:=fun t ht => by
 obtain ⟨cs,_,h2,h3,h4⟩:=h t ht
 exact MX (st0:=(σ,m)) hm (by simpa using h3) h2 h4
theorem EH (x:CV):dS [] x = true:=by
 cases x <;> simp [dS]
theorem Ij (x:SV):vP [] x = true:=by
 cases x with
 | c x => exact EH x
 | agg cs => exact List.all_eq_true.2 fun x _ => EH x
theorem Ih (x:AV):kX [] x = true:=by
 cases x with
 | s x => exact Ij x
 | bV cs => exact List.all_eq_true.2 fun x _ => Ij x
theorem Ii (o:Ob):iV [] o = true:=by
 cases o with
 | row e els => exact List.all_eq_true.2 fun cs _ => List.all_eq_true.2 fun x _ => EH x
 | _ => first | rfl | simp [iV]
def zq (ops:Array Oper) (a b:OC):Bool :=
 (match a.1.dst with | some d => !(qf ops b).elem d && b.1.dst != some d | none => true) && gu (pY a) (y8 b) && (a.2.X.isEmpty || (kX a.2.X b.2.v && b.2.ins.all (fun q => kX a.2.X q.2) && b.2.us.all (fun q => iV a.2.X q.2) && b.2.df.all (fun q => iV a.2.X q.2)))
theorem Gy {ops:Array Oper} {a b:OC} (h:zq ops a b = true):half ops a b = true:=by
 unfold zq at h
 unfold half
 rw [Bool.and_eq_true,Bool.or_eq_true] at h
 obtain ⟨h1,h2⟩:=h
 simp only [Bool.and_assoc] at h1 ⊢
 rw [Bool.and_eq_true] at h1
 rw [Bool.and_eq_true,Bool.and_eq_true]
 refine ⟨h1.1,h1.2,?_⟩
 rcases h2 with h2 | h2
 ·have:a.2.X = []:=by simpa using h2
  rw [this,Ih,List.all_eq_true.2 fun q _ => Ih q.2,List.all_eq_true.2 fun q _ => Ii q.2,List.all_eq_true.2 fun q _ => Ii q.2]
  rfl
 ·simpa only [Bool.and_assoc] using h2
def Aj (ops:Array Oper) (kE:Nat) (b:OC):Nat → List OC → Bool
 | _,[] => true
 | j,a :: r => (kE.testBit j || (zq ops a b && zq ops b a)) && Aj ops kE b (j + 1) r
theorem JA {ops:Array Oper} {kE:Nat} {b:OC}:∀ (L:List OC) (j:Nat),Aj ops kE b j L = true → vT ops kE b j L = true
 | [],_,_ => rfl
 | a :: r,j,h => by
  unfold Aj at h
  unfold vT
  simp only [Bool.and_eq_true,Bool.or_eq_true] at h ⊢
  refine ⟨h.1.imp id fun h => ?_,JA r (j + 1) h.2⟩
  unfold indep
  rw [Gy h.1,Gy h.2]; rfl
def zX (ops:Array Oper) (L:List OC) (pr:List Nat):Nat → List OC → Bool
 | _,[] => true
 | k,b :: r => Aj ops (pr.getD k 0) b 0 (L.take k) && ((wJ (pr.getD k 0) k && (r.zipIdx (k + 1)).all fun q => (pr.getD q.2 0).testBit k) || yx b) && zX ops L pr (k + 1) r
theorem F9 {ops:Array Oper} {L:List OC} {pr:List Nat}:∀ (r:List OC) (k:Nat),zX ops L pr k r = true → rG ops L pr k r = true
 | [],_,_ => rfl
 | b :: r,k,h => by
  unfold zX at h
  unfold rG
  rw [Bool.and_eq_true,Bool.and_eq_true] at h ⊢
  refine ⟨⟨JA _ _ h.1.1,?_⟩,F9 r (k + 1) h.2⟩
  rw [Bool.or_comm]
  exact h.1.2
def zW (l:List Oper) (cs:List Ct):Bool :=
 let pr:=(Region.before l.toArray).toList
 Nat.beq cs.length l.length && vV l pr 0 l && zX l.toArray (l.zip cs) pr 0 (l.zip cs)
theorem MS {l:List Oper} {cs:List Ct} (h:zW l cs = true):wO l cs = true:=by
 unfold zW at h
 unfold wO
 simp only [Bool.and_eq_true] at h ⊢
 exact ⟨h.1,F9 _ _ h.2⟩
theorem aP.nil (hd:zW l done.reverse = true) (h:aA P C is σ m M K):aP P C l done [] is σ m M K:=fun t ht => ⟨[],rfl,trivial,by simpa using MS hd,h t ht⟩
theorem aP.bind {x:Option υ} {f:υ → Option τ} (h:∀ u,x = some u → aP P C l done rest is σ m (f u) K):aP P C l done rest is σ m (x.bind f) K:=fun t ht => by
 obtain ⟨u,hu,hf⟩:=Option.bind_eq_some_iff.1 ht
 exact h u hu t hf
theorem aP.split {b:Bool} {M1 M2:Option τ} (ht:b = true → aP P C l done rest is σ m M1 K) (hf:b = false → aP P C l done rest is σ m M2 K):aP P C l done rest is σ m (bif b then M1 else M2) K:=fun t h => by
 cases hb:b with
 | true => rw [hb] at h; exact ht hb t h
 | false => rw [hb] at h; exact hf hb t h
theorem aP.none:aP P C l done rest is σ m (none:Option τ) K:=fun t h => by cases h
theorem aP.step {o:Oper} {ins:List (Operand × AV)} {us df:Mem} {v:AV} {W X:List Nat} (hlt:LT P o ins us v df W X) (hi:EvL σ ins) (hu:iq m us) (hg:dH l.toArray σ o true)
  (hside:(dG C.N o.dst && bP W (X ++ keys df) && bP W (keys us) && bP (keys df) (X ++ W) && gu X C.pn) = true) (h:aP P C l (⟨ins,us,v,df,W,X,true⟩ :: done) rest is (bU (iI X σ) o.dst v) (df ++ fE X m) M K) :
  aP P C l done (o :: rest) is σ m M K:=fun t ht => by
 obtain ⟨cs,h1,h2,h3,h4⟩:=h t ht
 exact ⟨⟨ins,us,v,df,W,X,true⟩ :: cs,by simp [h1],⟨⟨hlt,hi,hu,hg,hside⟩,h2⟩,by simpa using h3,h4⟩
theorem aP.pure {o:Oper} {ins:List (Operand × AV)} {us:Mem} {v:AV} (hlt:LT P o ins us v [] [] []) (hi:EvL σ ins) (hu:iq m us) (hg:dH l.toArray σ o true)
  (hd:dG C.N o.dst = true) (h:aP P C l (⟨ins,us,v,[],[],[],true⟩ :: done) rest is (bU σ o.dst v) m M K):aP P C l done (o :: rest) is σ m M K :=
 aP.step hlt hi hu hg (by rw [hd]; rfl) (by rw [xR,uI]; exact h)
theorem aP.skip {o:Oper} (hg:dH l.toArray σ o false) (hd:dG C.N o.dst = true) (h:aP P C l (⟨[],[],.bV [],[],[],[],false⟩ :: done) rest is (bU σ o.dst (.bV [])) m M K):aP P C l done (o :: rest) is σ m M K:=fun t ht => by
 obtain ⟨cs,h1,h2,h3,h4⟩:=h t ht
 have e:gQ (o,(⟨[],[],.bV [],[],[],[],false⟩:Ct)) (σ,m) = (bU σ o.dst (.bV []),m):=by
  unfold gQ
  rw [xR,uI]
  rfl
 refine ⟨⟨[],[],.bV [],[],[],[],false⟩ :: cs,by simp [h1],⟨⟨hg,hd,rfl,rfl,rfl,rfl,rfl⟩,?_⟩,by simpa using h3,?_⟩
 ·rw [e]; exact h2
 ·rw [List.zip_cons_cons]
  show dY P C is (fJ (rest.zip cs) (gQ _ _)).1 (fJ (rest.zip cs) (gQ _ _)).2 (K t)
  rw [e]
  exact h4
end
end
end Go.Fw
end
