/- Parts of a proof that a law of the program holds: what the program computes, and why that is right. -/
import Derived.WalkKit
import Derived.Orders
import Derived.Deep.Slices
import Derived.LoopN
import Derived.Laws.StructEq
import Derived.Laws.MakeOwn
import Derived.Laws.AppendOwn
import Derived.Maps.AppendAt
section
set_option linter.unusedVariables false
set_option linter.unusedSimpArgs false
set_option linter.unnecessarySimpa false
namespace Go.Fw
inductive PV where
 | sc (v : Value)
 | xs (q : Bool) (els : List (List PV))
inductive CV where
 | pv (p : PV)
 | px (q : Bool) (cells : List PV)
 | loc (n off len : Nat)
 | pl (n off : Nat)
 | fn (f : FuncId) (caps : List Nat)
 | mref (n : Nat)
 | tl (p k off len : Nat)
 | tpl (p k off : Nat)
 | junk
inductive SV where
 | c (x : CV)
 | agg (cells : List CV)
inductive AV where
 | s (x : SV)
 | dI (vs : List SV)
inductive Ob where
 | row (e : TypeId) (els : List (List CV))
 | dU (e : TypeId) (els : List (List PV))
 | mp (es : List (Int × Int))
 | pool (e : TypeId) (rows : List (List (List PV)))
 | iY (e : TypeId) (p : Nat) (lens : List Nat)
 | unk
inductive GS where
 | dead
 | nil
 | blk (b : Nat)
 | pool (bs : List (Option Nat))
def GS.has : GS → Nat → Prop
 | .blk b,x => x = b
 | .pool bs,x => some x ∈ bs
 | _,_ => False
def GS.at (s : GS) (k : Nat) : GS := match s with
 | .pool bs => match bs[k]? with
  | some (some b) => .blk b
  | some none => .nil
  | none => .dead
 | _ => .dead
theorem GS.qc {s : GS} {b : Nat} (h : s = .blk b) : s.has b := by rw [h]; rfl
theorem GS.Wi {s : GS} {b x : Nat} (h : s = .blk b) (hx : s.has x) : x = b := by rw [h] at hx; exact hx
theorem GS.JG {s : GS} {k b : Nat} (h : s.at k = .blk b) : s.has b := by
 cases s with
 | pool bs =>
  simp only [GS.at] at h
  cases hb : bs[k]? with
  | none => rw [hb] at h; cases h
  | some o =>
   cases o with
   | none => rw [hb] at h; cases h
   | some c =>
    rw [hb] at h
    injection h with h
    subst h
    exact List.mem_of_getElem? hb
 | _ => cases h
abbrev Slots := List (Nat × AV)
abbrev Mem := List (Nat × Ob)
def bQ (P : Program) (e : TypeId) : Nat := ((P.info? e).map (·.size)).getD 0
def vz (R B : Nat → Prop) (q : Bool) : Nat → Prop := match q with
 | true => R
 | false => B
inductive gI (w : World) (R B : Nat → Prop) : PV → Value → Prop
 | sc {v : Value} (h : v.oneCell' = true) : gI w R B (.sc v) v
 | emp {q : Bool} {a : Option Addr} {c : Nat} : gI w R B (.xs q []) (.slice a 0 c)
 | xs {q : Bool} {els : List (List PV)} {a : Addr} {c s n : Nat} (val : Nat → Nat → Value) (hn : n = els.length) (hb : vz R B q a.block) (hc : els.length ≤ c) (hs : ∀ cs ∈ els,cs.length = s)
   (hv : ∀ j k cs p,els[j]? = some cs → cs[k]? = some p → w.cell? (a.add (j * s + k)) = some (val j k))
   (hr : ∀ j k cs p,els[j]? = some cs → cs[k]? = some p → gI w R B p (val j k)) : gI w R B (.xs q els) (.slice (some a) n c)
def IU (P : Program) (w : World) (R B : Nat → Prop) (g : Nat → GS) : CV → Value → Prop
 | .pv p,v => gI w R B p v
 | .px q cells,v => ∃ a,v = .pointer (some a) ∧ vz R B q a.block ∧ ∀ k p,cells[k]? = some p → ∃ u,w.cell? (a.add k) = some u ∧ gI w R B p u
 | .loc n off len,v =>
  (g n = .nil ∧ off = 0 ∧ len = 0 ∧ v = .slice none 0 0) ∨ (len = 0 ∧ off ≠ 0 ∧ ∃ a c,v = .slice a 0 c) ∨
  ∃ b cap cur e,g n = .blk b ∧ w.heap[b]? = some (.cells cur e (0,0)) ∧ len ≤ cap ∧ off + cap ≤ maxLen ∧ (off + cap) * bQ P e = cur.size ∧ v = .slice (some ⟨b,off * bQ P e,none⟩) len cap
 | .pl n off,v => ∃ b,g n = .blk b ∧ v = .pointer (some ⟨b,off,none⟩)
 | .fn f caps,v => ∃ vs : List Value,v = .func (.func f) #[] vs.toArray ∧ vs.length = caps.length ∧ ∀ (k n : Nat),caps[k]? = some n → ∃ b,g n = .blk b ∧ vs[k]? = some (Value.pointer (some ⟨b,0,none⟩))
 | .mref n,v => ∃ b,g n = .blk b ∧ v = .map (some b)
 | .tl p k off len,v =>
  ((g p).at k = .nil ∧ off = 0 ∧ len = 0 ∧ v = .slice none 0 0) ∨ (len = 0 ∧ off ≠ 0 ∧ ∃ a c,v = .slice a 0 c) ∨
  ∃ b cap cur e,(g p).at k = .blk b ∧ w.heap[b]? = some (.cells cur e (0,0)) ∧ len ≤ cap ∧ off + cap ≤ maxLen ∧ (off + cap) * bQ P e = cur.size ∧ v = .slice (some ⟨b,off * bQ P e,none⟩) len cap
 | .tpl p k off,v => ∃ b,(g p).at k = .blk b ∧ v = .pointer (some ⟨b,off,none⟩)
 | .junk,_ => True
def RC (P : Program) (w : World) (R B : Nat → Prop) (g : Nat → GS) (x : CV) (v : Value) : Prop := v.oneCell' = true ∧ IU P w R B g x v
def RS (P : Program) (w : World) (R B : Nat → Prop) (g : Nat → GS) : SV → Value → Prop
 | .c x,v => RC P w R B g x v
 | .agg cells,v => ∃ vs : List Value,v = .agg vs.toArray ∧ vs.length = cells.length ∧ ∀ (k : Nat) x,cells[k]? = some x → ∃ u,vs[k]? = some u ∧ RC P w R B g x u
def RA (P : Program) (w : World) (R B : Nat → Prop) (g : Nat → GS) : AV → Value → Prop
 | .s x,v => RS P w R B g x v
 | .dI xs,v => ∃ vs : List Value,v = .tuple vs.toArray ∧ vs.length = xs.length ∧ ∀ (k : Nat) x,xs[k]? = some x → ∃ u,vs[k]? = some u ∧ RS P w R B g x u
def dh (P : Program) (w : World) (R B : Nat → Prop) (g : Nat → GS) (n : Nat) (e : TypeId) (els : List (List CV)) : Prop :=
  (g n = .nil ∧ els = []) ∨
  ∃ b cur,g n = .blk b ∧ w.heap[b]? = some (.cells cur e (0,0)) ∧ (∀ cs ∈ els,cs.length = bQ P e) ∧ els.length * bQ P e ≤ cur.size ∧
   ∀ (j k : Nat) cs x,els[j]? = some cs → cs[k]? = some x → ∃ u,cur[j * bQ P e + k]? = some u ∧ RC P w R B g x u
def dG (els : List (List PV)) : List (List CV) := els.map (·.map .pv)
def lJ (p : Nat) (lens : List Nat) : List (List CV) := lens.mapIdx fun j l => [.tl p j 0 l]
def qR (P : Program) (w : World) (R B : Nat → Prop) (s : GS) (e : TypeId) (els : List (List PV)) : Prop :=
  (s = .nil ∧ els = []) ∨
  ∃ b cur,s = .blk b ∧ w.heap[b]? = some (.cells cur e (0,0)) ∧ (∀ cs ∈ els,cs.length = bQ P e) ∧ els.length * bQ P e ≤ cur.size ∧
   ∀ (j k : Nat) cs x,els[j]? = some cs → cs[k]? = some x → ∃ u,cur[j * bQ P e + k]? = some u ∧ gI w R B x u
def RO (P : Program) (w : World) (R B : Nat → Prop) (g : Nat → GS) (n : Nat) : Ob → Prop
 | .row e els => dh P w R B g n e els
 | .dU e els => dh P w R B g n e (dG els)
 | .mp es => ∃ b lU clock,g n = .blk b ∧ w.heap[b]? = some (.map lU clock) ∧ lU.toList.map (fun e => (e.key,e.val)) = es.map fun e => (Value.int .i64 e.1,Value.int .i64 e.2)
 | .pool e rows => (∃ bs,g n = .pool bs ∧ bs.length = rows.length) ∧ ∀ (k : Nat) els,rows[k]? = some els → qR P w R B ((g n).at k) e els
 | .iY e p lens => dh P w R B g n e (lJ p lens)
 | .unk => True
structure WF (R B : Nat → Prop) (g : Nat → GS) (w : World) : Prop where
 rb : ∀ b,R b → B b
 lt : ∀ b,B b → b < w.heap.size
 jW : ∀ n b,(g n).has b → ¬ B b ∧ b < w.heap.size
 kX : ∀ n m b,(g n).has b → (g m).has b → n = m
 nd : ∀ n j k b,(g n).at j = .blk b → (g n).at k = .blk b → j = k
theorem WF.own {R B : Nat → Prop} {g : Nat → GS} {w : World} (h : WF R B g w) (n b : Nat) (hg : g n = .blk b) : ¬ B b ∧ b < w.heap.size := h.jW n b (GS.qc hg)
theorem WF.inj {R B : Nat → Prop} {g : Nat → GS} {w : World} (h : WF R B g w) (n m b : Nat) (hn : g n = .blk b) (hm : g m = .blk b) : n = m := h.kX n m b (GS.qc hn) (GS.qc hm)
structure fG (R B : Nat → Prop) (g : Nat → GS) (w : World) (W X : List Nat) (R' B' : Nat → Prop) (g' : Nat → GS) (w' : World) : Prop where
 wf : WF R' B' g' w'
 r : ∀ b,R b → R' b
 b : ∀ b,B b → B' b
 os : w'.os = w.os
 tape : w'.tape = w.tape
 output : w'.output = w.output
 size : w.heap.size ≤ w'.heap.size
 heap : ∀ b,b < w.heap.size → (∀ n ∈ W,¬ (g n).has b) → w'.heap[b]? = w.heap[b]?
 names : ∀ n,n ∉ X → g' n = g n
 fresh : ∀ n ∈ X,∀ b,(g' n).has b → w.heap.size ≤ b ∨ ∃ m ∈ W,(g m).has b
 shape : ∀ n ∈ W,n ∉ X → ∀ b cur e,(g n).has b → w.heap[b]? = some (.cells cur e (0,0)) → ∃ cur',w'.heap[b]? = some (.cells cur' e (0,0)) ∧ cur'.size = cur.size
def bP (X : List Nat) : CV → CV
 | .loc n o l => bif X.elem n then .junk else .loc n o l
 | .pl n o => bif X.elem n then .junk else .pl n o
 | .fn f caps => bif caps.any X.elem then .junk else .fn f caps
 | .mref n => bif X.elem n then .junk else .mref n
 | .tl p k o l => bif X.elem p then .junk else .tl p k o l
 | .tpl p k o => bif X.elem p then .junk else .tpl p k o
 | x => x
def mF (X : List Nat) : SV → SV
 | .c x => .c (bP X x)
 | .agg cs => .agg (cs.map (bP X))
def lF (X : List Nat) : AV → AV
 | .s x => .s (mF X x)
 | .dI xs => .dI (xs.map (mF X))
def jU (X : List Nat) : Ob → Ob
 | .row e els => .row e (els.map (·.map (bP X)))
 | .dU e els => .dU e els
 | .mp es => .mp es
 | .pool e rows => .pool e rows
 | .iY e p lens => bif X.elem p then .unk else .iY e p lens
 | .unk => .unk
def jw (X : List Nat) (σ : Slots) : Slots := σ.map fun p => (p.1,lF X p.2)
def iF (X : List Nat) : Mem → Mem
 | [] => []
 | (n,o) :: r => bif X.elem n then iF X r else (n,jU X o) :: iF X r
section
variable {P : Program} {w w' : World} {R B R' B' : Nat → Prop} {g g' : Nat → GS} {W X : List Nat}
theorem Gj (hr : ∀ b,R b → R' b) (hb : ∀ b,B b → B' b) {q : Bool} {b : Nat} (h : vz R B q b) : vz R' B' q b := by
 cases q
 ·exact hb _ h
 ·exact hr _ h
theorem RZ (hrb : ∀ b,R b → B b) {q : Bool} {b : Nat} (h : vz R B q b) : B b := by
 cases q
 ·exact h
 ·exact hrb _ h
theorem add_block (a : Addr) (n : Nat) : (a.add n).block = a.block := by unfold Addr.add; split <;> rfl
theorem gI.keep (hr : ∀ b,R b → R' b) (hb : ∀ b,B b → B' b) (hrb : ∀ b,R b → B b) (hh : ∀ b,B b → w'.heap[b]? = w.heap[b]?) {p : PV} {v : Value} (h : gI w R B p v) : gI w' R' B' p v := by
 induction h with
 | sc h => exact .sc h
 | emp => exact .emp
 | xs val hn hq hc hs hv _ ih =>
  refine .xs val hn (Gj hr hb hq) hc hs (fun j k cs p h1 h2 => ?_) ih
  rw [World.cell?_of_block (w := w) (by rw [add_block]; exact hh _ (RZ hrb hq))]
  exact hv j k cs p h1 h2
theorem gI.oneCell {p : PV} {v : Value} (h : gI w R B p v) : v.oneCell' = true := by
 cases h <;> first | assumption | rfl
theorem fG.QS (h : fG R B g w W X R' B' g' w') (hw : WF R B g w) : ∀ b,B b → w'.heap[b]? = w.heap[b]? :=
 fun b hb => h.heap b (hw.lt b hb) fun n _ he => (hw.jW n b he).1 hb
theorem fG.pv (h : fG R B g w W X R' B' g' w') (hw : WF R B g w) {p : PV} {v : Value} (hp : gI w R B p v) : gI w' R' B' p v :=
 hp.keep h.r h.b hw.rb (h.QS hw)
theorem fG.jW (h : fG R B g w W X R' B' g' w') (hw : WF R B g w) {n b : Nat} (kW : n ∉ W) (hg : (g n).has b) : w'.heap[b]? = w.heap[b]? :=
 h.heap b (hw.jW n b hg).2 fun m hm he => kW (hw.kX m n b he hg ▸ hm)
theorem fG.own (h : fG R B g w W X R' B' g' w') (hw : WF R B g w) {n b : Nat} (hn : n ∉ X) (kW : n ∉ W) (hg : g n = .blk b) : g' n = .blk b ∧ w'.heap[b]? = w.heap[b]? :=
 ⟨(h.names n hn).trans hg,h.jW hw kW (GS.qc hg)⟩
theorem fG.LG (h : fG R B g w W X R' B' g' w') (hw : WF R B g w) {n b : Nat} (hn : n ∉ X) (hg : (g n).has b) {cur : Array Value} {e : TypeId} (hh : w.heap[b]? = some (.cells cur e (0,0))) :
  ∃ cur',w'.heap[b]? = some (.cells cur' e (0,0)) ∧ cur'.size = cur.size := by
 by_cases hW : n ∈ W
 ·exact h.shape n hW hn b cur e hg hh
 ·exact ⟨cur,(h.jW hw hW hg).trans hh,rfl⟩
theorem fG.own' (h : fG R B g w W X R' B' g' w') (hw : WF R B g w) {n b : Nat} (hn : n ∉ X) (hg : g n = .blk b) {cur : Array Value} {e : TypeId} (hh : w.heap[b]? = some (.cells cur e (0,0))) :
  ∃ cur',w'.heap[b]? = some (.cells cur' e (0,0)) ∧ cur'.size = cur.size := by
 exact h.LG hw hn (GS.qc hg) hh
theorem lN {n : Nat} (h : X.elem n = false) : n ∉ X := by
 intro hm
 rw [List.elem_eq_true_of_mem hm] at h
 cases h
theorem fG.rc0 (h : fG R B g w W X R' B' g' w') (hw : WF R B g w) {x : CV} {v : Value} (hp : IU P w R B g x v) : IU P w' R' B' g' (bP X x) v := by
 cases x with
 | pv p => exact h.pv hw hp
 | px q cells =>
  obtain ⟨a,rfl,hq,hc⟩ := hp
  refine ⟨a,rfl,Gj h.r h.b hq,fun k p hk => ?_⟩
  obtain ⟨u,hu,hr⟩ := hc k p hk
  exact ⟨u,(World.cell?_of_block (w := w) (by rw [add_block]; exact h.QS hw _ (RZ hw.rb hq))).trans hu,h.pv hw hr⟩
 | loc n off len =>
  cases hx : X.elem n with
  | true => simp only [bP,hx,cond_true]; trivial
  | false =>
   have hn := lN hx
   simp only [bP,hx,cond_false]
   rcases hp with ⟨h1,h2,h3,h4⟩ | hz | ⟨b,cap,cur,e,h1,h2,h3,h4,h5,h6⟩
   ·exact .inl ⟨(h.names n hn).trans h1,h2,h3,h4⟩
   ·exact .inr (.inl hz)
   ·obtain ⟨cur',k2,k3⟩ := h.own' hw hn h1 h2
    exact .inr (.inr ⟨b,cap,cur',e,(h.names n hn).trans h1,k2,h3,h4,h5.trans k3.symm,h6⟩)
 | pl n off =>
  cases hx : X.elem n with
  | true => simp only [bP,hx,cond_true]; trivial
  | false =>
   have hn := lN hx
   simp only [bP,hx,cond_false]
   obtain ⟨b,h1,h2⟩ := hp
   exact ⟨b,(h.names n hn).trans h1,h2⟩
 | fn f caps =>
  cases hx : caps.any X.elem with
  | true => simp only [bP,hx,cond_true]; trivial
  | false =>
   simp only [bP,hx,cond_false]
   obtain ⟨vs,h1,h2,h3⟩ := hp
   refine ⟨vs,h1,h2,fun k n hk => ?_⟩
   obtain ⟨b,k1,k2⟩ := h3 k n hk
   have hn : n ∉ X := lN (by
    have := List.any_eq_false.1 hx n (List.mem_of_getElem? hk)
    simpa using this)
   exact ⟨b,(h.names n hn).trans k1,k2⟩
 | mref n =>
  cases hx : X.elem n with
  | true => simp only [bP,hx,cond_true]; trivial
  | false =>
   have hn := lN hx
   simp only [bP,hx,cond_false]
   obtain ⟨b,h1,h2⟩ := hp
   exact ⟨b,(h.names n hn).trans h1,h2⟩
 | tl p k off len =>
  cases hx : X.elem p with
  | true => simp only [bP,hx,cond_true]; trivial
  | false =>
   have hn := lN hx
   simp only [bP,hx,cond_false]
   rcases hp with ⟨h1,h2,h3,h4⟩ | hz | ⟨b,cap,cur,e,h1,h2,h3,h4,h5,h6⟩
   ·exact .inl ⟨by rw [h.names p hn]; exact h1,h2,h3,h4⟩
   ·exact .inr (.inl hz)
   ·obtain ⟨cur',k2,k3⟩ := h.LG hw hn (GS.JG h1) h2
    exact .inr (.inr ⟨b,cap,cur',e,by rw [h.names p hn]; exact h1,k2,h3,h4,h5.trans k3.symm,h6⟩)
 | tpl p k off =>
  cases hx : X.elem p with
  | true => simp only [bP,hx,cond_true]; trivial
  | false =>
   have hn := lN hx
   simp only [bP,hx,cond_false]
   obtain ⟨b,h1,h2⟩ := hp
   exact ⟨b,by rw [h.names p hn]; exact h1,h2⟩
 | junk => trivial
theorem fG.rc (h : fG R B g w W X R' B' g' w') (hw : WF R B g w) {x : CV} {v : Value} (hp : RC P w R B g x v) : RC P w' R' B' g' (bP X x) v := ⟨hp.1,h.rc0 hw hp.2⟩
theorem fG.rs (h : fG R B g w W X R' B' g' w') (hw : WF R B g w) {x : SV} {v : Value} (hp : RS P w R B g x v) : RS P w' R' B' g' (mF X x) v := by
 cases x with
 | c x => exact h.rc hw hp
 | agg cells =>
  obtain ⟨vs,rfl,hl,hc⟩ := hp
  refine ⟨vs,rfl,by simpa using hl,fun k x hk => ?_⟩
  rw [List.getElem?_map] at hk
  cases hx : cells[k]? with
  | none => rw [hx] at hk; cases hk
  | some y =>
   rw [hx] at hk
   injection hk with hk
   subst hk
   obtain ⟨u,hu,hr⟩ := hc k y hx
   exact ⟨u,hu,h.rc hw hr⟩
theorem fG.ra (h : fG R B g w W X R' B' g' w') (hw : WF R B g w) {x : AV} {v : Value} (hp : RA P w R B g x v) : RA P w' R' B' g' (lF X x) v := by
 cases x with
 | s x => exact h.rs hw hp
 | dI xs =>
  obtain ⟨vs,rfl,hl,hc⟩ := hp
  refine ⟨vs,rfl,by simpa using hl,fun k x hk => ?_⟩
  rw [List.getElem?_map] at hk
  cases hx : xs[k]? with
  | none => rw [hx] at hk; cases hk
  | some y =>
   rw [hx] at hk
   injection hk with hk
   subst hk
   obtain ⟨u,hu,hr⟩ := hc k y hx
   exact ⟨u,hu,h.rs hw hr⟩
theorem fG.row (h : fG R B g w W X R' B' g' w') (hw : WF R B g w) {n : Nat} (hn : n ∉ X) (kW : n ∉ W) {e : TypeId} {els : List (List CV)} (hp : dh P w R B g n e els) : dh P w' R' B' g' n e (els.map (·.map (bP X))) := by
 rcases hp with ⟨h1,h2⟩ | ⟨b,cur,h1,h2,h3,h4,h5⟩
 ·exact .inl ⟨(h.names n hn).trans h1,by simp [h2]⟩
 ·obtain ⟨k1,k2⟩ := h.own hw hn kW h1
  refine .inr ⟨b,cur,k1,k2.trans h2,fun cs hcs => ?_,by simpa using h4,fun j k cs x hj hk => ?_⟩
  ·obtain ⟨cs0,hm,rfl⟩ := List.mem_map.1 hcs
   simpa using h3 cs0 hm
  ·rw [List.getElem?_map] at hj
   cases hx : els[j]? with
   | none => rw [hx] at hj; cases hj
   | some y =>
    rw [hx] at hj
    injection hj with hj
    subst hj
    rw [List.getElem?_map] at hk
    cases hz : y[k]? with
    | none => rw [hz] at hk; cases hk
    | some z =>
     rw [hz] at hk
     injection hk with hk
     subst hk
     obtain ⟨u,hu,hr⟩ := h5 j k y z hx hz
     exact ⟨u,hu,h.rc hw hr⟩
theorem EN (X : List Nat) (els : List (List PV)) : (dG els).map (·.map (bP X)) = dG els := by
 simp [dG,bP,Function.comp_def]
theorem MG {X : List Nat} {p : Nat} (hx : X.elem p = false) (lens : List Nat) : (lJ p lens).map (·.map (bP X)) = lJ p lens := by
 refine List.ext_getElem? fun j => ?_
 simp only [lJ,List.getElem?_map,List.getElem?_mapIdx,Option.map_map]
 cases lens[j]? with
 | none => rfl
 | some l => simp only [Option.map_some,Function.comp,List.map_cons,List.map_nil,bP,hx,cond_false]
theorem fG.ro (h : fG R B g w W X R' B' g' w') (hw : WF R B g w) {n : Nat} (hn : n ∉ X) (kW : n ∉ W) {o : Ob} (hp : RO P w R B g n o) : RO P w' R' B' g' n (jU X o) := by
 cases o with
 | row e els => exact h.row hw hn kW hp
 | dU e els =>
  have := h.row hw hn kW (els := dG els) hp
  rwa [EN] at this
 | mp es =>
  obtain ⟨b,lU,clock,h1,h2,h3⟩ := hp
  obtain ⟨k1,k2⟩ := h.own hw hn kW h1
  exact ⟨b,lU,clock,k1,k2.trans h2,h3⟩
 | pool e rows =>
  obtain ⟨⟨bs,h1,h2⟩,h3⟩ := hp
  refine ⟨⟨bs,(h.names n hn).trans h1,h2⟩,fun k els hk => ?_⟩
  rw [h.names n hn]
  rcases h3 k els hk with hnil | ⟨b,cur,k1,k2,k3,k4,k5⟩
  ·exact .inl hnil
  ·refine .inr ⟨b,cur,k1,(h.jW hw kW (GS.JG k1)).trans k2,k3,k4,fun j i cs x hj hi => ?_⟩
   obtain ⟨u,hu,hr⟩ := k5 j i cs x hj hi
   exact ⟨u,hu,h.pv hw hr⟩
 | iY e p lens =>
  have := h.row hw hn kW (els := lJ p lens) hp
  show RO P w' R' B' g' n (bif X.elem p then .unk else .iY e p lens)
  cases hx : X.elem p with
  | true => trivial
  | false =>
   rw [MG hx] at this
   exact this
 | unk => trivial
end
end Go.Fw
end
section
set_option linter.unusedVariables false
set_option linter.unusedSimpArgs false
set_option linter.unnecessarySimpa false
namespace Go.Fw
def lk {α : Type} : List (Nat × α) → Nat → Option α
 | [],_ => none
 | (k,v) :: r,t => bif Nat.beq k t then some v else lk r t
structure Ctx where
 w0 : World
 U0 : Nat → Prop
 R0 : Nat → Prop
 g0 : Nat → GS
 N : Nat
 pn : List Nat
structure St (P : Program) (C : Ctx) (σ : Slots) (m : Mem) (R B : Nat → Prop) (g : Nat → GS) (a : Act) (w : World) : Prop where
 wf : WF R B g w
 nd : a.defers = []
 sz : a.tmps.size = C.N
 sl : ∀ t v,lk σ t = some v → RA P w R B g v (a.tmps.getD t undef)
 ob : ∀ n o,lk m n = some o → RO P w R B g n o
 ow : ∀ n o b,lk m n = some o → (g n).has b → C.w0.heap.size ≤ b ∨ C.U0 b
 perm : ∀ b,R b → C.R0 b ∨ C.w0.heap.size ≤ b
 r0 : ∀ b,C.R0 b → R b
 os : w.os = C.w0.os
 tape : w.tape = C.w0.tape
 output : w.output = C.w0.output
 size : C.w0.heap.size ≤ w.heap.size
 heap : ∀ b,b < C.w0.heap.size → ¬ C.U0 b → w.heap[b]? = C.w0.heap[b]?
 pin : ∀ n ∈ C.pn,g n = C.g0 n
 SY : ∀ n ∈ C.pn,∀ b cur e,(C.g0 n).has b → C.w0.heap[b]? = some (.cells cur e (0,0)) → ∃ cur',w.heap[b]? = some (.cells cur' e (0,0)) ∧ cur'.size = cur.size
def LT (P : Program) (o : Oper) (ins : List (Operand × AV)) (us : Mem) (v : AV) (df : Mem) (W X : List Nat) : Prop :=
 ∀ (R B : Nat → Prop) (g : Nat → GS) (w : World) (a : Act),WF R B g w → (∀ p ∈ ins,RA P w R B g p.2 (a.eval p.1)) → (∀ p ∈ us,RO P w R B g p.1 p.2) →
  ∀ (K : Act → World → Prop) (Q : Exit → Act → World → Prop),
   (∀ u R' B' g' w',fG R B g w W X R' B' g' w' → (∀ b,R' b → R b ∨ w.heap.size ≤ b) → (o.dst.isSome = true → RA P w' R' B' g' v u) → (∀ p ∈ df,RO P w' R' B' g' p.1 p.2) → K (a.put o.dst u) w') → o.wp P a w K Q
def dW (σ : Slots) : Operand → AV → Prop
 | .tmp t,v => lk σ t = some v
 | .const c,v => v = .s (.c (.pv (.sc c))) ∧ c.oneCell' = true
 | .func f,v => v = .s (.c (.fn f []))
 | .global _,_ => False
def EvL (σ : Slots) : List (Operand × AV) → Prop
 | [] => True
 | (x,v) :: r => dW σ x v ∧ EvL σ r
def lK (m : Mem) : Mem → Prop
 | [] => True
 | (n,o) :: r => lk m n = some o ∧ lK m r
def dX (σ : Slots) (d : Option Tmp) (v : AV) : Slots := match d with
 | some t => (t,v) :: σ
 | none => σ
def eX (N : Nat) (d : Option Tmp) : Bool := match d with
 | some t => Nat.blt t N
 | none => true
section
variable {P : Program} {C : Ctx} {σ σ' : Slots} {m m' : Mem} {R B : Nat → Prop} {g : Nat → GS} {a : Act} {w : World}
theorem dW.ra (hs : St P C σ m R B g a w) {x : Operand} {v : AV} (h : dW σ x v) : RA P w R B g v (a.eval x) := by
 cases x with
 | tmp t => exact hs.sl t v h
 | const c =>
  obtain ⟨rfl,h1⟩ := h
  exact ⟨h1,.sc h1⟩
 | func f =>
  subst h
  exact ⟨rfl,[],rfl,rfl,fun k n hk => by simp at hk⟩
 | global n => exact h.elim
theorem EvL.ra (hs : St P C σ m R B g a w) : ∀ {ins : List (Operand × AV)},EvL σ ins → ∀ p ∈ ins,RA P w R B g p.2 (a.eval p.1)
 | [],_,p,hp => by cases hp
 | (x,v) :: r,h,p,hp => by
  cases hp with
  | head => exact dW.ra hs h.1
  | tail _ hp => exact EvL.ra hs h.2 p hp
theorem lK.ro (hs : St P C σ m R B g a w) : ∀ {us : Mem},lK m us → ∀ p ∈ us,RO P w R B g p.1 p.2 ∧ lk m p.1 = some p.2
 | [],_,p,hp => by cases hp
 | (n,o) :: r,h,p,hp => by
  cases hp with
  | head => exact ⟨hs.ob n o h.1,h.1⟩
  | tail _ hp => exact lK.ro hs h.2 p hp
theorem DK (X : List Nat) : ∀ (σ : Slots) (t : Nat),lk (jw X σ) t = (lk σ t).map (lF X)
 | [],_ => rfl
 | (k,v) :: r,t => by
  show (bif Nat.beq k t then some (lF X v) else lk (jw X r) t) = Option.map (lF X) (bif Nat.beq k t then some v else lk r t)
  cases Nat.beq k t
  ·exact DK X r t
  ·rfl
theorem F6 (X : List Nat) : ∀ (m : Mem) (n : Nat) (o : Ob),lk (iF X m) n = some o → n ∉ X ∧ ∃ o0,lk m n = some o0 ∧ o = jU X o0
 | [],_,_,h => by cases h
 | (k,v) :: r,n,o,h => by
  unfold iF at h
  cases hk : X.elem k with
  | true =>
   rw [hk,cond_true] at h
   obtain ⟨h1,o0,h2,h3⟩ := F6 X r n o h
   refine ⟨h1,o0,?_,h3⟩
   show (bif Nat.beq k n then some v else lk r n) = some o0
   cases hb : Nat.beq k n with
   | false => exact h2
   | true =>
    have := Nat.eq_of_beq_eq_true hb
    subst this
    exact absurd (List.mem_of_elem_eq_true hk) h1
  | false =>
   rw [hk,cond_false] at h
   change (bif Nat.beq k n then some (jU X v) else lk (iF X r) n) = some o at h
   show n ∉ X ∧ ∃ o0,(bif Nat.beq k n then some v else lk r n) = some o0 ∧ o = jU X o0
   cases hb : Nat.beq k n with
   | false =>
    rw [hb] at h
    exact F6 X r n o h
   | true =>
    rw [hb,cond_true] at h
    have := Nat.eq_of_beq_eq_true hb
    subst this
    injection h with h
    exact ⟨lN hk,v,rfl,h.symm⟩
theorem KY {α : Type} : ∀ (x y : List (Nat × α)) (n : Nat) (o : α),lk (x ++ y) n = some o → (∃ p ∈ x,p.1 = n ∧ p.2 = o) ∨ (n ∉ x.map (·.1) ∧ lk y n = some o)
 | [],_,_,_,h => .inr ⟨by simp,h⟩
 | (k,v) :: r,y,n,o,h => by
  change (bif Nat.beq k n then some v else lk (r ++ y) n) = some o at h
  cases hb : Nat.beq k n with
  | true =>
   rw [hb,cond_true] at h
   injection h with h
   exact .inl ⟨(k,v),List.mem_cons_self,Nat.eq_of_beq_eq_true hb,h⟩
  | false =>
   rw [hb,cond_false] at h
   rcases KY r y n o h with ⟨p,hp,h1,h2⟩ | ⟨h0,h1⟩
   ·exact .inl ⟨p,List.mem_cons_of_mem _ hp,h1,h2⟩
   ·refine .inr ⟨fun hm => ?_,h1⟩
    cases hm with
    | head => exact Nat.ne_of_beq_eq_false hb rfl
    | tail _ hm => exact h0 hm
theorem I9 (a : Act) (d t : Nat) (u : Value) (hd : d < a.tmps.size) : (a.put (some d) u).tmps.getD t undef = if d = t then u else a.tmps.getD t undef := by
 show (a.tmps.setIfInBounds d u).getD t undef = _
 simp only [Array.getD_eq_getD_getElem?,Array.getElem?_setIfInBounds]
 split
 ·subst_vars; simp [hd]
 ·rfl
theorem LW (a : Act) (d : Option Tmp) (u : Value) : (a.put d u).tmps.size = a.tmps.size := by cases d <;> simp [Act.put]
theorem LV (a : Act) (d : Option Tmp) (u : Value) : (a.put d u).defers = a.defers := by cases d <;> rfl
theorem St.step (hs : St P C σ m R B g a w) {us df : Mem} {W X : List Nat} {d : Option Tmp} {v : AV} {u : Value} {R' B' : Nat → Prop} {g' : Nat → GS} {w' : World}
  (hus : lK m us) (hW : ∀ n ∈ W,(n ∈ X ∨ n ∈ df.map (·.1)) ∧ ∃ o,(n,o) ∈ us) (hdf : ∀ p ∈ df,p.1 ∈ X ∨ p.1 ∈ W) (hd : eX C.N d = true) (hpn : ∀ n ∈ X,n ∉ C.pn)
  (had : fG R B g w W X R' B' g' w') (hR : ∀ b,R' b → R b ∨ w.heap.size ≤ b) (hv : d.isSome = true → RA P w' R' B' g' v u) (hob : ∀ p ∈ df,RO P w' R' B' g' p.1 p.2) :
  St P C (dX (jw X σ) d v) (df ++ iF X m) R' B' g' (a.put d u) w' := by
 have JC : ∀ n ∈ W,∀ b,(g n).has b → C.w0.heap.size ≤ b ∨ C.U0 b := fun n hn b hb => by
  obtain ⟨_,o,ho⟩ := hW n hn
  exact hs.ow n o b (lK.ro hs hus (n,o) ho).2 hb
 refine ⟨had.wf,(LV a d u).trans hs.nd,(LW a d u).trans hs.sz,fun t v' ht => ?_,fun n o hn => ?_,fun n o b hn hb => ?_,fun b hb => ?_,fun b hb => had.r b (hs.r0 b hb),had.os.trans hs.os,had.tape.trans hs.tape,
  had.output.trans hs.output,Nat.le_trans hs.size had.size,fun b hb hu => ?_,fun n hn => (had.names n fun h => hpn n h hn).trans (hs.pin n hn),fun n hn b cur e hg hh => ?_⟩
 ·have base : ∀ t v',lk (jw X σ) t = some v' → RA P w' R' B' g' v' (a.tmps.getD t undef) := fun t v' ht => by
   rw [DK] at ht
   cases hl : lk σ t with
   | none => rw [hl] at ht; cases ht
   | some v0 =>
    rw [hl] at ht
    injection ht with ht
    subst ht
    exact had.ra hs.wf (hs.sl t v0 hl)
  cases d with
  | none => exact base t v' ht
  | some d =>
   have hlt : d < a.tmps.size := by rw [hs.sz]; exact Nat.le_of_ble_eq_true hd
   rw [I9 a d t u hlt]
   change (bif Nat.beq d t then some v else lk (jw X σ) t) = some v' at ht
   cases hb : Nat.beq d t with
   | true =>
    rw [hb,cond_true] at ht
    injection ht with ht
    subst ht
    rw [if_pos (Nat.eq_of_beq_eq_true hb)]
    exact hv rfl
   | false =>
    rw [hb,cond_false] at ht
    rw [if_neg (Nat.ne_of_beq_eq_false hb)]
    exact base t v' ht
 ·rcases KY _ _ _ _ hn with ⟨p,hp,h1,h2⟩ | ⟨hnd,h1⟩
  ·subst h1; subst h2; exact hob p hp
  ·obtain ⟨h2,o0,h3,h4⟩ := F6 X m n o h1
   subst h4
   exact had.ro hs.wf h2 (fun kW => by
    rcases (hW n kW).1 with h5 | h5
    ·exact h2 h5
    ·exact hnd h5) (hs.ob n o0 h3)
 ·rcases KY _ _ _ _ hn with ⟨p,hp,h1,h2⟩ | ⟨hnd,h1⟩
  ·subst h1
   by_cases hX : p.1 ∈ X
   ·rcases had.fresh p.1 hX b hb with h3 | ⟨k,hk,h3⟩
    ·exact .inl (Nat.le_trans hs.size h3)
    ·exact JC k hk b h3
   ·rw [had.names p.1 hX] at hb
    exact JC p.1 ((hdf p hp).resolve_left hX) b hb
  ·obtain ⟨h2,o0,h3,_⟩ := F6 X m n o h1
   rw [had.names n h2] at hb
   exact hs.ow n o0 b h3 hb
 ·rcases hR b hb with h1 | h1
  ·exact hs.perm b h1
  ·exact .inr (Nat.le_trans hs.size h1)
 ·rw [had.heap b (Nat.lt_of_lt_of_le hb hs.size) fun n hn he => by
   rcases JC n hn b he with h1 | h1
   ·omega
   ·exact hu h1]
  exact hs.heap b hb hu
 ·obtain ⟨c1,h1,h2⟩ := hs.SY n hn b cur e hg hh
  obtain ⟨c2,h3,h4⟩ := had.LG hs.wf (fun h => hpn n h hn) (by rw [hs.pin n hn]; exact hg) h1
  exact ⟨c2,h3,h4.trans h2⟩
theorem St.weak (hs : St P C σ m R B g a w) (h1 : ∀ t v,lk σ' t = some v → lk σ t = some v) (h2 : ∀ n o,lk m' n = some o → lk m n = some o) : St P C σ' m' R B g a w :=
 { hs with sl := fun t v h => hs.sl t v (h1 t v h),ob := fun n o h => hs.ob n o (h2 n o h),ow := fun n o b h => hs.ow n o b (h2 n o h) }
end
inductive It where
 | code (c : Code)
 | blk (id : Nat)
abbrev Post := Exit → Slots → Mem → Prop
def lift (P : Program) (C : Ctx) (Q : Post) (e : Exit) (a : Act) (w : World) : Prop := ∃ σ m R B g,St P C σ m R B g a w ∧ Q e σ m
def kI (P : Program) (Q : Exit → Act → World → Prop) : List It → Exit → Act → World → Prop
 | [],e,a,w => Q e a w
 | .code c :: is,e,a,w => match e with
  | .normal => c.wp P (kI P Q is) a w
  | e => kI P Q is e a w
 | .blk id :: is,e,a,w => match e with
  | .exit id' => if id' = id then kI P Q is .normal a w else kI P Q is (.exit id') a w
  | e => kI P Q is e a w
def fC (P : Program) (C : Ctx) (is : List It) (e : Exit) (σ : Slots) (m : Mem) (Q : Post) : Prop :=
 ∀ R B g a w,St P C σ m R B g a w → kI P (lift P C Q) is e a w
abbrev gG (P : Program) (C : Ctx) (is : List It) (σ : Slots) (m : Mem) (Q : Post) : Prop := fC P C is .normal σ m Q
def pG (P : Program) (C : Ctx) (ops : Array Oper) (rest : List Oper) (is : List It) (σ : Slots) (m : Mem) (Q : Post) : Prop :=
 ∀ R B g a w,St P C σ m R B g a w → wpList P ops (kI P (lift P C Q) is) rest a w
def aU (P : Program) (C : Ctx) (σ : Slots) (m : Mem) (σ' : Slots) (m' : Mem) : Prop :=
 ∀ R B g a w,St P C σ m R B g a w → ∃ R' B' g',St P C σ' m' R' B' g' a w
def aB {τ : Type} (P : Program) (C : Ctx) (is : List It) (σ : Slots) (m : Mem) (M : Option τ) (K : τ → Post) : Prop := ∀ t,M = some t → gG P C is σ m (K t)
def UR {τ : Type} (P : Program) (C : Ctx) (is : List It) (e : Exit) (σ : Slots) (m : Mem) (M : Option τ) (K : τ → Post) : Prop := ∀ t,M = some t → fC P C is e σ m (K t)
def aS {τ : Type} (P : Program) (C : Ctx) (ops : Array Oper) (rest : List Oper) (is : List It) (σ : Slots) (m : Mem) (M : Option τ) (K : τ → Post) : Prop := ∀ t,M = some t → pG P C ops rest is σ m (K t)
def bZ {σ τ : Type} (b : σ → Option (σ ⊕ τ)) : Nat → σ → Option τ
 | 0,_ => none
 | n + 1,s => match b s with
  | none => none
  | some (.inl s') => bZ b n s'
  | some (.inr t) => some t
section
variable {P : Program} {C : Ctx} {σ σ' : Slots} {m m' : Mem} {is : List It} {Q : Post} {ops : Array Oper} {rest : List Oper} {τ υ : Type} {M : Option τ} {K : τ → Post}
theorem fC.ent {e : Exit} (h : aU P C σ m σ' m') (k : fC P C is e σ' m' Q) : fC P C is e σ m Q := fun R B g a w hs => by
 obtain ⟨R',B',g',hs'⟩ := h R B g a w hs
 exact k _ _ _ _ _ hs'
theorem gG.nil (h : Q .normal σ m) : gG P C [] σ m Q := fun R B g a w hs => ⟨σ,m,R,B,g,hs,h⟩
theorem gG.skip (h : gG P C is σ m Q) : gG P C (.code .skip :: is) σ m Q := fun R B g a w hs => wp_skip (h R B g a w hs)
theorem gG.blk {id : Nat} (h : gG P C is σ m Q) : gG P C (.blk id :: is) σ m Q := fun R B g a w hs => h R B g a w hs
theorem gG.seq {x y : Code} (h : gG P C (.code x :: .code y :: is) σ m Q) : gG P C (.code (.seq x y) :: is) σ m Q := fun R B g a w hs =>
 wp_seq (wp_mono (h R B g a w hs) fun e a w he => by cases e <;> exact he)
theorem gG.block {id : Nat} {c : Code} (h : gG P C (.code c :: .blk id :: is) σ m Q) : gG P C (.code (.block id c) :: is) σ m Q := fun R B g a w hs =>
 wp_block (wp_mono (h R B g a w hs) fun e a w he => by
  cases e with
  | exit id' =>
   exact he
  | _ => exact he)
theorem gG.exit {id : Nat} (h : fC P C is (.exit id) σ m Q) : gG P C (.code (.exit id) :: is) σ m Q := fun R B g a w hs => wp_exit (h R B g a w hs)
theorem gG.ret (h : fC P C is .ret σ m Q) : gG P C (.code .ret :: is) σ m Q := fun R B g a w hs => wp_ret (h R B g a w hs)
theorem fC.nil {e : Exit} (h : Q e σ m) : fC P C [] e σ m Q := fun R B g a w hs => ⟨σ,m,R,B,g,hs,h⟩
theorem fC.V8 {id : Nat} (h : gG P C is σ m Q) : fC P C (.blk id :: is) (.exit id) σ m Q := fun R B g a w hs => by
 show (if id = id then _ else _)
 rw [if_pos rfl]
 exact h R B g a w hs
theorem fC.Oz {id id' : Nat} (hne : id' ≠ id) (h : fC P C is (.exit id') σ m Q) : fC P C (.blk id :: is) (.exit id') σ m Q := fun R B g a w hs => by
 show (if id' = id then _ else _)
 rw [if_neg hne]
 exact h R B g a w hs
theorem fC.Oy {id : Nat} {c : Code} (h : fC P C is (.exit id) σ m Q) : fC P C (.code c :: is) (.exit id) σ m Q := fun R B g a w hs => h R B g a w hs
theorem fC.aAW {id : Nat} (h : fC P C is .ret σ m Q) : fC P C (.blk id :: is) .ret σ m Q := fun R B g a w hs => h R B g a w hs
theorem fC.aAX {c : Code} (h : fC P C is .ret σ m Q) : fC P C (.code c :: is) .ret σ m Q := fun R B g a w hs => h R B g a w hs
def wU (id : Nat) : List It → List It
 | [] => []
 | .code _ :: is => wU id is
 | .blk i :: is => bif Nat.beq i id then is else wU id is
def rG (id : Nat) : List It → Bool
 | [] => false
 | .code _ :: is => rG id is
 | .blk i :: is => Nat.beq i id || rG id is
theorem fC.Bg {id : Nat} : ∀ {is : List It},rG id is = true → gG P C (wU id is) σ m Q → fC P C is (.exit id) σ m Q
 | [],h,_ => by cases h
 | .code c :: is,h,k => fC.Oy (fC.Bg (is := is) h k)
 | .blk i :: is,h,k => by
  unfold rG at h
  unfold wU at k
  cases hb : Nat.beq i id with
  | true =>
   rw [hb,cond_true] at k
   have := Nat.eq_of_beq_eq_true hb
   subst this
   exact fC.V8 k
  | false =>
   rw [hb,cond_false] at k
   rw [hb,Bool.false_or] at h
   exact fC.Oz (Ne.symm (Nat.ne_of_beq_eq_false hb)) (fC.Bg (is := is) h k)
theorem fC.ES : ∀ {is : List It},Q .ret σ m → fC P C is .ret σ m Q
 | [],h => fC.nil h
 | .code _ :: is,h => fC.aAX (fC.ES (is := is) h)
 | .blk _ :: is,h => fC.aAW (fC.ES (is := is) h)
theorem gG.cond {c : Operand} {x y : Code} {b : Bool} (hc : dW σ c (.s (.c (.pv (.sc (.bool b)))))) (ht : b = true → gG P C (.code x :: is) σ m Q) (hf : b = false → gG P C (.code y :: is) σ m Q) :
  gG P C (.code (.cond c x y) :: is) σ m Q := fun R B g a w hs => by
 have hv := dW.ra hs hc
 have he : a.eval c = .bool b := by
  obtain ⟨_,h2⟩ := hv
  generalize a.eval c = v at h2
  cases h2
  rfl
 refine wp_cond_split he (fun h => ?_) (fun h => ?_)
 ·exact ht h R B g a w hs
 ·exact hf h R B g a w hs
theorem gG.region {id : Nat} {l : List Oper} (h : pG P C l.toArray l is σ m Q) : gG P C (.code (.region id l.toArray false) :: is) σ m Q := fun R B g a w hs => wp_region_lit (h R B g a w hs)
theorem pG.nil (h : gG P C is σ m Q) : pG P C ops [] is σ m Q := fun R B g a w hs => wpList_nil (h R B g a w hs)
def eP (W X : List Nat) : Bool := W.all X.elem
def kH (X Y : List Nat) : Bool := X.all fun n => !Y.elem n
theorem FK {X Y : List Nat} (h : kH X Y = true) : ∀ n ∈ X,n ∉ Y := fun n hn => by
 have := List.all_eq_true.1 h n hn
 exact lN (by simpa using this)
def keys {α : Type} (l : List (Nat × α)) : List Nat := l.map (·.1)
theorem qF {W X : List Nat} (h : eP W X = true) : ∀ n ∈ W,n ∈ X := fun n hn => List.mem_of_elem_eq_true (List.all_eq_true.1 h n hn)
theorem mem_keys {α : Type} {l : List (Nat × α)} {n : Nat} (h : n ∈ keys l) : ∃ o,(n,o) ∈ l := by
 obtain ⟨p,hp,rfl⟩ := List.mem_map.1 h
 exact ⟨p.2,hp⟩
def eu (ops : Array Oper) (σ : Slots) (o : Oper) (b : Bool) : Prop := match o.guard with
 | none => b = true
 | some (j,want) => ∃ d,(ops[j]?).bind (·.dst) = some d ∧ ((∃ c,lk σ d = some (.s (.c (.pv (.sc (.bool c))))) ∧ b = (c == want)) ∨ (lk σ d = some (.dI []) ∧ b = false))
theorem eu.wanted {o : Oper} {b : Bool} {R B : Nat → Prop} {g : Nat → GS} {a : Act} {w : World} (hs : St P C σ m R B g a w) (h : eu ops σ o b) : Region.wanted o (yielded ops a.tmps) = b := by
 unfold eu at h
 unfold Region.wanted
 split at h
 ·rename_i hg; rw [hg]; exact h.symm
 ·rename_i j want hg
  obtain ⟨d,h1,⟨c,h2,h3⟩ | ⟨h2,h3⟩⟩ := h
  ·rw [hg]
   have hv := hs.sl d _ h2
   have he : a.tmps.getD d undef = .bool c := by
    obtain ⟨_,hv⟩ := hv
    generalize a.tmps.getD d undef = v at hv
    cases hv
    rfl
   have he' : a.tmps[d]? = some (.bool c) := by
    rw [Array.getD_eq_getD_getElem?] at he
    cases hx : a.tmps[d]? with
    | none => rw [hx] at he; simp [undef] at he
    | some v => rw [hx] at he; simpa using he
   have hy : yielded ops a.tmps j = some c := by
    unfold yielded
    rw [h1]
    simp [he']
   simp only [hy]
   rw [h3]
   cases c <;> cases want <;> rfl
  ·rw [hg]
   obtain ⟨vs,hv,hl,_⟩ := hs.sl d _ h2
   have hvs : vs = [] := List.eq_nil_of_length_eq_zero hl
   subst hvs
   have hy : yielded ops a.tmps j = none := by
    unfold yielded
    rw [h1]
    simp only [Option.bind_some]
    rw [Array.getD_eq_getD_getElem?] at hv
    cases hx : a.tmps[d]? with
    | none => rfl
    | some v =>
     rw [hx] at hv
     have : v = .tuple #[] := by simpa using hv
     subst this
     rfl
   simp only [hy]
   rw [h3]
   rfl
theorem pG.step {o : Oper} {ins : List (Operand × AV)} {us df : Mem} {v : AV} {W X : List Nat} (hlt : LT P o ins us v df W X) (hi : EvL σ ins) (hu : lK m us) (hg : eu ops σ o true)
  (hside : (eX C.N o.dst && eP W (X ++ keys df) && eP W (keys us) && eP (keys df) (X ++ W) && kH X C.pn) = true) (h : pG P C ops rest is (dX (jw X σ) o.dst v) (df ++ iF X m) Q) : pG P C ops (o :: rest) is σ m Q := fun R B g a w hs => by
 simp only [Bool.and_eq_true] at hside
 obtain ⟨⟨⟨⟨h1,h2⟩,h3⟩,h4⟩,h5⟩ := hside
 refine wpList_step fun K' hK' => ?_
 rw [if_pos (hg.wanted hs)]
 refine hlt R B g w a hs.wf (EvL.ra hs hi) (fun p hp => (lK.ro hs hu p hp).1) K' _ fun u R' B' g' w' had hR hv hob => ?_
 exact hK' _ _ (h _ _ _ _ _ (hs.step hu (fun n hn => ⟨List.mem_append.1 (qF h2 n hn),mem_keys (qF h3 n hn)⟩) (fun p hp => List.mem_append.1 (qF h4 p.1 (List.mem_map.2 ⟨p,hp,rfl⟩))) h1 (FK h5) had hR hv hob))
theorem pG.skip {o : Oper} (hg : eu ops σ o false) (hd : eX C.N o.dst = true) (h : pG P C ops rest is (dX σ o.dst (.dI [])) m Q) : pG P C ops (o :: rest) is σ m Q := fun R B g a w hs => by
 refine wpList_step fun K' hK' => ?_
 rw [if_neg (by rw [hg.wanted hs]; exact Bool.false_ne_true)]
 refine hK' _ _ (h R B g _ w ?_)
 refine { hs with nd := (LV a _ _).trans hs.nd,sz := (LW a _ _).trans hs.sz,sl := fun t v ht => ?_ }
 cases hdst : o.dst with
 | none => rw [hdst] at ht; exact hs.sl t v ht
 | some d =>
  rw [hdst] at ht hd
  have hlt : d < a.tmps.size := by rw [hs.sz]; exact Nat.le_of_ble_eq_true hd
  rw [I9 a d t undef hlt]
  change (bif Nat.beq d t then some (AV.dI []) else lk σ t) = some v at ht
  cases hb : Nat.beq d t with
  | true =>
   rw [hb,cond_true] at ht
   injection ht with ht
   subst ht
   rw [if_pos (Nat.eq_of_beq_eq_true hb)]
   exact ⟨[],rfl,rfl,fun k x hk => by simp at hk⟩
  | false =>
   rw [hb,cond_false] at ht
   rw [if_neg (Nat.ne_of_beq_eq_false hb)]
   exact hs.sl t v ht
theorem aB.of (h : ∀ t,M = some t → gG P C is σ m (K t)) : aB P C is σ m M K := h
theorem aB.seq {x y : Code} (h : aB P C (.code x :: .code y :: is) σ m M K) : aB P C (.code (.seq x y) :: is) σ m M K := fun t ht => gG.seq (h t ht)
theorem aB.skip (h : aB P C is σ m M K) : aB P C (.code .skip :: is) σ m M K := fun t ht => gG.skip (h t ht)
theorem aB.blk {id : Nat} (h : aB P C is σ m M K) : aB P C (.blk id :: is) σ m M K := fun t ht => gG.blk (h t ht)
theorem aB.block {id : Nat} {c : Code} (h : aB P C (.code c :: .blk id :: is) σ m M K) : aB P C (.code (.block id c) :: is) σ m M K := fun t ht => gG.block (h t ht)
theorem aB.exit {id : Nat} (hb : rG id is = true) (h : aB P C (wU id is) σ m M K) : aB P C (.code (.exit id) :: is) σ m M K := fun t ht => gG.exit (fC.Bg hb (h t ht))
theorem aB.V9 {id : Nat} {t : τ} (h : fC P C is (.exit id) σ m (K t)) : aB P C (.code (.exit id) :: is) σ m (some t) K := fun t' ht => by
 injection ht with ht
 subst ht
 exact gG.exit h
theorem aB.ret {t : τ} (h : K t .ret σ m) : aB P C (.code .ret :: is) σ m (some t) K := fun t' ht => by
 injection ht with ht
 subst ht
 exact gG.ret (fC.ES h)
theorem aB.nil {t : τ} (h : K t .normal σ m) : aB P C [] σ m (some t) K := fun t' ht => by
 injection ht with ht
 subst ht
 exact gG.nil h
theorem aB.region {id : Nat} {l : List Oper} (h : aS P C l.toArray l is σ m M K) : aB P C (.code (.region id l.toArray false) :: is) σ m M K := fun t ht => gG.region (h t ht)
theorem aB.ent (h : aU P C σ m σ' m') (k : aB P C is σ' m' M K) : aB P C is σ m M K := fun t ht => fC.ent h (k t ht)
theorem aB.bind {x : Option υ} {f : υ → Option τ} (h : ∀ u,x = some u → aB P C is σ m (f u) K) : aB P C is σ m (x.bind f) K := fun t ht => by
 obtain ⟨u,hu,hf⟩ := Option.bind_eq_some_iff.1 ht
 exact h u hu t hf
theorem aB.cond {c : Operand} {x y : Code} {b : Bool} {M1 M2 : Option τ} (hc : dW σ c (.s (.c (.pv (.sc (.bool b)))))) (ht : b = true → aB P C (.code x :: is) σ m M1 K)
  (hf : b = false → aB P C (.code y :: is) σ m M2 K) : aB P C (.code (.cond c x y) :: is) σ m (bif b then M1 else M2) K := fun t h => by
 refine gG.cond hc (fun hb => ?_) (fun hb => ?_)
 ·subst hb; exact ht rfl t h
 ·subst hb; exact hf rfl t h
theorem aB.split {b : Bool} {M1 M2 : Option τ} (ht : b = true → aB P C is σ m M1 K) (hf : b = false → aB P C is σ m M2 K) : aB P C is σ m (bif b then M1 else M2) K := fun t h => by
 cases hb : b with
 | true => rw [hb] at h; exact ht hb t h
 | false => rw [hb] at h; exact hf hb t h
theorem aB.none : aB P C is σ m (none : Option τ) K := fun t h => by cases h
theorem aS.nil (h : aB P C is σ m M K) : aS P C ops [] is σ m M K := fun t ht => pG.nil (h t ht)
theorem aS.bind {x : Option υ} {f : υ → Option τ} (h : ∀ u,x = some u → aS P C ops rest is σ m (f u) K) : aS P C ops rest is σ m (x.bind f) K := fun t ht => by
 obtain ⟨u,hu,hf⟩ := Option.bind_eq_some_iff.1 ht
 exact h u hu t hf
theorem aS.split {b : Bool} {M1 M2 : Option τ} (ht : b = true → aS P C ops rest is σ m M1 K) (hf : b = false → aS P C ops rest is σ m M2 K) : aS P C ops rest is σ m (bif b then M1 else M2) K := fun t h => by
 cases hb : b with
 | true => rw [hb] at h; exact ht hb t h
 | false => rw [hb] at h; exact hf hb t h
theorem aS.step {o : Oper} {ins : List (Operand × AV)} {us df : Mem} {v : AV} {W X : List Nat} (hlt : LT P o ins us v df W X) (hi : EvL σ ins) (hu : lK m us) (hg : eu ops σ o true)
  (hside : (eX C.N o.dst && eP W (X ++ keys df) && eP W (keys us) && eP (keys df) (X ++ W) && kH X C.pn) = true) (h : aS P C ops rest is (dX (jw X σ) o.dst v) (df ++ iF X m) M K) : aS P C ops (o :: rest) is σ m M K :=
 fun t ht => pG.step hlt hi hu hg hside (h t ht)
theorem aS.skip {o : Oper} (hg : eu ops σ o false) (hd : eX C.N o.dst = true) (h : aS P C ops rest is (dX σ o.dst (.dI [])) m M K) : aS P C ops (o :: rest) is σ m M K :=
 fun t ht => pG.skip hg hd (h t ht)
theorem NZ : ∀ l : List Nat,l.any (List.elem · []) = false
 | [] => rfl
 | _ :: r => NZ r
theorem Fz (x : CV) : bP [] x = x := by
 cases x with
 | fn f caps => show (bif caps.any (List.elem · []) then CV.junk else CV.fn f caps) = _; rw [NZ]; rfl
 | _ => rfl
theorem QM (x : SV) : mF [] x = x := by
 cases x with
 | c x => simp [mF,Fz]
 | agg cs => simp [mF,List.map_congr_left (fun x _ => Fz x)]
theorem Ze (x : AV) : lF [] x = x := by
 cases x with
 | s x => simp [lF,QM]
 | dI xs => simp [lF,List.map_congr_left (fun x _ => QM x)]
theorem Zh (x : Ob) : jU [] x = x := by
 cases x with
 | row e els => simp [jU,List.map_congr_left (fun x _ => Fz x)]
 | dU e els => rfl
 | mp es => rfl
 | pool e rows => rfl
 | iY e p lens => rfl
 | unk => rfl
theorem DF (σ : Slots) : jw [] σ = σ := by
 unfold jw
 rw [List.map_congr_left (g := id) fun p _ => by rw [Ze]; rfl,List.map_id]
theorem zL : ∀ m : Mem,iF [] m = m
 | [] => rfl
 | (n,o) :: r => by simp [iF,List.elem,Zh,zL r]
theorem aS.pure {o : Oper} {ins : List (Operand × AV)} {us : Mem} {v : AV} (hlt : LT P o ins us v [] [] []) (hi : EvL σ ins) (hu : lK m us) (hg : eu ops σ o true)
  (hd : eX C.N o.dst = true) (h : aS P C ops rest is (dX σ o.dst v) m M K) : aS P C ops (o :: rest) is σ m M K :=
 aS.step hlt hi hu hg (by rw [hd]; rfl) (by rw [DF,zL]; exact h)
theorem aB.join {c : Code} {M1 : Option υ} {f : υ → Option τ} (S : υ → Slots × Mem) (h1 : aB P C [.code c] σ m M1 fun t e σ' m' => e = .normal ∧ aU P C σ' m' (S t).1 (S t).2)
  (h2 : ∀ t,M1 = some t → aB P C is (S t).1 (S t).2 (f t) K) : aB P C (.code c :: is) σ m (M1.bind f) K := fun t ht R B g a w hs => by
 obtain ⟨u,hu,hf⟩ := Option.bind_eq_some_iff.1 ht
 refine wp_mono (h1 u hu R B g a w hs) fun e a w he => ?_
 obtain ⟨σ',m',R',B',g',hs',rfl,hent⟩ := he
 obtain ⟨R2,B2,g2,hs2⟩ := hent _ _ _ _ _ hs'
 exact h2 u hu t hf _ _ _ _ _ hs2
theorem gG.loop {σs : Type} {body : Code} (bm : σs → Option (σs ⊕ τ)) (S : σs → Slots × Mem) (Lv : τ → Post)
  (hb : ∀ s,aB P C [.code body] (S s).1 (S s).2 (bm s) fun o e σ m => match o with
   | .inl s' => e = .normal ∧ aU P C σ m (S s').1 (S s').2
   | .inr t => e ≠ .normal ∧ Lv t e σ m)
  (t : τ) (hl : ∀ e σ m,Lv t e σ m → fC P C is e σ m Q) : ∀ (n : Nat) (s : σs),bZ bm n s = some t → gG P C (.code (.loop body) :: is) (S s).1 (S s).2 Q := by
 intro n s hM R B g a w hs
 refine wp_loop_rounds n ?_
 induction n generalizing s R B g a w with
 | zero => cases hM
 | succ n ih =>
  rw [rounds_succ]
  unfold bZ at hM
  cases hbs : bm s with
  | none => rw [hbs] at hM; cases hM
  | some o =>
   rw [hbs] at hM
   refine wp_mono (hb s o hbs R B g a w hs) fun e a' w' he => ?_
   obtain ⟨σ',m',R',B',g',hs',hp⟩ := he
   cases o with
   | inl s' =>
    obtain ⟨rfl,hent⟩ := hp
    obtain ⟨R2,B2,g2,hs2⟩ := hent _ _ _ _ _ hs'
    exact ih s' hM _ _ _ _ _ hs2
   | inr t' =>
    obtain ⟨hne,hlv⟩ := hp
    change some t' = some t at hM
    injection hM with hM
    subst hM
    have hk := hl e σ' m' hlv _ _ _ _ _ hs'
    cases e with
    | normal => exact absurd rfl hne
    | _ => exact hk
theorem aB.loop {σs : Type} {body : Code} (bm : σs → Option (σs ⊕ υ)) (S : σs → Slots × Mem) (Lv : υ → Post) {f : υ → Option τ} {n : Nat} {s : σs}
  (hb : ∀ s,aB P C [.code body] (S s).1 (S s).2 (bm s) fun o e σ m => match o with
   | .inl s' => e = .normal ∧ aU P C σ m (S s').1 (S s').2
   | .inr t => e ≠ .normal ∧ Lv t e σ m)
  (h0 : aU P C σ m (S s).1 (S s).2) (hl : ∀ u e σ m,bZ bm n s = some u → Lv u e σ m → UR P C is e σ m (f u) K) : aB P C (.code (.loop body) :: is) σ m ((bZ bm n s).bind f) K := fun t ht => by
 obtain ⟨u,hu,hf⟩ := Option.bind_eq_some_iff.1 ht
 exact fC.ent h0 (gG.loop bm S Lv hb u (fun e σ m hlv => hl u e σ m hu hlv t hf) n s hu)
end
end Go.Fw
end
section
set_option linter.unusedVariables false
set_option linter.unusedSimpArgs false
set_option linter.unnecessarySimpa false
namespace Go.Fw
abbrev iC (n : Int) : CV := .pv (.sc (.int .i64 n))
abbrev bC (b : Bool) : CV := .pv (.sc (.bool b))
abbrev sC (v : Value) : CV := .pv (.sc v)
abbrev Cc (x : CV) : AV := .s (.c x)
abbrev Ag (cs : List CV) : AV := .s (.agg cs)
abbrev Iv (n : Int) : AV := .s (.c (.pv (.sc (.int .i64 n))))
abbrev Bv (b : Bool) : AV := .s (.c (.pv (.sc (.bool b))))
abbrev Sv (v : Value) : AV := .s (.c (.pv (.sc v)))
abbrev aO : Value := .slice none 0 0
def aJ (n : Int) : Int := IntKind.i64.wrap n
theorem aBN {n : Int} (h1 : -9223372036854775808 ≤ n) (h2 : n ≤ 9223372036854775807) : aJ n = n := by
 unfold aJ; rw [IntKind.wrap_i64]; omega
theorem lH {P : Program} {w : World} {R B : Nat → Prop} {g : Nat → GS} {c v : Value} (h : RA P w R B g (.s (.c (.pv (.sc c)))) v) : v = c := by
 obtain ⟨_,h2⟩ := h
 cases h2
 rfl
theorem qO {P : Program} {w : World} {R B : Nat → Prop} {g : Nat → GS} {c : Value} (h : c.oneCell' = true) : RA P w R B g (.s (.c (.pv (.sc c)))) c := ⟨h,.sc h⟩
theorem fG.refl {R B : Nat → Prop} {g : Nat → GS} {w : World} (h : WF R B g w) : fG R B g w [] [] R B g w :=
 ⟨h,fun _ h => h,fun _ h => h,rfl,rfl,rfl,Nat.le_refl _,fun _ _ _ => rfl,fun _ _ => rfl,fun n hn => (by cases hn),fun n hn => (by cases hn)⟩
section
variable {P : Program} {o : Oper} {us : Mem}
theorem LT.calm {ins : List (Operand × AV)} {v : AV}
  (h : ∀ R B g w (a : Act),WF R B g w → (∀ p ∈ ins,RA P w R B g p.2 (a.eval p.1)) → (∀ p ∈ us,RO P w R B g p.1 p.2) → ∃ u,(execOp a.eval o).run P w = .ok (.value u) w ∧ RA P w R B g v u) : LT P o ins us v [] [] [] := by
 intro R B g w a hw hi hu K Q hK
 obtain ⟨u,hr,hv⟩ := h R B g w a hw hi hu
 unfold Oper.wp
 rw [hr]
 exact hK u R B g w (.refl hw) (fun b hb => .inl hb) (fun _ => hv) (fun p hp => by cases hp)
theorem in1 {P : Program} {w : World} {R B : Nat → Prop} {g : Nat → GS} {a : Act} {x : Operand} {v : AV} {r : List (Operand × AV)} (h : ∀ p ∈ (x,v) :: r,RA P w R B g p.2 (a.eval p.1)) : RA P w R B g v (a.eval x) := h (x,v) List.mem_cons_self
theorem in2 {P : Program} {w : World} {R B : Nat → Prop} {g : Nat → GS} {a : Act} {x y : Operand} {v u : AV} {r : List (Operand × AV)} (h : ∀ p ∈ (x,v) :: (y,u) :: r,RA P w R B g p.2 (a.eval p.1)) : RA P w R B g u (a.eval y) := h (y,u) (List.mem_cons_of_mem _ List.mem_cons_self)
theorem ZT {P : Program} {w : World} {R B : Nat → Prop} {g : Nat → GS} {a : Act} {x y z : Operand} {v u t : AV} {r : List (Operand × AV)} (h : ∀ p ∈ (x,v) :: (y,u) :: (z,t) :: r,RA P w R B g p.2 (a.eval p.1)) : RA P w R B g t (a.eval z) := h (z,t) (List.mem_cons_of_mem _ (List.mem_cons_of_mem _ List.mem_cons_self))
theorem o9 {P : Program} {w : World} {R B : Nat → Prop} {g : Nat → GS} {n : Nat} {ob : Ob} {r : Mem} (h : ∀ p ∈ (n,ob) :: r,RO P w R B g p.1 p.2) : RO P w R B g n ob := h (n,ob) List.mem_cons_self
theorem us2 {P : Program} {w : World} {R B : Nat → Prop} {g : Nat → GS} {n k : Nat} {ob oc : Ob} {r : Mem} (h : ∀ p ∈ (n,ob) :: (k,oc) :: r,RO P w R B g p.1 p.2) : RO P w R B g k oc := h (k,oc) (List.mem_cons_of_mem _ List.mem_cons_self)
theorem LT.move {x : Operand} {v : AV} (ho : o.op = .move x) : LT P o [(x,v)] [] v [] [] [] := .calm fun R B g w a _ hi _ => ⟨a.eval x,by simp [execOp,ho],in1 hi⟩
theorem LT.assign {x : Operand} {v : AV} (ho : o.op = .assign x) : LT P o [(x,v)] [] v [] [] [] := .calm fun R B g w a _ hi _ => ⟨a.eval x,by simp [execOp,ho],in1 hi⟩
theorem LT.oH {c x y : Operand} {v : AV} {b : Bool} (ho : o.op = .pick c x y) (hb : b = true) : LT P o [(c,Bv b),(x,v)] [] v [] [] [] := .calm fun R B g w a _ hi _ =>
 ⟨a.eval x,by simp [execOp,ho,lH (in1 hi),hb,asBool],in2 hi⟩
theorem LT.oG {c x y : Operand} {v : AV} {b : Bool} (ho : o.op = .pick c x y) (hb : b = false) : LT P o [(c,Bv b),(y,v)] [] v [] [] [] := .calm fun R B g w a _ hi _ =>
 ⟨a.eval y,by simp [execOp,ho,lH (in1 hi),hb,asBool],in2 hi⟩
theorem LT.bin {op : BinOp} {t t' : TypeId} {x y : Operand} {k k' : IntKind} {m n : Int} {r : Value} (ho : o.op = .binOp op t x y t') (hr : r.oneCell' = true) (h : binOp op t (.int k m) (.int k' n) = pure r) :
  LT P o [(x,Sv (.int k m)),(y,Sv (.int k' n))] [] (Sv r) [] [] [] := .calm fun R B g w a _ hi _ =>
 ⟨r,by simp [execOp,ho,lH (in1 hi),lH (in2 hi),eqGuard_at_int,h],qO hr⟩
section
variable {t t' : TypeId} {x y : Operand} {k : IntKind} {m n : Int}
theorem LT.add (ho : o.op = .binOp .add t x y t') : LT P o [(x,Iv m),(y,Iv n)] [] (Iv (aJ (m + n))) [] [] [] := .bin ho rfl (by rw [binOp_add]; rfl)
theorem LT.sub (ho : o.op = .binOp .sub t x y t') : LT P o [(x,Iv m),(y,Iv n)] [] (Iv (aJ (m - n))) [] [] [] := .bin ho rfl (by rw [binOp_sub]; rfl)
theorem LT.mul (ho : o.op = .binOp .mul t x y t') : LT P o [(x,Iv m),(y,Iv n)] [] (Iv (aJ (m * n))) [] [] [] := .bin ho rfl (by rw [binOp_mul]; rfl)
theorem LT.rem (ho : o.op = .binOp .rem t x y t') (hn : n ≠ 0) : LT P o [(x,Iv m),(y,Iv n)] [] (Iv (m.tmod n)) [] [] [] := .bin ho rfl (by rw [binOp_rem]; simp [Op.intDiv,hn])
theorem LT.lss (ho : o.op = .binOp .lss t x y t') : LT P o [(x,Sv (.int k m)),(y,Sv (.int k n))] [] (Bv (decide (m < n))) [] [] [] := .bin ho rfl (binOp_lss ..)
theorem LT.leq (ho : o.op = .binOp .leq t x y t') : LT P o [(x,Sv (.int k m)),(y,Sv (.int k n))] [] (Bv (decide (m ≤ n))) [] [] [] := .bin ho rfl (binOp_leq ..)
theorem LT.gtr (ho : o.op = .binOp .gtr t x y t') : LT P o [(x,Sv (.int k m)),(y,Sv (.int k n))] [] (Bv (decide (n < m))) [] [] [] := .bin ho rfl (binOp_gtr ..)
theorem LT.geq (ho : o.op = .binOp .geq t x y t') : LT P o [(x,Sv (.int k m)),(y,Sv (.int k n))] [] (Bv (decide (n ≤ m))) [] [] [] := .bin ho rfl (binOp_geq ..)
theorem LT.eql (ho : o.op = .binOp .eql t x y t') : LT P o [(x,Sv (.int k m)),(y,Sv (.int k n))] [] (Bv (m == n)) [] [] [] := .bin ho rfl (binOp_eql ..)
theorem LT.neq (ho : o.op = .binOp .neq t x y t') : LT P o [(x,Sv (.int k m)),(y,Sv (.int k n))] [] (Bv (m != n)) [] [] [] := .bin ho rfl (binOp_neq ..)
theorem LT.and (ho : o.op = .binOp .and t x y t') : LT P o [(x,Sv (.int k m)),(y,Sv (.int k n))] [] (Sv (.int k (bits .and k m n))) [] [] [] := .bin ho rfl (by rw [binOp_and]; rfl)
theorem LT.xor (ho : o.op = .binOp .xor t x y t') : LT P o [(x,Sv (.int k m)),(y,Sv (.int k n))] [] (Sv (.int k (bits .xor k m n))) [] [] [] := .bin ho rfl (by rw [binOp_xor]; rfl)
def mM (m n : Int) : Int := m.fdiv (2 ^ (min n.toNat 64))
theorem LT.shr {k' : IntKind} (ho : o.op = .binOp .shr t x y t') (hn : 0 ≤ n) : LT P o [(x,Iv m),(y,Sv (.int k' n))] [] (Iv (mM m n)) [] [] [] := .bin ho rfl (by
 rw [binOp_shr]; simp [Op.shift,mM,IntKind.bits]; omega)
theorem LT.not {b : Bool} (ho : o.op = .unOp .not t x) : LT P o [(x,Bv b)] [] (Bv (!b)) [] [] [] := .calm fun R B g w a _ hi _ =>
 ⟨.bool (!b),by simp [execOp,ho,lH (in1 hi),Op.unary],qO rfl⟩
theorem LT.Oh {k' : IntKind} {s d : TypeId} (ho : o.op = .convert s d x) (hs : (P.underlying s).isSome = true) (hd : P.underlying d = some (.int k')) : LT P o [(x,Sv (.int k m))] [] (Sv (.int k' (k'.wrap m))) [] [] [] := .calm fun R B g w a _ hi _ =>
 ⟨.int k' (k'.wrap m),by
  obtain ⟨ds,hds⟩ := Option.isSome_iff_exists.mp hs
  simp [execOp,ho,lH (in1 hi),convert,run_underlying hds,run_underlying hd,Conv.intToInt],qO rfl⟩
end
theorem run_equal_bool {P : Program} {t : TypeId} (ht : P.underlying t = some .bool) (b c : Bool) (w : World) : (Op.equal t (.bool b) (.bool c)).run P w = .ok (b == c) w := by
 have h : ∀ d : Nat,(Op.equalIn (d + 1) t (.bool b) (.bool c)).run P w = .ok (b == c) w := fun d => by simp [Op.equalIn,run_underlying ht]
 exact h 9999
theorem LT.V7 {t t' : TypeId} {x y : Operand} {b c : Bool} (ho : o.op = .binOp .eql t x y t') (ht : P.underlying t = some .bool) : LT P o [(x,Bv b),(y,Bv c)] [] (Bv (b == c)) [] [] [] := .calm fun R B g w a _ hi _ =>
 ⟨.bool (b == c),by simp [execOp,ho,lH (in1 hi),lH (in2 hi),eqGuard_at_bool,binOp,run_equal_bool ht],qO rfl⟩
theorem LT.Qy {t t' : TypeId} {x y : Operand} {b c : Bool} (ho : o.op = .binOp .neq t x y t') (ht : P.underlying t = some .bool) : LT P o [(x,Bv b),(y,Bv c)] [] (Bv (b != c)) [] [] [] := .calm fun R B g w a _ hi _ =>
 ⟨.bool (b != c),by simp [execOp,ho,lH (in1 hi),lH (in2 hi),eqGuard_at_bool,binOp,run_equal_bool ht,bne],qO rfl⟩
theorem LT.Zq {x : Operand} {t e : TypeId} {q : Bool} {els : List (List PV)} (ho : o.op = .call { callee := .builtin .len,args := #[x],argTypes := #[t] }) (ht : P.underlying t = some (.slice e)) :
  LT P o [(x,Cc (.pv (.xs q els)))] [] (Iv els.length) [] [] [] := .calm fun R B g w a _ hi _ => by
 obtain ⟨_,h⟩ := in1 hi
 generalize hx : a.eval x = v at h
 cases h with
 | emp => exact ⟨.int .i64 0,by simp [execOp,ho,resolve,invoke,builtin,hx,Builtin.len_,run_underlying ht,goInt],qO rfl⟩
 | xs val hn hq hc hs hv hr => subst hn; exact ⟨.int .i64 els.length,by simp [execOp,ho,resolve,invoke,builtin,hx,Builtin.len_,run_underlying ht,goInt],qO rfl⟩
theorem LT.lX {x : Operand} {t e : TypeId} {n off len : Nat} (ho : o.op = .call { callee := .builtin .len,args := #[x],argTypes := #[t] }) (ht : P.underlying t = some (.slice e)) :
  LT P o [(x,Cc (.loc n off len))] [] (Iv len) [] [] [] := .calm fun R B g w a _ hi _ => by
 obtain ⟨_,h⟩ := in1 hi
 refine ⟨.int .i64 len,?_,qO rfl⟩
 rcases h with ⟨_,_,rfl,h⟩ | ⟨rfl,_,_,_,h⟩ | ⟨b,cap,cur,e',_,_,_,_,_,h⟩ <;> simp [execOp,ho,resolve,invoke,builtin,h,Builtin.len_,run_underlying ht,goInt]
theorem LT.min {x y : Operand} {ts : Array TypeId} {m n : Int} (ho : o.op = .call { callee := .builtin .min,args := #[x,y],argTypes := ts }) : LT P o [(x,Iv m),(y,Iv n)] [] (Iv (if n < m then n else m)) [] [] [] := .calm fun R B g w a _ hi _ =>
 ⟨.int .i64 (if n < m then n else m),by simp [execOp,ho,resolve,invoke,builtin,lH (in1 hi),lH (in2 hi),Builtin.min_,Builtin.min2],qO rfl⟩
theorem LT.max {x y : Operand} {ts : Array TypeId} {m n : Int} (ho : o.op = .call { callee := .builtin .max,args := #[x,y],argTypes := ts }) : LT P o [(x,Iv m),(y,Iv n)] [] (Iv (if m < n then n else m)) [] [] [] := .calm fun R B g w a _ hi _ =>
 ⟨.int .i64 (if m < n then n else m),by simp [execOp,ho,resolve,invoke,builtin,lH (in1 hi),lH (in2 hi),Builtin.max_,Builtin.max2],qO rfl⟩
theorem LT.extract {x : Operand} {k : Nat} {vs : List SV} {v : SV} (ho : o.op = .extract x k) (hk : vs[k]? = some v) : LT P o [(x,.dI vs)] [] (.s v) [] [] [] := .calm fun R B g w a _ hi _ => by
 obtain ⟨us,hx,hl,h⟩ := in1 hi
 obtain ⟨u,hu,hr⟩ := h k v hk
 exact ⟨u,by simp [execOp,ho,hx,Instr.extract,hu],hr⟩
theorem LT.kL {x : Operand} {n off : Nat} (ho : o.op = .nilCheck x) : LT P o [(x,Cc (.pl n off))] [] (Cc (.pl n off)) [] [] [] := .calm fun R B g w a _ hi _ => by
 obtain ⟨h1,b,h2,h3⟩ := in1 hi
 exact ⟨a.eval x,by simp [execOp,ho,h3],h1,b,h2,h3⟩
def mr (P : Program) (t : TypeId) (i : Nat) : Option Nat :=
 match P.underlying t with
 | some (.struct fs) => match fs[i]? with
  | some f => match P.info? f.type with
   | some j => if j.size = 0 then none else some f.offset
   | none => none
  | none => none
 | _ => none
theorem SH {t : TypeId} {i off : Nat} (h : mr P t i = some off) (a : Addr) (w : World) : (Instr.fieldAt t (.pointer (some a)) i).run P w = .ok (.pointer (some (a.add off))) w := by
 unfold mr at h
 split at h
 ·rename_i fs hf
  split at h
  ·rename_i f hfi
   split at h
   ·rename_i j hj
    split at h
    ·cases h
    ·rename_i h0
     injection h with h
     subst h
     simp [Instr.fieldAt,run_underlying hf,hfi,Instr.sureAddr,fieldPlace,sizeOf,typeInfo,hj,h0]
   ·cases h
  ·cases h
 ·cases h
theorem add_lit (b i n : Nat) : (⟨b,i,none⟩ : Addr).add n = ⟨b,i + n,none⟩ := Addr.add_lit b i n
theorem add_add (a : Addr) (i j : Nat) : (a.add i).add j = a.add (i + j) := by
 unfold Addr.add
 by_cases hi : i = 0 <;> by_cases hj : j = 0 <;> simp [hi,hj,Nat.add_assoc]
theorem LT.ig {x : Operand} {t : TypeId} {i n off d : Nat} (ho : o.op = .fieldAddr t x i) (h : mr P t i = some d) : LT P o [(x,Cc (.pl n off))] [] (Cc (.pl n (off + d))) [] [] [] := .calm fun R B g w a _ hi _ => by
 obtain ⟨_,b,h2,h3⟩ := in1 hi
 exact ⟨.pointer (some ⟨b,off + d,none⟩),by simp [execOp,ho,h3,SH h,add_lit],rfl,b,h2,rfl⟩
theorem LT.oN {x : Operand} {t : TypeId} {i d : Nat} {q : Bool} {cs : List PV} (ho : o.op = .fieldAddr t x i) (h : mr P t i = some d) : LT P o [(x,Cc (.px q cs))] [] (Cc (.px q (cs.drop d))) [] [] [] := .calm fun R B g w a _ hi _ => by
 obtain ⟨_,ad,h2,h3,h4⟩ := in1 hi
 refine ⟨.pointer (some (ad.add d)),by simp [execOp,ho,h2,SH h],rfl,ad.add d,rfl,by rw [add_block]; exact h3,fun k p hk => ?_⟩
 rw [List.getElem?_drop] at hk
 rw [add_add]
 exact h4 _ p hk
theorem MC {e : TypeId} {i : TypeInfo} (h : P.info? e = some i) : bQ P e = i.size := by simp [bQ,h]
theorem run_sizeOf {e : TypeId} {i : TypeInfo} (h : P.info? e = some i) (w : World) : (sizeOf e).run P w = .ok (bQ P e) w := by simp [sizeOf,typeInfo,h,MC h]
def qX (P : Program) (t : TypeId) : Option TypeId :=
 match P.underlying t with
 | some (.slice e) => if (P.info? e).isSome then some e else none
 | _ => none
theorem V5 {t e : TypeId} (h : qX P t = some e) : P.underlying t = some (.slice e) ∧ ∃ i,P.info? e = some i := by
 unfold qX at h
 split at h
 ·rename_i e' he
  split at h
  ·rename_i hi
   injection h with h
   subst h
   exact ⟨he,Option.isSome_iff_exists.1 hi⟩
  ·cases h
 ·cases h
theorem run_indexAt {t e : TypeId} (h : qX P t = some e) (a : Addr) (len cap : Nat) (k : IntKind) (i : Int) (h0 : 0 ≤ i) (h1 : i < len) (w : World) :
  (Instr.indexAt t (.slice (some a) len cap) (.int k i)).run P w = .ok (.pointer (some (a.add (i.toNat * bQ P e)))) w := by
 obtain ⟨h2,j,h3⟩ := V5 h
 simp [Instr.indexAt,run_underlying h2,asIntOf,h0,h1,run_sizeOf h3]
theorem LT.ZV {x y : Operand} {t e : TypeId} {i : Int} {q : Bool} {els : List (List PV)} {cs : List PV} (ho : o.op = .indexAddr t x y) (h : qX P t = some e) (h0 : 0 ≤ i) (hc : els[i.toNat]? = some cs) (hs : cs.length = bQ P e) :
  LT P o [(x,Cc (.pv (.xs q els))),(y,Iv i)] [] (Cc (.px q cs)) [] [] [] := .calm fun R B g w a _ hi _ => by
 have hy := lH (in2 hi)
 obtain ⟨_,h⟩ := in1 hi
 generalize hx : a.eval x = v at h
 cases h with
 | emp => cases hc
 | @xs _ _ ad c s n val hn hq hl hs' hv hr =>
  have hlt : i.toNat < els.length := (List.getElem?_eq_some_iff.1 hc).1
  have hsz : s = bQ P e := by rw [← hs]; exact (hs' cs (List.mem_of_getElem? hc)).symm
  subst hn
  refine ⟨.pointer (some (ad.add (i.toNat * bQ P e))),by simp [execOp,ho,hx,hy,run_indexAt h ad els.length c .i64 i h0 (by omega)],rfl,_,rfl,by rw [add_block]; exact hq,fun k p hk => ?_⟩
  rw [add_add,← hsz]
  exact ⟨_,hv _ _ _ _ hc hk,hr _ _ _ _ hc hk⟩
theorem LT.ZU {x y : Operand} {t e : TypeId} {i : Int} {n len : Nat} {els : List (List CV)} (ho : o.op = .indexAddr t x y) (h : qX P t = some e) (h0 : 0 ≤ i) (h1 : i < len) :
  LT P o [(x,Cc (.loc n 0 len)),(y,Iv i)] [(n,.row e els)] (Cc (.pl n (i.toNat * bQ P e))) [] [] [] := .calm fun R B g w a _ hi hu => by
 have hy := lH (in2 hi)
 obtain ⟨_,h2⟩ := in1 hi
 rcases h2 with ⟨_,_,rfl,_⟩ | ⟨rfl,_⟩ | ⟨b,cap,cur,e',k1,k2,k3,k4,k5,k6⟩
 ·omega
 ·omega
 ·have he : e' = e := by
   rcases o9 hu with ⟨h5,_⟩ | ⟨b',cur',h5,h6,_⟩
   ·rw [k1] at h5; cases h5
   ·rw [k1] at h5
    injection h5 with h5
    subst h5
    rw [k2] at h6
    injection h6 with h6
    injection h6
  subst he
  simp only [Nat.zero_mul] at k6
  exact ⟨.pointer (some ⟨b,i.toNat * bQ P e',none⟩),by simp [execOp,ho,k6,hy,run_indexAt h ⟨b,0,none⟩ len cap .i64 i h0 h1,add_lit],rfl,b,k1,rfl⟩
def ja (P : Program) (t : TypeId) : Option Bool :=
 match P.underlying t with
 | some (.struct _) | some (.array ..) => some true
 | some _ => some false
 | none => none
theorem G5 {t : TypeId} {b : Bool} (h : ja P t = some b) (w : World) : (isAgg t).run P w = .ok b w := by
 unfold ja at h
 split at h
 ·rename_i fs hf; injection h with h; subst h; simp [isAgg,run_underlying hf]
 ·rename_i n e hf; injection h with h; subst h; simp [isAgg,run_underlying hf]
 ·rename_i d h1 h2 hd
  injection h with h
  subst h
  simp only [isAgg,Sem.run_bind,run_underlying hd,Result.andThen_ok]
  rfl
 ·cases h
theorem SI {t : TypeId} (h : ja P t = some false) {a : Addr} {w : World} {v : Value} (hc : w.cell? a = some v) : (Instr.loadAt t (.pointer (some a))).run P w = .ok v w := by
 simp [Instr.loadAt,Instr.sureAddr,loadVar,G5 h,hc]
theorem SK {t : TypeId} (h : ja P t = some true) {i : TypeInfo} (hi : P.info? t = some i) {a : Addr} {w : World} {cs : List Value} (hl : cs.length = bQ P t) (hc : ∀ j v,cs[j]? = some v → w.cell? (a.add j) = some v) :
  (Instr.loadAt t (.pointer (some a))).run P w = .ok (.agg cs.toArray) w := by
 simp [Instr.loadAt,Instr.sureAddr,loadVar,G5 h,run_sizeOf hi,← hl,run_loadCells_list w a cs hc]
theorem LT.iP {x : Operand} {t : TypeId} {q : Bool} {p : PV} {cs : List PV} (ho : o.op = .load t x) (h : ja P t = some false) : LT P o [(x,Cc (.px q (p :: cs)))] [] (Cc (.pv p)) [] [] [] := .calm fun R B g w a _ hi _ => by
 obtain ⟨_,ad,h2,h3,h4⟩ := in1 hi
 obtain ⟨u,hu,hr⟩ := h4 0 p rfl
 have h0 : ad.add 0 = ad := Addr.add_zero' ad
 rw [h0] at hu
 exact ⟨u,by simp [execOp,ho,h2,SI h hu],hr.oneCell,hr⟩
theorem FI {α : Type} {T : Value → Nat → Prop} {Rl : α → Value → Prop} : ∀ (cs : List α) (off : Nat),(∀ k x,cs[k]? = some x → ∃ u,T u (off + k) ∧ Rl x u) → ∃ us : List Value,us.length = cs.length ∧ (∀ (k : Nat) u,us[k]? = some u → T u (off + k)) ∧ ∀ (k : Nat) x,cs[k]? = some x → ∃ u,us[k]? = some u ∧ Rl x u
 | [],_,_ => ⟨[],rfl,fun k u h => by simp at h,fun k x h => by simp at h⟩
 | c :: cs,off,h => by
  obtain ⟨u,hu,hr⟩ := h 0 c rfl
  obtain ⟨us,h1,h2,h3⟩ := FI cs (off + 1) fun k x hk => by
   have := h (k + 1) x hk
   rwa [show off + (k + 1) = off + 1 + k by omega] at this
  refine ⟨u :: us,by simp [h1],fun k v hk => ?_,fun k x hk => ?_⟩
  ·cases k with
   | zero => simp at hk; subst hk; exact hu
   | succ k =>
    have := h2 k v (by simpa using hk)
    rwa [show off + 1 + k = off + (k + 1) by omega] at this
  ·cases k with
   | zero => simp at hk; subst hk; exact ⟨u,rfl,hr⟩
   | succ k => exact h3 k x (by simpa using hk)
theorem LT.ni {x : Operand} {t : TypeId} {q : Bool} {cs : List PV} (ho : o.op = .load t x) (h : ja P t = some true) {i : TypeInfo} (hi : P.info? t = some i) (hl : cs.length = bQ P t) :
  LT P o [(x,Cc (.px q cs))] [] (Ag (cs.map .pv)) [] [] [] := .calm fun R B g w a _ hin _ => by
 obtain ⟨_,ad,h2,h3,h4⟩ := in1 hin
 obtain ⟨us,k1,k2,k3⟩ := FI (T := fun u k => w.cell? (ad.add k) = some u) (Rl := fun p u => gI w R B p u) cs 0 (fun k x hk => by simpa using h4 k x hk)
 refine ⟨.agg us.toArray,?_,us,rfl,by simpa using k1,fun k x hk => ?_⟩
 ·have := SK (P := P) h hi (a := ad) (w := w) (cs := us) (k1.trans hl) (fun j v hj => by simpa using k2 j v hj)
  simp [execOp,ho,h2,this]
 ·rw [List.getElem?_map] at hk
  cases hc : cs[k]? with
  | none => rw [hc] at hk; cases hk
  | some p =>
   rw [hc] at hk
   injection hk with hk
   subst hk
   obtain ⟨u,hu,hr⟩ := k3 k p hc
   exact ⟨u,hu,hr.oneCell,hr⟩
theorem BI {w : World} {b : Nat} {cur : Array Value} {e : TypeId} (h : w.heap[b]? = some (.cells cur e (0,0))) (i : Nat) : w.cell? ⟨b,i,none⟩ = cur[i]? := cell_of_row w b i cur e (0,0) h
theorem LH {w : World} {R B : Nat → Prop} {g : Nat → GS} {n : Nat} {e : TypeId} {els : List (List CV)} (h : RO P w R B g n (.row e els)) {b : Nat} (hb : g n = .blk b) {j : Nat} {cs : List CV} (hj : els[j]? = some cs) :
  cs.length = bQ P e ∧ ∀ k x,cs[k]? = some x → ∃ u,w.cell? ⟨b,j * bQ P e + k,none⟩ = some u ∧ RC P w R B g x u := by
 rcases h with ⟨h1,_⟩ | ⟨b',cur,h1,h2,h3,h4,h5⟩
 ·rw [hb] at h1; cases h1
 ·rw [hb] at h1
  injection h1 with h1
  subst h1
  refine ⟨h3 cs (List.mem_of_getElem? hj),fun k x hk => ?_⟩
  obtain ⟨u,hu,hr⟩ := h5 j k cs x hj hk
  exact ⟨u,(BI h2 _).trans hu,hr⟩
theorem LT.Qk {x : Operand} {t e : TypeId} {n off j k : Nat} {els : List (List CV)} {cs : List CV} {c : CV} (ho : o.op = .load t x) (h : ja P t = some false) (hj : els[j]? = some cs) (hk : cs[k]? = some c)
  (ha : off = j * bQ P e + k) : LT P o [(x,Cc (.pl n off))] [(n,.row e els)] (Cc c) [] [] [] := .calm fun R B g w a _ hi hu => by
 obtain ⟨_,b,h2,h3⟩ := in1 hi
 obtain ⟨u,h4,h5⟩ := (LH (o9 hu) h2 hj).2 k c hk
 subst ha
 exact ⟨u,by simp [execOp,ho,h3,SI h h4],h5⟩
theorem LT.Ql {x : Operand} {t e : TypeId} {n off j k : Nat} {els : List (List CV)} {cs : List CV} (ho : o.op = .load t x) (h : ja P t = some true) {i : TypeInfo} (hi : P.info? t = some i) (hj : els[j]? = some cs)
  (ha : off = j * bQ P e + k) (hl : ((cs.drop k).take (bQ P t)).length = bQ P t) : LT P o [(x,Cc (.pl n off))] [(n,.row e els)] (Ag ((cs.drop k).take (bQ P t))) [] [] [] := .calm fun R B g w a _ hin hu => by
 obtain ⟨_,b,h2,h3⟩ := in1 hin
 have hcell := (LH (o9 hu) h2 hj).2
 subst ha
 obtain ⟨us,k1,k2,k3⟩ := FI (T := fun u i => w.cell? ⟨b,j * bQ P e + k + i,none⟩ = some u) (Rl := fun p u => RC P w R B g p u) ((cs.drop k).take (bQ P t)) 0 (fun i x hx => by
  rw [List.getElem?_take] at hx
  split at hx
  ·rw [List.getElem?_drop] at hx
   obtain ⟨u,h4,h5⟩ := hcell _ x hx
   exact ⟨u,by simpa [Nat.add_assoc] using h4,h5⟩
  ·cases hx)
 refine ⟨.agg us.toArray,?_,us,rfl,by simpa using k1,k3⟩
 have := SK (P := P) h hi (a := ⟨b,j * bQ P e + k,none⟩) (w := w) (cs := us) (k1.trans hl) (fun i v hv => by rw [add_lit]; simpa using k2 i v hv)
 simp [execOp,ho,h3,this]
end
end Go.Fw
end
section
set_option linter.unusedVariables false
set_option linter.unusedSimpArgs false
set_option linter.unnecessarySimpa false
namespace Go.Fw
def upd (g : Nat → GS) (n : Nat) (s : GS) : Nat → GS := fun k => if k = n then s else g k
theorem upd_same (g : Nat → GS) (n : Nat) (s : GS) : upd g n s n = s := by simp [upd]
theorem upd_ne (g : Nat → GS) {n k : Nat} (s : GS) (h : k ≠ n) : upd g n s k = g k := by simp [upd,h]
def TI (P : Program) (e : TypeId) (z : Value) (s b : Nat) : Prop := (P.info? e).map (fun i => (i.zero,i.size,i.bytes)) = some (some z,s,b)
theorem TI.parts {P : Program} {e : TypeId} {z : Value} {s b : Nat} (h : TI P e z s b) : ∃ i,P.info? e = some i ∧ i.zero = some z ∧ i.size = s ∧ i.bytes = b := by
 unfold TI at h
 cases hi : P.info? e with
 | none => rw [hi] at h; cases h
 | some i =>
  rw [hi] at h
  injection h with h
  injection h with h1 h2
  injection h2 with h2 h3
  exact ⟨i,rfl,h1,h2,h3⟩
theorem TI.sz {P : Program} {e : TypeId} {z : Value} {s b : Nat} (h : TI P e z s b) : bQ P e = s := by
 obtain ⟨i,h1,_,h3,_⟩ := h.parts
 rw [MC h1,h3]
def pI : Nat := 2147483648
def jf : SV → List CV
 | .c x => [x]
 | .agg cs => cs
def ow {α : Type} (l : List α) (k : Nat) (ys : List α) : List α := l.take k ++ ys ++ l.drop (k + ys.length)
theorem Gh {α : Type} (l : List α) (k : Nat) (ys : List α) (h : k + ys.length ≤ l.length) : (ow l k ys).length = l.length := by
 simp [ow]; omega
theorem Gg {α : Type} (l : List α) (k : Nat) (ys : List α) (h : k + ys.length ≤ l.length) (i : Nat) (h1 : k ≤ i) (h2 : i < k + ys.length) : (ow l k ys)[i]? = ys[i - k]? := by
 have hk : (l.take k).length = k := by simp; omega
 unfold ow
 rw [List.append_assoc,List.getElem?_append_right (by omega),hk,List.getElem?_append_left (by omega)]
theorem EL {α : Type} (l : List α) (k : Nat) (ys : List α) (h : k + ys.length ≤ l.length) (i : Nat) (h1 : i < k ∨ k + ys.length ≤ i) : (ow l k ys)[i]? = l[i]? := by
 have hk : (l.take k).length = k := by simp; omega
 unfold ow
 rcases h1 with h1 | h1
 ·rw [List.append_assoc,List.getElem?_append_left (by omega),List.getElem?_take,if_pos h1]
 ·rw [List.getElem?_append_right (by simp; omega),List.getElem?_drop]
  congr 1
  simp
  omega
theorem Z4 {j j' s k k' : Nat} (hk : k < s) (hk' : k' < s) (h : j ≠ j') : j * s + k ≠ j' * s + k' := by
 rcases Nat.lt_or_gt_of_ne h with h1 | h1
 ·have := Nat.mul_le_mul_right s h1
  rw [Nat.succ_mul] at this
  omega
 ·have := Nat.mul_le_mul_right s h1
  rw [Nat.succ_mul] at this
  omega
section
variable {P : Program} {w : World} {R B : Nat → Prop} {g : Nat → GS}
theorem WF.mono {w' : World} (h : WF R B g w) (hs : w.heap.size ≤ w'.heap.size) : WF R B g w' :=
 ⟨h.rb,fun b hb => Nat.lt_of_lt_of_le (h.lt b hb) hs,fun n b hb => ⟨(h.jW n b hb).1,Nat.lt_of_lt_of_le (h.jW n b hb).2 hs⟩,h.kX,h.nd⟩
theorem WF.upd {w' : World} (h : WF R B g w) (n : Nat) (s : GS) (hsz : w.heap.size ≤ w'.heap.size) (hs : ∀ b,s.has b → ¬ B b ∧ b < w'.heap.size ∧ ∀ m,m ≠ n → ¬ (g m).has b)
  (hnd : ∀ j k b,s.at j = .blk b → s.at k = .blk b → j = k) : WF R B (upd g n s) w' where
 rb := h.rb
 lt b hb := Nat.lt_of_lt_of_le (h.lt b hb) hsz
 jW k b hk := by
  by_cases hkn : k = n
  ·subst hkn
   rw [upd_same] at hk
   exact ⟨(hs b hk).1,(hs b hk).2.1⟩
  ·rw [upd_ne g _ hkn] at hk
   have := h.jW k b hk
   exact ⟨this.1,by omega⟩
 kX k m b hk hm := by
  by_cases hkn : k = n <;> by_cases hmn : m = n
  ·rw [hkn,hmn]
  ·subst hkn
   rw [upd_same] at hk
   rw [upd_ne g _ hmn] at hm
   exact absurd hm ((hs b hk).2.2 m hmn)
  ·subst hmn
   rw [upd_same] at hm
   rw [upd_ne g _ hkn] at hk
   exact absurd hk ((hs b hm).2.2 k hkn)
  ·rw [upd_ne g _ hkn] at hk
   rw [upd_ne g _ hmn] at hm
   exact h.kX k m b hk hm
 nd k i j b hi hj := by
  by_cases hkn : k = n
  ·subst hkn
   rw [upd_same] at hi hj
   exact hnd i j b hi hj
  ·rw [upd_ne g _ hkn] at hi hj
   exact h.nd k i j b hi hj
theorem GS.Qx {c : Nat} : ∀ j k b,(GS.blk c).at j = .blk b → (GS.blk c).at k = .blk b → j = k := fun j k b h => by cases h
theorem WF.alloc (h : WF R B g w) (n : Nat) (o : Obj) : WF R B (Go.Fw.upd g n (.blk w.heap.size)) (w.alloc o) :=
 h.upd n _ (by simp) (fun b hb => by
  have hb : b = w.heap.size := hb
  subst hb
  exact ⟨fun hB => Nat.lt_irrefl _ (h.lt _ hB),by simp,fun m _ hm => Nat.lt_irrefl _ (h.jW m _ hm).2⟩) GS.Qx
theorem fG.alloc (h : WF R B g w) (n : Nat) (o : Obj) : fG R B g w [] [n] R B (upd g n (.blk w.heap.size)) (w.alloc o) where
 wf := h.alloc n o
 r _ h := h
 b _ h := h
 os := rfl
 tape := rfl
 output := rfl
 size := by simp
 heap b hb _ := Go.RowKit.Below.heap_alloc w o b hb
 names k hk := upd_ne g _ (by simpa using hk)
 fresh k hk b hb := by
  have : k = n := by simpa using hk
  subst this
  rw [upd_same] at hb
  have hb : b = w.heap.size := hb
  exact .inl (by omega)
 shape k hk := by cases hk
def mQ (P : Program) (w : World) (R B : Nat → Prop) (g : Nat → GS) (cs : List CV) (vs : List Value) : Prop := vs.length = cs.length ∧ ∀ (k : Nat) x,cs[k]? = some x → ∃ u,vs[k]? = some u ∧ RC P w R B g x u
theorem mQ.one {cs : List CV} {vs : List Value} (h : mQ P w R B g cs vs) : ∀ v ∈ vs,v.oneCell' = true := fun v hv => by
 obtain ⟨k,hk⟩ := List.getElem?_of_mem hv
 have hlt : k < cs.length := by rw [← h.1]; exact (List.getElem?_eq_some_iff.1 hk).1
 obtain ⟨u,hu,hr⟩ := h.2 k cs[k] (List.getElem?_eq_getElem hlt)
 rw [hk] at hu
 injection hu with hu
 subst hu
 exact hr.1
theorem RS.cells {x : SV} {v : Value} (h : RS P w R B g x v) : mQ P w R B g (jf x) v.cells.toList := by
 cases x with
 | c x =>
  have h1 := h.1
  have : v.cells = #[v] := by cases v <;> first | rfl | cases h1
  rw [this]
  exact ⟨rfl,fun k y hk => by
   cases k with
   | zero => simp [jf] at hk; subst hk; exact ⟨v,rfl,h⟩
   | succ k => simp [jf] at hk⟩
 | agg cs =>
  obtain ⟨vs,rfl,h1,h2⟩ := h
  exact ⟨by simpa [Value.cells,jf] using h1,fun k y hk => by simpa [Value.cells] using h2 k y hk⟩
theorem G7 {vs : List Value} (h : vs.all (·.oneCell') = true) : mQ P w R B g (vs.map sC) vs := ⟨by simp,fun k x hk => by
 rw [List.getElem?_map] at hk
 cases hv : vs[k]? with
 | none => rw [hv] at hk; cases hk
 | some v =>
  rw [hv] at hk
  injection hk with hk
  subst hk
  have := List.all_eq_true.1 h v (List.mem_of_getElem? hv)
  exact ⟨v,rfl,this,.sc this⟩⟩
theorem mQ.keep {cs : List CV} {vs : List Value} (h : mQ P w R B g cs vs) {R' B' : Nat → Prop} {g' : Nat → GS} {w' : World} {W X : List Nat} (had : fG R B g w W X R' B' g' w') (hw : WF R B g w) : mQ P w' R' B' g' (cs.map (bP X)) vs :=
 ⟨by simpa using h.1,fun k x hk => by
  rw [List.getElem?_map] at hk
  cases hc : cs[k]? with
  | none => rw [hc] at hk; cases hk
  | some y =>
   rw [hc] at hk
   injection hk with hk
   subst hk
   obtain ⟨u,hu,hr⟩ := h.2 k y hc
   exact ⟨u,hu,had.rc hw hr⟩⟩
theorem LT.newVar {o : Oper} {ins : List (Operand × AV)} {us : Mem} {t : TypeId} {n : Nat} {cs : List CV} (hl : cs.length = bQ P t)
  (h : ∀ R B g w (a : Act),WF R B g w → (∀ p ∈ ins,RA P w R B g p.2 (a.eval p.1)) → (∀ p ∈ us,RO P w R B g p.1 p.2) → ∃ vs : List Value,mQ P w R B g cs vs ∧ (execOp a.eval o).run P w = .ok (.value (.pointer (some ⟨w.heap.size,0,none⟩))) (w.alloc (.cells vs.toArray t))) :
  LT P o ins us (Cc (.pl n 0)) [(n,.row t [cs.map (bP [n])])] [] [n] := by
 intro R B g w a hw hi hu K Q hK
 obtain ⟨vs,hrel,hr⟩ := h R B g w a hw hi hu
 unfold Oper.wp
 rw [hr]
 have had := fG.alloc hw n (.cells vs.toArray t)
 have hk := hrel.keep had hw
 refine hK _ _ _ _ _ had (fun b hb => .inl hb) (fun _ => ⟨rfl,w.heap.size,upd_same ..,rfl⟩) (fun p hp => ?_)
 have : p = (n,.row t [cs.map (bP [n])]) := by simpa using hp
 subst this
 refine .inr ⟨w.heap.size,vs.toArray,upd_same ..,heap_alloc_new w _,fun c hc => ?_,?_,fun j k c x hj hx => ?_⟩
 ·have : c = cs.map (bP [n]) := by simpa using hc
  subst this
  simpa using hl
 ·simp only [List.length_singleton,Nat.one_mul,List.size_toArray,hrel.1]
  omega
 ·cases j with
  | zero =>
   simp at hj
   subst hj
   obtain ⟨u,hu,hr⟩ := hk.2 k x hx
   exact ⟨u,by simpa using hu,hr⟩
  | succ j => simp at hj
theorem LT.alloc {o : Oper} {t : TypeId} {n s b : Nat} {z : Value} {cells : List CV} (ho : o.op = .alloc t) (ht : TI P t z s b) (hc : z.cells.toList.map sC = cells) (h1 : z.cells.toList.all (·.oneCell') = true) (hl : cells.length = s) :
  LT P o [] [] (Cc (.pl n 0)) [(n,.row t [cells.map (bP [n])])] [] [n] :=
 .newVar (by rw [ht.sz]; exact hl) fun R B g w a _ _ _ => by
  obtain ⟨i,hi,hz,_⟩ := ht.parts
  refine ⟨z.cells.toList,by rw [← hc]; exact G7 h1,?_⟩
  simp [execOp,ho,Instr.alloc,zeroValue,typeInfo,hi,hz,Go.newVar,newRow]
theorem LT.box {o : Oper} {t : TypeId} {n s : Nat} {x : Operand} {v : SV} (ho : o.op = .box t x) (hs : bQ P t = s) (hl : (jf v).length = s) : LT P o [(x,.s v)] [] (Cc (.pl n 0)) [(n,.row t [(jf v).map (bP [n])])] [] [n] :=
 .newVar (by rw [hs]; exact hl) fun R B g w a _ hi _ => by
  have h := in1 hi
  refine ⟨(a.eval x).cells.toList,RS.cells h,?_⟩
  simp [execOp,ho,Instr.box,Go.newVar,newRow]
def zC (place : Nat → Option (Nat × Nat)) (cells : List CV) : List (Nat × SV) → Option (List CV)
 | [] => some cells
 | (i,v) :: rest => match place i with
  | none => none
  | some (off,size) => if (jf v).length ≠ size ∨ off + (jf v).length > cells.length then none else zC place (ow cells off (jf v)) rest
theorem foldl_set (l : List Value) : ∀ (cells : Array Value) (off i : Nat),off + i + l.length ≤ cells.size → (l.zipIdx i).foldl (fun cs (q : Value × Nat) => cs.setIfInBounds (off + q.2) q.1) cells = (ow cells.toList (off + i) l).toArray := by
 induction l with
 | nil =>
  intro cells off i _
  simp [ow]
 | cons v r ih =>
  intro cells off i h
  simp only [List.zipIdx_cons,List.foldl_cons]
  rw [ih (cells.setIfInBounds (off + i) v) off (i + 1) (by simp at h ⊢; omega)]
  congr 1
  have e := list_seg_step cells.toList (off + i) v r (by simp at h ⊢; omega)
  simpa [ow,Array.toList_setIfInBounds,Nat.add_assoc] using e
theorem Lp {place : Nat → Option (Nat × Nat)} : ∀ (ps : List (Nat × SV)) (EY : List (Nat × Value)) (cells : List CV) (vs : List Value) (out : List CV),mQ P w R B g cells vs →
  (EY.length = ps.length ∧ ∀ (k : Nat) q,ps[k]? = some q → ∃ u,EY[k]? = some (q.1,u) ∧ RS P w R B g q.2 u) → zC place cells ps = some out → ∃ uU : List Value,Instr.fill place vs.toArray EY = some uU.toArray ∧ mQ P w R B g out uU
 | [],[],cells,vs,out,hrel,_,h => by
  injection h with h
  subst h
  exact ⟨vs,rfl,hrel⟩
 | [],_ :: _,_,_,_,_,hp,_ => by simp at hp
 | (i,v) :: rest,EY,cells,vs,out,hrel,hp,h => by
  obtain ⟨u,hu,hr⟩ := hp.2 0 (i,v) rfl
  cases EY with
  | nil => simp at hu
  | cons vp aBM =>
   simp at hu
   subst hu
   unfold zC at h
   unfold Instr.fill
   cases hpl : place i with
   | none => rw [hpl] at h; cases h
   | some q =>
    obtain ⟨off,size⟩ := q
    rw [hpl] at h
    simp only at h ⊢
    split at h
    ·cases h
    ·rename_i hn
     have hcell := RS.cells hr
     have hlen : u.cells.size = (jf v).length := by simpa using hcell.1
     have hfit : off + (jf v).length ≤ cells.length := by omega
     rw [if_neg (by simpa [hlen,hrel.1] using hn)]
     have hf := foldl_set u.cells.toList vs.toArray off 0 (by simp [hrel.1,hlen]; omega)
     have hf' : u.cells.zipIdx.foldl (fun cs (x : Value × Nat) => cs.setIfInBounds (off + x.2) x.1) vs.toArray = (ow vs off u.cells.toList).toArray := by
      rw [← Array.foldl_toList,Array.toList_zipIdx]
      simpa using hf
     rw [hf']
     refine Lp rest aBM (ow cells off (jf v)) (ow vs off u.cells.toList) out ⟨?_,fun k x hk => ?_⟩ ⟨by simpa using hp.1,fun k q hk => by simpa using hp.2 (k + 1) q (by simpa using hk)⟩ h
     ·rw [Gh _ _ _ hfit,Gh _ _ _ (by rw [hrel.1,hcell.1]; exact hfit)]; exact hrel.1
     ·by_cases hin : off ≤ k ∧ k < off + (jf v).length
      ·rw [Gg _ _ _ hfit k hin.1 hin.2] at hk
       obtain ⟨y,hy,Jo⟩ := hcell.2 _ x hk
       exact ⟨y,by rw [Gg _ _ _ (by rw [hrel.1,hcell.1]; exact hfit) k hin.1 (by rw [hcell.1]; exact hin.2)]; exact hy,Jo⟩
      ·have hout : k < off ∨ off + (jf v).length ≤ k := by omega
       rw [EL _ _ _ hfit k hout] at hk
       obtain ⟨y,hy,Jo⟩ := hrel.2 k x hk
       exact ⟨y,by rw [EL _ _ _ (by rw [hrel.1,hcell.1]; exact hfit) k (by rw [hcell.1]; exact hout)]; exact hy,Jo⟩
def Az (P : Program) (t : TypeId) : Option (List (Nat × Nat)) :=
 match P.underlying t with
 | some (.struct fs) => fs.toList.mapM fun f => (P.info? f.type).map fun i => (f.offset,i.size)
 | _ => none
theorem run_places : ∀ (fs : List Field) (qN : List (Nat × Nat)),fs.mapM (fun f => (P.info? f.type).map fun i => (f.offset,i.size)) = some qN →
  (fs.mapM (fun f => do pure (f.offset,← sizeOf f.type) : Field → Sem (Nat × Nat))).run P w = .ok qN w
 | [],qN,h => by
  injection h with h
  subst h
  rfl
 | f :: fs,qN,h => by
  rw [List.mapM_cons] at h
  obtain ⟨p,hp,h2⟩ := Option.bind_eq_some_iff.1 h
  obtain ⟨r,hr,h3⟩ := Option.bind_eq_some_iff.1 h2
  injection h3 with h3
  subst h3
  obtain ⟨i,hi,hpi⟩ := Option.map_eq_some_iff.1 hp
  subst hpi
  have ih := run_places fs r hr
  have hs : (sizeOf f.type).run P w = .ok i.size w := by simp [sizeOf,typeInfo,hi]
  simp only [List.mapM_cons,Sem.run_bind,hs,Result.andThen_ok,Sem.run_pure,ih]
abbrev Parts := List (Nat × Operand × SV)
def Parts.ins (ps : Parts) : List (Operand × AV) := ps.map fun q => (q.2.1,.s q.2.2)
def Parts.vals (ps : Parts) : List (Nat × SV) := ps.map fun q => (q.1,q.2.2)
def Parts.ops (ps : Parts) : List (Nat × Operand) := ps.map fun q => (q.1,q.2.1)
theorem RY {a : Act} {ps : Parts} (h : ∀ p ∈ Parts.ins ps,RA P w R B g p.2 (a.eval p.1)) :
  ((Parts.ops ps).map fun q => (q.1,a.eval q.2)).length = (Parts.vals ps).length ∧ ∀ (k : Nat) q,(Parts.vals ps)[k]? = some q → ∃ u,((Parts.ops ps).map fun q => (q.1,a.eval q.2))[k]? = some (q.1,u) ∧ RS P w R B g q.2 u := by
 refine ⟨by simp [Parts.ops,Parts.vals],fun k q hk => ?_⟩
 unfold Parts.vals at hk
 rw [List.getElem?_map] at hk
 cases hx : ps[k]? with
 | none => rw [hx] at hk; cases hk
 | some y =>
  rw [hx] at hk
  injection hk with hk
  subst hk
  refine ⟨a.eval y.2.1,by simp [Parts.ops,hx],?_⟩
  exact h (y.2.1,.s y.2.2) (List.mem_map.2 ⟨y,List.mem_of_getElem? hx,rfl⟩)
theorem LT.build {o : Oper} {t : TypeId} {parts : Array (Nat × Operand)} (ps : Parts) {qN : List (Nat × Nat)} {z : Value} {s b : Nat} {zc out : List CV} (ho : o.op = .build t parts) (hps : parts.toList = Parts.ops ps) (hp : Az P t = some qN) (hz : TI P t z s b)
  (hzc : z.cells.toList.map sC = zc) (h1 : z.cells.toList.all (·.oneCell') = true) (hf : zC (fun i => qN[i]?) zc (Parts.vals ps) = some out) : LT P o (Parts.ins ps) [] (Ag out) [] [] [] := .calm fun R B g w a _ hi _ => by
 obtain ⟨i,hi1,hi2,_⟩ := hz.parts
 unfold Az at hp
 split at hp
 ·rename_i fs hfs
  have hrel : mQ P w R B g zc z.cells.toList := by rw [← hzc]; exact G7 h1
  obtain ⟨uU,k1,k2⟩ := Lp (place := fun i => qN[i]?) (Parts.vals ps) _ zc z.cells.toList out hrel (RY hi) hf
  refine ⟨.agg uU.toArray,?_,uU,rfl,k2.1,k2.2⟩
  have hpl : (fs.mapM (fun f => do pure (f.offset,← sizeOf f.type) : Field → Sem (Nat × Nat))).run P w = .ok qN.toArray w := by
   rw [Array.mapM_eq_mapM_toList]
   simp only [Sem.run_map,run_places fs.toList qN hp,Result.andThen_ok]
  have hpa : (parts.map fun x => (x.1,a.eval x.2)).toList = (Parts.ops ps).map fun q => (q.1,a.eval q.2) := by rw [Array.toList_map,hps]
  have hk1 : Instr.fill (fun x => qN.toArray[x]?) z.cells (parts.map fun x => (x.1,a.eval x.2)).toList = some uU.toArray := by
   rw [hpa]
   simpa using k1
  simp only [execOp,ho,Instr.build,Sem.run_bind,zeroValue,typeInfo,run_program,Result.andThen_ok,hi1,Sem.run_pure,hi2,run_underlying hfs,hpl,hk1]
 ·cases hp
theorem FP {α : Type} {s : Nat} : ∀ (els : List (List α)),(∀ cs ∈ els,cs.length = s) → ∀ (j k : Nat) cs x,els[j]? = some cs → cs[k]? = some x → els.flatten[j * s + k]? = some x
 | [],_,j,_,_,_,hj,_ => by simp at hj
 | c :: els,h,0,k,cs,x,hj,hk => by
  simp at hj
  subst hj
  rw [List.flatten_cons,Nat.zero_mul,Nat.zero_add,List.getElem?_append_left (List.getElem?_eq_some_iff.1 hk).1]
  exact hk
 | c :: els,h,j + 1,k,cs,x,hj,hk => by
  have hc : c.length = s := h c List.mem_cons_self
  have ih := FP els (fun cs hcs => h cs (List.mem_cons_of_mem _ hcs)) j k cs x (by simpa using hj) hk
  rw [List.flatten_cons,List.getElem?_append_right (by rw [hc,Nat.succ_mul]; omega),hc,show (j + 1) * s + k - s = j * s + k by rw [Nat.succ_mul]; omega]
  exact ih
theorem flat_length {α : Type} {s : Nat} : ∀ (els : List (List α)),(∀ cs ∈ els,cs.length = s) → els.flatten.length = els.length * s
 | [],_ => by simp
 | c :: els,h => by
  rw [List.flatten_cons,List.length_append,h c List.mem_cons_self,flat_length els (fun cs hcs => h cs (List.mem_cons_of_mem _ hcs)),List.length_cons,Nat.succ_mul]
  omega
theorem LT.newRow {o : Oper} {ins : List (Operand × AV)} {us : Mem} {e : TypeId} {n : Nat} {els : List (List CV)} (hl : ∀ cs ∈ els,cs.length = bQ P e) (hm : els.length ≤ maxLen)
  (h : ∀ R B g w (a : Act),WF R B g w → (∀ p ∈ ins,RA P w R B g p.2 (a.eval p.1)) → (∀ p ∈ us,RO P w R B g p.1 p.2) →
   ∃ vs : List Value,mQ P w R B g els.flatten vs ∧ (execOp a.eval o).run P w = .ok (.value (.slice (some ⟨w.heap.size,0,none⟩) els.length els.length)) (w.alloc (.cells vs.toArray e))) :
  LT P o ins us (Cc (.loc n 0 els.length)) [(n,.row e (els.map (·.map (bP [n]))))] [] [n] := by
 intro R B g w a hw hi hu K Q hK
 obtain ⟨vs,hrel,hr⟩ := h R B g w a hw hi hu
 unfold Oper.wp
 rw [hr]
 have had := fG.alloc hw n (.cells vs.toArray e)
 have hk := hrel.keep had hw
 have hvl : vs.length = els.length * bQ P e := by rw [hrel.1,flat_length els hl]
 refine hK _ _ _ _ _ had (fun b hb => .inl hb) (fun _ => ⟨rfl,.inr (.inr ⟨w.heap.size,els.length,vs.toArray,e,upd_same ..,heap_alloc_new w _,Nat.le_refl _,by omega,by simp [hvl],by simp⟩)⟩) (fun p hp => ?_)
 have : p = (n,.row e (els.map (·.map (bP [n])))) := by simpa using hp
 subst this
 have hl' : ∀ cs ∈ els.map (·.map (bP [n])),cs.length = bQ P e := fun cs hcs => by
  obtain ⟨c0,hc0,rfl⟩ := List.mem_map.1 hcs
  simpa using hl c0 hc0
 refine .inr ⟨w.heap.size,vs.toArray,upd_same ..,heap_alloc_new w _,hl',by simp [hvl],fun j k c x hj hx => ?_⟩
 have hf := FP _ hl' j k c x hj hx
 rw [← List.map_flatten] at hf
 obtain ⟨u,hu,hr⟩ := hk.2 _ x hf
 exact ⟨u,by simpa using hu,hr⟩
theorem LT.buildSlice {o : Oper} {t e : TypeId} {len n : Nat} {parts : Array (Nat × Operand)} (ps : Parts) {z : Value} {s b : Nat} {zc : List CV} {els : List (List CV)} (ho : o.op = .buildSlice t len parts) (hps : parts.toList = Parts.ops ps) (he : P.underlying t = some (.slice e)) (hz : TI P e z s b)
  (hzc : z.cells.toList.map sC = zc) (h1 : z.cells.toList.all (·.oneCell') = true) (hsz : zc.length = s) (hlen : els.length = len) (hmax : len * s ≤ 16777216 ∧ 0 < s) (hel : els.all (fun cs => Nat.beq cs.length s) = true)
  (hf : zC (fun i => some (i * s,s)) ((List.range (len * s)).map fun i => zc.getD (i % s) .junk) (Parts.vals ps) = some els.flatten) :
  LT P o (Parts.ins ps) [] (Cc (.loc n 0 els.length)) [(n,.row e (els.map (·.map (bP [n]))))] [] [n] := by
 have XU : ∀ cs ∈ els,cs.length = bQ P e := fun cs hcs => by
  rw [hz.sz]
  exact Nat.eq_of_beq_eq_true (List.all_eq_true.1 hel cs hcs)
 have hlm : len ≤ 16777216 := Nat.le_trans (Nat.le_mul_of_pos_right len hmax.2) hmax.1
 refine .newRow XU (by simp only [maxLen]; omega) fun R B g w a _ hi _ => ?_
 obtain ⟨i,hi1,hi2,hi3,_⟩ := hz.parts
 have hzs : z.cells.size = s := by rw [← hsz,← hzc]; simp
 have hrel : mQ P w R B g ((List.range (len * s)).map fun i => zc.getD (i % s) .junk) ((List.range (len * s)).map fun i => z.cells[i % z.cells.size]!) := by
  refine ⟨by simp,fun k x hk => ?_⟩
  rw [List.getElem?_map] at hk ⊢
  cases hr : (List.range (len * s))[k]? with
  | none => rw [hr] at hk; cases hk
  | some m =>
   rw [hr] at hk
   injection hk with hk
   subst hk
   have hms : m % s < s := Nat.mod_lt _ hmax.2
   have hrz : mQ P w R B g zc z.cells.toList := by rw [← hzc]; exact G7 h1
   obtain ⟨u,hu,xJ⟩ := hrz.2 (m % s) (zc.getD (m % s) .junk) (by rw [List.getD_eq_getElem?_getD,List.getElem?_eq_getElem (by omega)]; rfl)
   refine ⟨u,?_,xJ⟩
   have : z.cells[m % s]? = some u := by simpa using hu
   rw [hzs]
   simp [getElem!_def,this]
 obtain ⟨uU,k1,k2⟩ := Lp (place := fun i => some (i * s,s)) (Parts.vals ps) _ _ _ els.flatten hrel (RY hi) hf
 refine ⟨uU,k2,?_⟩
 have hpa : (parts.map fun x => (x.1,a.eval x.2)).toList = (Parts.ops ps).map fun q => (q.1,a.eval q.2) := by rw [Array.toList_map,hps]
 have hno : ¬ (16777216 < len * s) := by omega
 have hk1 : Instr.fill (fun i => some (i * s,s)) ((Array.range (len * s)).map fun x => z.cells[x % z.cells.size]!) (parts.map fun x => (x.1,a.eval x.2)).toList = some uU.toArray := by
  rw [hpa,← k1]
  congr 1
  apply Array.ext'
  simp
 rw [Array.toList_map] at hk1
 by_cases h0 : len * s = 0
 ·simp only [h0,Array.range_zero',Array.map_empty] at hk1
  simp [execOp,ho,Instr.buildSlice,run_underlying he,sizeOf,typeInfo,hi1,hi3,h0,Array.range_zero',hk1,Go.newRow,hlen]
 ·simp [execOp,ho,Instr.buildSlice,run_underlying he,sizeOf,typeInfo,hi1,hi3,hno,h0,zeroValue,hi2,hk1,Go.newRow,hlen]
theorem LT.makeSlice {o : Oper} {t e : TypeId} {n : Nat} {x y : Operand} {len : Int} {z : Value} {s b : Nat} {zc : List CV} (ho : o.op = .makeSlice t x y) (he : P.underlying t = some (.slice e)) (hz : TI P e z s b)
  (hzc : z.cells.toList.map sC = zc) (h1 : z.cells.toList.all (·.oneCell') = true) (hsz : zc.length = s) (hs : 0 < s) (hb : b ≤ 65536) (hl : 0 ≤ len ∧ len ≤ pI) :
  LT P o [(x,Iv len),(y,Iv len)] [] (Cc (.loc n 0 (List.replicate len.toNat zc).length)) [(n,.row e ((List.replicate len.toNat zc).map (·.map (bP [n]))))] [] [n] := by
 have hl2 : len ≤ 2147483648 := hl.2
 refine .newRow (fun cs hcs => by rw [List.eq_of_mem_replicate hcs,hz.sz]; exact hsz) (by simp only [List.length_replicate,maxLen]; omega) fun R B g w a _ hi _ => ?_
 obtain ⟨i,hi1,hi2,hi3,hi4⟩ := hz.parts
 have hzs : z.cells.size = s := by rw [← hsz,← hzc]; simp
 have hbb : (i.bytes : Int) * len ≤ 281474976710656 := by
  rw [hi4]
  have : (b : Int) * len ≤ 65536 * 2147483648 := Int.mul_le_mul (by omega) hl2 hl.1 (by omega)
  omega
 have hr := run_make (P := P) w t e i z he hi1 hi2 .i64 .i64 len len hl.1 (Int.le_refl _) hbb (by omega)
 refine ⟨(madeCells z.cells (len.toNat * i.size)).toList,⟨?_,fun k c hk => ?_⟩,?_⟩
 ·rw [flat_length (s := s) _ (fun cs hcs => by rw [List.eq_of_mem_replicate hcs]; exact hsz)]
  simp [madeCells,hi3]
 ·have hkl : k < len.toNat * s := by
   have := (List.getElem?_eq_some_iff.1 hk).1
   rwa [flat_length (s := s) _ (fun cs hcs => by rw [List.eq_of_mem_replicate hcs]; exact hsz),List.length_replicate] at this
  have hj : k / s < len.toNat := Nat.div_lt_of_lt_mul (by rw [Nat.mul_comm]; exact hkl)
  have hms : k % s < s := Nat.mod_lt _ hs
  have hf := FP (s := s) (List.replicate len.toNat zc) (fun cs hcs => by rw [List.eq_of_mem_replicate hcs]; exact hsz) (k / s) (k % s) zc zc[k % s] (by simp [hj]) (List.getElem?_eq_getElem (by omega))
  rw [show k / s * s + k % s = k by rw [Nat.mul_comm]; exact Nat.div_add_mod k s] at hf
  rw [hf] at hk
  injection hk with hk
  subst hk
  have hrz : mQ P w R B g zc z.cells.toList := by rw [← hzc]; exact G7 h1
  obtain ⟨u,hu,xJ⟩ := hrz.2 (k % s) zc[k % s] (List.getElem?_eq_getElem (by omega))
  refine ⟨u,?_,xJ⟩
  have : z.cells[k % s]? = some u := by simpa using hu
  simp [madeCells,hzs,hi3,hkl,getElem!_def,this]
 ·simp only [execOp,ho,lH (in1 hi),lH (in2 hi),Sem.run_bind,hr,Result.andThen_ok,Sem.run_pure,List.length_replicate,Array.toArray_toList]
end
end Go.Fw
end
section
set_option linter.unusedVariables false
set_option linter.unusedSimpArgs false
set_option linter.unnecessarySimpa false
namespace Go.Fw
section
variable {P : Program} {w : World} {R B : Nat → Prop} {g : Nat → GS}
theorem fG.setRow (h : WF R B g w) {n b : Nat} {cur cur' : Array Value} {e : TypeId} (hn : g n = .blk b) (hh : w.heap[b]? = some (.cells cur e (0,0))) (hs : cur'.size = cur.size) : fG R B g w [n] [] R B g (w.setRow b cur') where
 wf := h.mono (by simp [World.setRow])
 r _ h := h
 b _ h := h
 os := rfl
 tape := rfl
 output := rfl
 size := by simp [World.setRow]
 heap c _ hc := setRow_other w b c cur' (fun e => hc n List.mem_cons_self (by rw [hn,e]; rfl))
 names _ _ := rfl
 fresh _ hk := by cases hk
 shape k hk _ c cu e' hg hc := by
  have : k = n := by simpa using hk
  subst this
  rw [hn] at hg
  have hg : b = c := Eq.symm hg
  subst hg
  rw [hh] at hc
  injection hc with hc
  injection hc with h1 h2 h3
  subst h1
  subst h2
  exact ⟨cur',setRow_heap w b cur cur' e (0,0) hh,hs⟩
theorem aAD {v : Value} (h : v.oneCell' = true) : v.cells = #[v] := by cases v <;> first | rfl | cases h
theorem LT.store {o : Oper} {t e : TypeId} {n off j k s : Nat} {x y : Operand} {els : List (List CV)} {cs : List CV} {v : SV} (ho : o.op = .store t x y) (hd : o.dst = none) {i : TypeInfo} (hi : P.info? t = some i) (hs : bQ P t = s) (hl : (jf v).length = s) (hj : els[j]? = some cs)
  (ha : off = j * bQ P e + k) (hk : k + s ≤ cs.length) : LT P o [(x,Cc (.pl n off)),(y,.s v)] [(n,.row e els)] (.dI []) [(n,.row e (els.set j (ow cs k (jf v))))] [n] [] := by
 intro R B g w a hw hin hu K Q hK
 obtain ⟨_,b,hb,hx⟩ := in1 hin
 have hro := o9 hu
 have hrel := RS.cells (in2 hin)
 rcases hro with ⟨h1,_⟩ | ⟨b',cur,h1,h2,h3,h4,h5⟩
 ·rw [hb] at h1; cases h1
 rw [hb] at h1
 injection h1 with h1
 subst h1
 have hcs : cs.length = bQ P e := h3 cs (List.mem_of_getElem? hj)
 have hjl : j < els.length := (List.getElem?_eq_some_iff.1 hj).1
 have hsz : (a.eval y).cells.size = s := by rw [← hl,← hrel.1]; simp
 have hrow : j * bQ P e + bQ P e ≤ els.length * bQ P e := by
  have := Nat.mul_le_mul_right (bQ P e) hjl
  rwa [Nat.succ_mul] at this
 have hfit : off + (a.eval y).cells.toList.length ≤ cur.toList.length := by
  simp only [Array.length_toList,hsz]
  omega
 have hst := run_storeCells_at P b off e (a.eval y).cells.toList 0 cur w h2 (by simpa using hfit) hrel.one
 simp only [Nat.add_zero] at hst
 have hrun : (execOp a.eval o).run P w = .ok .skip (w.setRow b (ow cur.toList off (a.eval y).cells.toList).toArray) := by
  have hsz' : (a.eval y).cells.size = i.size := by rw [hsz,← hs,MC hi]
  simp [execOp,ho,hx,Instr.storeAt,Instr.sureAddr,storeVar,sizeOf,typeInfo,hi,hsz',ow] at hst ⊢
  rw [hst]
  rfl
 unfold Oper.wp
 rw [hrun]
 have hsize : (ow cur.toList off (a.eval y).cells.toList).toArray.size = cur.size := by
  rw [List.size_toArray,Gh _ _ _ hfit]; simp
 have had := fG.setRow hw hb h2 hsize
 refine hK undef R B g _ had (fun b hb => .inl hb) (fun h => by rw [hd] at h; cases h) (fun p hp => ?_)
 have : p = (n,.row e (els.set j (ow cs k (jf v)))) := by simpa using hp
 subst this
 have hkc : k + (jf v).length ≤ cs.length := by rw [hl]; exact hk
 refine .inr ⟨b,_,hb,setRow_heap w b cur _ e (0,0) h2,fun c hc => ?_,by rw [hsize]; simpa using h4,fun j' k' c y' hj' hk' => ?_⟩
 ·rcases List.mem_or_eq_of_mem_set hc with h | h
  ·exact h3 c h
  ·rw [h,Gh _ _ _ hkc]; exact hcs
 ·have lift : ∀ {y' : CV} {u : Value},RC P w R B g y' u → RC P (w.setRow b (ow cur.toList off (a.eval y).cells.toList).toArray) R B g y' u := fun hr => by
   have := had.rc hw hr
   rwa [Fz] at this
  have hvl : (a.eval y).cells.toList.length = s := by simpa using hsz
  rw [List.getElem?_set] at hj'
  by_cases hjj : j = j'
  ·subst hjj
   rw [if_pos rfl,if_pos hjl] at hj'
   injection hj' with hj'
   subst hj'
   by_cases hin' : k ≤ k' ∧ k' < k + (jf v).length
   ·rw [Gg _ _ _ hkc k' hin'.1 hin'.2] at hk'
    obtain ⟨u,hu1,hu2⟩ := hrel.2 _ y' hk'
    refine ⟨u,?_,lift hu2⟩
    have : (ow cur.toList off (a.eval y).cells.toList)[j * bQ P e + k']? = some u := by
     rw [Gg _ _ _ hfit _ (by omega) (by rw [hvl]; omega),← hu1]
     congr 1
     omega
    simpa using this
   ·have hout : k' < k ∨ k + (jf v).length ≤ k' := by omega
    rw [EL _ _ _ hkc k' hout] at hk'
    obtain ⟨u,hu1,hu2⟩ := h5 j k' cs y' hj hk'
    refine ⟨u,?_,lift hu2⟩
    have : (ow cur.toList off (a.eval y).cells.toList)[j * bQ P e + k']? = some u := by
     rw [EL _ _ _ hfit _ (by rw [hvl]; omega)]
     simpa using hu1
    simpa using this
  ·rw [if_neg hjj] at hj'
   obtain ⟨u,hu1,hu2⟩ := h5 j' k' c y' hj' hk'
   refine ⟨u,?_,lift hu2⟩
   have Xa : k' < bQ P e := by rw [← h3 c (List.mem_of_getElem? hj')]; exact (List.getElem?_eq_some_iff.1 hk').1
   have hne : ∀ q,q < bQ P e → j * bQ P e + q ≠ j' * bQ P e + k' := fun q hq => Z4 hq Xa hjj
   have hout : j' * bQ P e + k' < off ∨ off + (a.eval y).cells.toList.length ≤ j' * bQ P e + k' := by
    rw [hvl]
    rcases Nat.lt_or_ge (j' * bQ P e + k') off with h | h
    ·exact .inl h
    ·refine .inr (Nat.le_of_not_lt fun h' => ?_)
     exact hne (j' * bQ P e + k' - j * bQ P e) (by omega) (by omega)
   have : (ow cur.toList off (a.eval y).cells.toList)[j' * bQ P e + k']? = some u := by
    rw [EL _ _ _ hfit _ hout]
    simpa using hu1
   simpa using this
theorem LT.conv {o : Oper} {ins : List (Operand × AV)} {us MJ df Ol : Mem} {v : AV} {W X : List Nat} (h1 : ∀ (w : World) (R B : Nat → Prop) (g : Nat → GS),(∀ p ∈ MJ,RO P w R B g p.1 p.2) → ∀ p ∈ us,RO P w R B g p.1 p.2)
  (h2 : ∀ (w : World) (R B : Nat → Prop) (g : Nat → GS),(∀ p ∈ df,RO P w R B g p.1 p.2) → ∀ p ∈ Ol,RO P w R B g p.1 p.2) (h : LT P o ins us v df W X) : LT P o ins MJ v Ol W X :=
 fun R B g w a hw hi hu K Q hK => h R B g w a hw hi (h1 w R B g hu) K Q fun u R' B' g' w' had hR hv hob => hK u R' B' g' w' had hR hv (h2 w' R' B' g' hob)
theorem GZ {n : Nat} {ob : Ob} (h : RO P w R B g n ob) : ∀ p ∈ [(n,ob)],RO P w R B g p.1 p.2 := fun p hp => by
 have : p = (n,ob) := by simpa using hp
 subst this
 exact h
theorem LT.zA {o : Oper} {ins : List (Operand × AV)} {us : Mem} {v : AV} {n : Nat} {e : TypeId} {iV : List (List PV)} {W X Y : List Nat} (h : LT P o ins us v [(n,.row e ((dG iV).map (·.map (bP Y))))] W X) : LT P o ins us v [(n,.dU e iV)] W X :=
 h.conv (fun _ _ _ _ h => h) fun w R B g hu => GZ (by have := o9 hu; rwa [EN] at this)
theorem LT.EX {o : Oper} {ins : List (Operand × AV)} {df : Mem} {v : AV} {n : Nat} {e : TypeId} {iV : List (List PV)} {W X : List Nat} (h : LT P o ins [(n,.row e (dG iV))] v df W X) : LT P o ins [(n,.dU e iV)] v df W X :=
 LT.conv (us := [(n,.row e (dG iV))]) (MJ := [(n,.dU e iV)]) (fun w R B g hu => GZ (ob := .row e (dG iV)) (o9 (ob := .dU e iV) hu)) (fun _ _ _ _ h => h) h
theorem wB (els : List (List PV)) : (dG els).length = els.length := by simp [dG]
theorem I4 {α : Type} {s : Nat} (hs : 0 < s) : ∀ (els : List (List α)),(∀ cs ∈ els,cs.length = s) → ∀ (i : Nat) x,els.flatten[i]? = some x → ∃ cs,els[i / s]? = some cs ∧ cs[i % s]? = some x
 | [],_,i,x,h => by simp at h
 | c :: els,hl,i,x,h => by
  have hc : c.length = s := hl c List.mem_cons_self
  rw [List.flatten_cons] at h
  by_cases hi : i < s
  ·rw [List.getElem?_append_left (by omega)] at h
   exact ⟨c,by rw [Nat.div_eq_of_lt hi]; rfl,by rw [Nat.mod_eq_of_lt hi]; exact h⟩
  ·rw [List.getElem?_append_right (by omega),hc] at h
   obtain ⟨cs,h1,h2⟩ := I4 hs els (fun cs hcs => hl cs (List.mem_cons_of_mem _ hcs)) (i - s) x h
   refine ⟨cs,?_,?_⟩
   ·rw [Nat.div_eq_sub_div hs (by omega)]; exact h1
   ·rw [Nat.mod_eq_sub_mod (by omega)]; exact h2
theorem dh.flat {n b : Nat} {e : TypeId} {els : List (List CV)} (hs : 0 < bQ P e) (h : dh P w R B g n e els) (hb : g n = .blk b) :
  (∀ cs ∈ els,cs.length = bQ P e) ∧ ∃ cur,w.heap[b]? = some (.cells cur e (0,0)) ∧ els.length * bQ P e ≤ cur.size ∧ mQ P w R B g els.flatten (cur.toList.take (els.length * bQ P e)) := by
 rcases h with ⟨h1,_⟩ | ⟨b',cur,h1,h2,h3,h4,h5⟩
 ·rw [hb] at h1; cases h1
 ·rw [hb] at h1
  injection h1 with h1
  subst h1
  refine ⟨h3,cur,h2,h4,by rw [flat_length els h3]; simp; omega,fun i x hi => ?_⟩
  obtain ⟨cs,k1,k2⟩ := I4 hs els h3 i x hi
  obtain ⟨u,hu,hr⟩ := h5 _ _ cs x k1 k2
  have hil : i < els.length * bQ P e := by rw [← flat_length els h3]; exact (List.getElem?_eq_some_iff.1 hi).1
  refine ⟨u,?_,hr⟩
  rw [List.getElem?_take,if_pos hil]
  have : i / bQ P e * bQ P e + i % bQ P e = i := by rw [Nat.mul_comm]; exact Nat.div_add_mod i _
  rw [this] at hu
  simpa using hu
theorem dh.of_flat {n b : Nat} {e : TypeId} {els : List (List CV)} {cur : Array Value} (hb : g n = .blk b) (hl : ∀ cs ∈ els,cs.length = bQ P e) (hh : w.heap[b]? = some (.cells cur e (0,0))) (hc : els.length * bQ P e ≤ cur.size)
  (hr : mQ P w R B g els.flatten (cur.toList.take (els.length * bQ P e))) : dh P w R B g n e els :=
 .inr ⟨b,cur,hb,hh,hl,hc,fun j k cs x hj hk => by
  obtain ⟨u,hu,xJ⟩ := hr.2 _ x (FP els hl j k cs x hj hk)
  refine ⟨u,?_,xJ⟩
  rw [List.getElem?_take] at hu
  split at hu
  ·simpa using hu
  ·cases hu⟩
def y7 (P : Program) (w : World) (R B : Nat → Prop) (g : Nat → GS) (v : Value) (els : List (List CV)) (s : Nat) : Prop :=
 ∃ A c,v = .slice A els.length c ∧ ∃ news : List Value,mQ P w R B g els.flatten news ∧ ∀ i u,news[i]? = some u → ∃ ad,A = some ad ∧ w.cell? (ad.add i) = some u
theorem aA5 {v : Value} {q : Bool} {els : List (List PV)} {s : Nat} (hs : 0 < s) (hl : ∀ cs ∈ els,cs.length = s) (h : RC P w R B g (.pv (.xs q els)) v) : y7 P w R B g v (dG els) s := by
 obtain ⟨_,h⟩ := h
 cases h with
 | emp => exact ⟨_,_,rfl,[],⟨rfl,fun k x hk => by simp [dG] at hk⟩,fun i u hu => by simp at hu⟩
 | @xs _ _ ad c s' n val hn hq hc hs' hv hr =>
  subst hn
  have hss : ∀ cs ∈ els,s' = s := fun cs hcs => (hs' cs hcs).symm.trans (hl cs hcs)
  have CU : ∀ (i : Nat) p,els.flatten[i]? = some p → ∃ cs,els[i / s]? = some cs ∧ cs[i % s]? = some p := I4 hs els hl
  refine ⟨some ad,c,by simp [dG],(List.range els.flatten.length).map fun i => val (i / s) (i % s),⟨by simp [dG,← List.map_flatten],fun k x hk => ?_⟩,fun i u hu => ?_⟩
  ·simp only [dG,← List.map_flatten,List.getElem?_map] at hk
   cases hp : els.flatten[k]? with
   | none => rw [hp] at hk; cases hk
   | some p =>
    rw [hp] at hk
    injection hk with hk
    subst hk
    obtain ⟨cs,h1,h2⟩ := CU k p hp
    have hlt : k < els.flatten.length := (List.getElem?_eq_some_iff.1 hp).1
    exact ⟨val (k / s) (k % s),by rw [List.getElem?_map,List.getElem?_range hlt]; rfl,(hr _ _ _ _ h1 h2).oneCell,hr _ _ _ _ h1 h2⟩
  ·rw [List.getElem?_map] at hu
   cases hi : (List.range els.flatten.length)[i]? with
   | none => rw [hi] at hu; cases hu
   | some i' =>
    rw [hi] at hu
    injection hu with hu
    subst hu
    have hlt : i < els.flatten.length := by simpa using (List.getElem?_eq_some_iff.1 hi).1
    have hii : i = i' := by
     rw [List.getElem?_eq_getElem (by simpa using hlt)] at hi
     simpa using hi
    subst hii
    obtain ⟨cs,h1,h2⟩ := CU i els.flatten[i] (List.getElem?_eq_getElem hlt)
    refine ⟨ad,rfl,?_⟩
    have := hv _ _ _ _ h1 h2
    rw [hss cs (List.mem_of_getElem? h1)] at this
    rwa [show i / s * s + i % s = i by rw [Nat.mul_comm]; exact Nat.div_add_mod i s] at this
theorem aA3 {v : Value} {n : Nat} {e : TypeId} {els : List (List CV)} (hs : 0 < bQ P e) (h : RC P w R B g (.loc n 0 els.length) v) (ho : dh P w R B g n e els) : y7 P w R B g v els (bQ P e) := by
 obtain ⟨_,h⟩ := h
 rcases h with ⟨h1,_,h3,h4⟩ | ⟨_,h2,_⟩ | ⟨b,cap,cur,e',k1,k2,k3,k4,k5,k6⟩
 ·have : els = [] := List.eq_nil_of_length_eq_zero h3
  subst this
  exact ⟨none,0,h4,[],⟨rfl,fun k x hk => by simp at hk⟩,fun i u hu => by simp at hu⟩
 ·exact absurd rfl h2
 ·obtain ⟨hl,cur',h5,h6,h7⟩ := ho.flat hs k1
  rw [k2] at h5
  injection h5 with h5
  injection h5 with h5 h8 h9
  subst h5
  subst h8
  refine ⟨some ⟨b,0,none⟩,cap,by simpa using k6,_,h7,fun i u hu => ⟨_,rfl,?_⟩⟩
  rw [add_lit,Nat.zero_add,BI k2]
  rw [List.getElem?_take] at hu
  split at hu
  ·simpa using hu
  ·cases hu
theorem SC {t ty e : TypeId} {i : TypeInfo} (ht : P.underlying t = some (.slice e)) (hi : P.info? e = some i) (A : Option Addr) (n c c' : Nat) (hn : n ≤ c) (w : World) :
  (Builtin.append_ #[t,t] ty #[.slice A n c,.slice none 0 c']).run P w = .ok (.slice A n c) w := by
 cases A <;> simp [Builtin.append_,run_underlying ht,sizeOf,typeInfo,hi,Builtin.lenOf,Builtin.firstCells,storeCells,hn]
def NM (P : Program) (w : World) (R B : Nat → Prop) (g : Nat → GS) (n : Nat) (e : TypeId) (v : Value) (els : List (List CV)) : Prop :=
 (v = aO ∧ els = []) ∨ (RC P w R B g (.loc n 0 els.length) v ∧ dh P w R B g n e els)
theorem aAb {t ty e : TypeId} {z : Value} {s lm : Nat} (ht : P.underlying t = some (.slice e)) (hz : TI P e z s lm) (hzs : z.cells.size = s) (hs : 0 < s) (hb : lm ≤ 65536) (hw : WF R B g w) {n : Nat} {v x : Value} {els kU : List (List CV)}
  (hl2 : ∀ cs ∈ kU,cs.length = s) (hv : NM P w R B g n e v els) (hx : y7 P w R B g x kU s) (hlim : els.length + kU.length ≤ pI) (W : List Nat) (hW : W = [n] ∨ (v = aO ∧ W = [])) :
  ∃ v' g' w',(Builtin.append_ #[t,t] ty #[v,x]).run P w = .ok v' w' ∧ fG R B g w W [n] R B g' w' ∧ RC P w' R B g' (.loc n 0 (els.length + kU.length)) v' ∧ dh P w' R B g' n e ((els ++ kU).map (·.map (bP [n]))) := by
 obtain ⟨i,hi1,hi2,hi3,hi4⟩ := hz.parts
 have hsz : bQ P e = s := hz.sz
 have Xc : els.length + kU.length ≤ 2147483648 := hlim
 -- the target owns its row
 have hown : ∃ xs,w.ownsRow 0 e s v els.length xs ∧ mQ P w R B g els.flatten xs ∧ (∀ cs ∈ els,cs.length = s) ∧ (∀ b,v.ownBlock = some b → g n = .blk b) := by
  rcases hv with ⟨rfl,rfl⟩ | ⟨hv1,hv2⟩
  ·exact ⟨[],World.ownsRow_nil w 0 e s,⟨rfl,fun k x hk => by simp at hk⟩,fun cs hcs => by simp at hcs,fun b hb => by simp [Value.ownBlock] at hb⟩
  ·obtain ⟨_,hv1⟩ := hv1
   rcases hv1 with ⟨h1,_,h3,h4⟩ | ⟨_,h2,_⟩ | ⟨b,cap,cur,e',k1,k2,k3,k4,k5,k6⟩
   ·have : els = [] := List.eq_nil_of_length_eq_zero h3
    subst this
    subst h4
    exact ⟨[],World.ownsRow_nil w 0 e s,⟨rfl,fun k x hk => by simp at hk⟩,fun cs hcs => by simp at hcs,fun b hb => by simp [Value.ownBlock] at hb⟩
   ·exact absurd rfl h2
   ·obtain ⟨hl,cur',h5,h6,h7⟩ := hv2.flat (by rw [hsz]; exact hs) k1
    rw [k2] at h5
    injection h5 with h5
    injection h5 with h5 h8 h9
    subst h5
    subst h8
    rw [hsz] at h7 h6 hl k5
    have hk6 : v = .slice (some ⟨b,0,none⟩) els.length cap := by simpa using k6
    refine ⟨_,⟨?_,.inr ⟨b,cap,cur,hk6,Nat.zero_le _,k2,k3,by omega,by simpa using k5.symm,rfl⟩⟩,h7,hl,fun b' hb' => ?_⟩
    ·simp; omega
    ·rw [hk6] at hb'
     simp [Value.ownBlock] at hb'
     rw [← hb']; exact k1
 obtain ⟨xs,hown,PS,hlx,hblk⟩ := hown
 obtain ⟨A,c,rfl,news,Fb,hcell⟩ := hx
 have hnl : news.length = kU.length * s := by rw [Fb.1,flat_length kU hl2]
 -- the run
 have hrun : ∃ v' w',(Builtin.append_ #[t,t] ty #[v,.slice A kU.length c]).run P w = .ok v' w' ∧ w'.ownsRow 0 e s v' (els.length + kU.length) (xs ++ news) ∧ w.grownBy w' v.ownBlock ∧
   (v'.ownBlock = v.ownBlock ∨ v'.ownBlock = some w.heap.size) := by
  cases A with
  | none =>
   have hn0 : news = [] := by
    cases news with
    | nil => rfl
    | cons u r =>
     obtain ⟨ad,h,_⟩ := hcell 0 u rfl
     cases h
   have h20 : kU.length = 0 := by
    rw [hn0] at hnl
    rcases Nat.mul_eq_zero.1 hnl.symm with h | h
    ·exact h
    ·omega
   refine ⟨v,w,?_,by rw [hn0,h20]; simpa using hown,World.grownBy.refl w _,.inl rfl⟩
   rw [h20]
   rcases hown.2 with ⟨rfl,_⟩ | ⟨b,cap,cur,rfl,_,_,hnc,_⟩
   ·exact SC ht hi1 none 0 0 c (Nat.le_refl _) w
   ·exact SC ht hi1 _ _ _ c hnc w
  | some ad =>
   have hc : ∀ j u,news[j]? = some u → w.cell? (ad.add j) = some u := fun j u hu => by
    obtain ⟨ad',h,hc⟩ := hcell j u hu
    injection h with h
    subst h
    exact hc
   obtain ⟨v',w',h1,h2,h3,_,h5⟩ := run_append_own_at (P := P) w 0 t ty e i z s lm ht hi1 hi2 hi3 hi4 hzs hs v els.length xs hown ad kU.length c news hnl hc Fb.one
    (by simp only [maxLen]; omega) (by
     have : (els.length + kU.length) * lm ≤ 2147483648 * 65536 := Nat.mul_le_mul Xc hb
     omega) (Nat.zero_le _)
   exact ⟨v',w',h1,h2,h3,h5⟩
 obtain ⟨v',w',hr1,hr2,hr3,hr4⟩ := hrun
 have PZ : ∀ b,v.ownBlock = some b → W = [n] := fun b hb => by
  rcases hW with h | ⟨h,_⟩
  ·exact h
  ·rw [h] at hb; simp [Value.ownBlock] at hb
 have hheap : ∀ k,k < w.heap.size → (∀ m ∈ W,¬ (g m).has k) → w'.heap[k]? = w.heap[k]? := fun k hk hkW => hr3.block k hk fun e => by
  have h1 := hblk k e.symm
  have h2 := PZ k e.symm
  exact hkW n (by rw [h2]; exact List.mem_cons_self) (GS.qc h1)
 have hl12 : ∀ cs ∈ els ++ kU,cs.length = s := fun cs hcs => (List.mem_append.1 hcs).elim (hlx cs) (hl2 cs)
 rcases hr2.2 with ⟨h1,h2⟩ | ⟨b2,cap,cur,h1,_,h3,h4,h5,h6,h7⟩
 ·-- still nil
  have he1 : els = [] := List.eq_nil_of_length_eq_zero (by omega)
  have he2 : kU = [] := List.eq_nil_of_length_eq_zero (by omega)
  subst he1
  subst he2
  refine ⟨v',upd g n .nil,w',hr1,?_,⟨by rw [h1]; rfl,.inl ⟨upd_same ..,rfl,rfl,h1⟩⟩,.inl ⟨upd_same ..,rfl⟩⟩
  refine ⟨hw.upd n _ hr3.size (fun b hb => hb.elim) (fun j k b hj => by cases hj),fun _ h => h,fun _ h => h,hr3.os,hr3.tape,hr3.output,hr3.size,hheap,fun k hk => upd_ne g _ (by simpa using hk),fun k hk b hb => ?_,fun k hkW hkX => ?_⟩
  ·have : k = n := by simpa using hk
   subst this
   rw [upd_same] at hb; exact hb.elim
  ·rcases hW with h | ⟨_,h⟩
   ·rw [h] at hkW; exact absurd (by simpa using hkW) hkX
   ·rw [h] at hkW; cases hkW
 ·-- a row
  have hb2 : (g n = .blk b2) ∨ w.heap.size ≤ b2 := by
   rw [h1] at hr4
   simp only [Value.ownBlock] at hr4
   rcases hr4 with h | h
   ·exact .inl (hblk b2 h.symm)
   ·injection h with h
    exact .inr (by omega)
  have Wj : w.heap.size ≤ b2 ∨ ∃ m ∈ W,(g m).has b2 := by
   rw [h1] at hr4
   simp only [Value.ownBlock] at hr4
   rcases hr4 with h | h
   ·exact .inr ⟨n,by rw [PZ b2 h.symm]; exact List.mem_cons_self,GS.qc (hblk b2 h.symm)⟩
   ·injection h with h
    exact .inl (by omega)
  have Wl : b2 < w'.heap.size := (Array.getElem?_eq_some_iff.1 h3).1
  have had : fG R B g w W [n] R B (upd g n (.blk b2)) w' := by
   have hother : ∀ q,q ≠ n → ¬ (g q).has b2 := fun q hq hg => by
    rcases hb2 with h | h
    ·exact hq (hw.kX q n b2 hg (GS.qc h))
    ·exact absurd (hw.jW q b2 hg).2 (by omega)
   refine ⟨hw.upd n _ hr3.size (fun b hb => ?_) GS.Qx,fun _ h => h,fun _ h => h,hr3.os,hr3.tape,hr3.output,hr3.size,hheap,fun k hk => upd_ne g _ (by simpa using hk),fun k hk b hb => ?_,fun k hkW hkX => ?_⟩
   ·have hb : b = b2 := hb
    subst hb
    refine ⟨fun hB => ?_,Wl,hother⟩
    rcases hb2 with h | h
    ·exact (hw.own n b h).1 hB
    ·exact absurd (hw.lt b hB) (by omega)
   ·have : k = n := by simpa using hk
    subst this
    rw [upd_same] at hb
    have hb : b = b2 := hb
    subst hb
    exact Wj
   ·rcases hW with h | ⟨_,h⟩
    ·rw [h] at hkW; exact absurd (by simpa using hkW) hkX
    ·rw [h] at hkW; cases hkW
  refine ⟨v',_,w',hr1,had,⟨by rw [h1]; rfl,.inr (.inr ⟨b2,cap,cur,e,upd_same ..,h3,h4,by omega,by rw [hsz]; simpa using h6.symm,by simpa using h1⟩)⟩,?_⟩
  have hk1 := (PS.keep had hw)
  have hk2 := (Fb.keep had hw)
  refine dh.of_flat (upd_same ..) (fun cs hcs => ?_) h3 ?_ ?_
  ·obtain ⟨c0,hc0,rfl⟩ := List.mem_map.1 hcs
   rw [hsz]; simpa using hl12 c0 hc0
  ·rw [hsz]
   simp only [List.length_map,List.length_append]
   rw [h6]
   exact Nat.mul_le_mul_right _ h4
  ·rw [hsz]
   simp only [List.length_map,List.length_append]
   rw [h7,← List.map_flatten,List.flatten_append,List.map_append]
   refine ⟨by simp [hk1.1,hk2.1,PS.1,Fb.1],fun k x hk => ?_⟩
   rw [List.getElem?_append] at hk ⊢
   have hlen : xs.length = (els.flatten.map (bP [n])).length := hk1.1
   rw [hlen]
   split at hk
   ·rename_i hlt
    rw [if_pos hlt]
    exact hk1.2 k x hk
   ·rename_i hlt
    rw [if_neg hlt]
    exact hk2.2 _ x hk
theorem LT.append {o : Oper} {ins : List (Operand × AV)} {us : Mem} {t e : TypeId} {x y : Operand} {n : Nat} {els kU : List (List CV)} {z : Value} {s lm : Nat} {W : List Nat} (ho : o.op = .call { callee := .builtin .append,args := #[x,y],argTypes := #[t,t] })
  (ht : P.underlying t = some (.slice e)) (hz : TI P e z s lm) (hzs : z.cells.size = s) (hs : 0 < s) (hb : lm ≤ 65536) (hl2 : ∀ cs ∈ kU,cs.length = s) (hlim : els.length + kU.length ≤ pI)
  (h : ∀ R B g w (a : Act),WF R B g w → (∀ p ∈ ins,RA P w R B g p.2 (a.eval p.1)) → (∀ p ∈ us,RO P w R B g p.1 p.2) → NM P w R B g n e (a.eval x) els ∧ y7 P w R B g (a.eval y) kU s ∧ (W = [n] ∨ (a.eval x = aO ∧ W = []))) :
  LT P o ins us (Cc (.loc n 0 (els.length + kU.length))) [(n,.row e ((els ++ kU).map (·.map (bP [n]))))] W [n] := by
 intro R B g w a hw hi hu K Q hK
 obtain ⟨h1,h2,h3⟩ := h R B g w a hw hi hu
 obtain ⟨v',g',w',hr,had,hv,hro⟩ := aAb (ty := o.type) ht hz hzs hs hb hw hl2 h1 h2 hlim W h3
 unfold Oper.wp execOp
 simp only [ho,resolve,invoke,builtin,Sem.run_bind,Sem.run_pure,Result.andThen_ok,List.map_toArray,List.map_cons,List.map_nil,hr]
 exact hK v' R B g' w' had (fun b hb => .inl hb) (fun _ => hv) (GZ hro)
section
variable {o : Oper} {t e : TypeId} {x y : Operand} {n n2 : Nat} {iV kC : List (List PV)} {z : Value} {s lm : Nat} {q : Bool}
theorem LT.Uh (ho : o.op = .call { callee := .builtin .append,args := #[x,y],argTypes := #[t,t] }) (ht : P.underlying t = some (.slice e)) (hz : TI P e z s lm) (hzs : z.cells.size = s) (hs : 0 < s) (hb : lm ≤ 65536)
  (hl2 : ∀ cs ∈ kC,cs.length = s) (hlim : iV.length + kC.length ≤ pI) :
  LT P o [(x,Cc (.loc n 0 iV.length)),(y,Cc (.pv (.xs q kC)))] [(n,.dU e iV)] (Cc (.loc n 0 (iV.length + kC.length))) [(n,.dU e (iV ++ kC))] [n] [n] := by
 have := LT.append (P := P) (ins := [(x,Cc (.loc n 0 iV.length)),(y,Cc (.pv (.xs q kC)))]) (us := [(n,.dU e iV)]) (n := n) (els := dG iV) (kU := dG kC) (W := [n]) ho ht hz hzs hs hb
  (fun cs hcs => by obtain ⟨c,hc,rfl⟩ := List.mem_map.1 hcs; simpa using hl2 c hc) (by simpa [dG] using hlim)
  (fun R B g w a hw hi hu => ⟨.inr ⟨by rw [wB]; exact in1 hi,o9 hu⟩,aA5 hs hl2 (in2 hi),.inl rfl⟩)
 have h2 : LT P o [(x,Cc (.loc n 0 iV.length)),(y,Cc (.pv (.xs q kC)))] [(n,.dU e iV)] (Cc (.loc n 0 (iV.length + kC.length))) [(n,.row e ((dG (iV ++ kC)).map (·.map (bP [n]))))] [n] [n] := by
  simpa [dG] using this
 exact h2.zA
theorem LT.Ug (ho : o.op = .call { callee := .builtin .append,args := #[x,y],argTypes := #[t,t] }) (ht : P.underlying t = some (.slice e)) (hz : TI P e z s lm) (hzs : z.cells.size = s) (hs : 0 < s) (hb : lm ≤ 65536)
  (hl2 : ∀ cs ∈ kC,cs.length = s) (hlim : iV.length + kC.length ≤ pI) :
  LT P o [(x,Cc (.loc n 0 iV.length)),(y,Cc (.loc n2 0 kC.length))] [(n,.dU e iV),(n2,.dU e kC)] (Cc (.loc n 0 (iV.length + kC.length))) [(n,.dU e (iV ++ kC))] [n] [n] := by
 have := LT.append (P := P) (ins := [(x,Cc (.loc n 0 iV.length)),(y,Cc (.loc n2 0 kC.length))]) (us := [(n,.dU e iV),(n2,.dU e kC)]) (n := n) (els := dG iV) (kU := dG kC) (W := [n]) ho ht hz hzs hs hb
  (fun cs hcs => by obtain ⟨c,hc,rfl⟩ := List.mem_map.1 hcs; simpa using hl2 c hc) (by simpa [dG] using hlim)
  (fun R B g w a hw hi hu => ⟨.inr ⟨by rw [wB]; exact in1 hi,o9 hu⟩,by
   have := aA3 (els := dG kC) (by rw [hz.sz]; exact hs) (by rw [wB]; exact in2 hi) (us2 hu)
   rwa [hz.sz] at this,.inl rfl⟩)
 have h2 : LT P o [(x,Cc (.loc n 0 iV.length)),(y,Cc (.loc n2 0 kC.length))] [(n,.dU e iV),(n2,.dU e kC)] (Cc (.loc n 0 (iV.length + kC.length))) [(n,.row e ((dG (iV ++ kC)).map (·.map (bP [n]))))] [n] [n] := by
  simpa [dG] using this
 exact h2.zA
end
end
end Go.Fw
end
section
set_option linter.unusedVariables false
set_option linter.unusedSimpArgs false
set_option linter.unnecessarySimpa false
namespace Go.Fw
inductive ak : PV → Prop
 | sc {v : Value} : ak (.sc v)
 | xs {els : List (List PV)} (h : ∀ cs ∈ els,∀ p ∈ cs,ak p) : ak (.xs true els)
def sJ : CV → Prop
 | .pv p => ak p
 | .px q cells => q = true ∧ ∀ p ∈ cells,ak p
 | _ => True
def BO : SV → Prop
 | .c x => sJ x
 | .agg cs => ∀ x ∈ cs,sJ x
def En : AV → Prop
 | .s x => BO x
 | .dI xs => ∀ x ∈ xs,BO x
def bK : Ob → Prop
 | .row _ els => ∀ cs ∈ els,∀ x ∈ cs,sJ x
 | .dU _ els => ∀ cs ∈ els,∀ p ∈ cs,ak p
 | .mp _ => True
 | .pool _ rows => ∀ els ∈ rows,∀ cs ∈ els,∀ p ∈ cs,ak p
 | .iY _ _ _ => True
 | .unk => True
section
variable {P : Program} {w : World} {R B B' : Nat → Prop} {g g' : Nat → GS}
theorem gI.perm {p : PV} {v : Value} (hp : ak p) (h : gI w R B p v) : gI w R B' p v := by
 induction h with
 | sc h => exact .sc h
 | emp => exact .emp
 | @xs q els ad c s n val hn hq hc hs hv hr ih =>
  cases hp with
  | xs hp => exact .xs val hn hq hc hs hv fun j k cs p h1 h2 => ih j k cs p h1 h2 (hp cs (List.mem_of_getElem? h1) p (List.mem_of_getElem? h2))
theorem RC.perm {x : CV} {v : Value} (hp : sJ x) (h : RC P w R B g x v) : RC P w R B' g x v := by
 refine ⟨h.1,?_⟩
 have h2 := h.2
 cases x with
 | pv p => exact gI.perm hp h2
 | px q cells =>
  obtain ⟨rfl,hp⟩ := hp
  obtain ⟨a,h3,h4,h5⟩ := h2
  exact ⟨a,h3,h4,fun k p hk => by
   obtain ⟨u,h6,h7⟩ := h5 k p hk
   exact ⟨u,h6,h7.perm (hp p (List.mem_of_getElem? hk))⟩⟩
 | _ => exact h2
theorem RS.perm {x : SV} {v : Value} (hp : BO x) (h : RS P w R B g x v) : RS P w R B' g x v := by
 cases x with
 | c x => exact RC.perm hp h
 | agg cs =>
  obtain ⟨vs,h1,h2,h3⟩ := h
  exact ⟨vs,h1,h2,fun k x hk => by
   obtain ⟨u,h4,h5⟩ := h3 k x hk
   exact ⟨u,h4,h5.perm (hp x (List.mem_of_getElem? hk))⟩⟩
theorem RA.perm {x : AV} {v : Value} (hp : En x) (h : RA P w R B g x v) : RA P w R B' g x v := by
 cases x with
 | s x => exact RS.perm hp h
 | dI xs =>
  obtain ⟨vs,h1,h2,h3⟩ := h
  exact ⟨vs,h1,h2,fun k x hk => by
   obtain ⟨u,h4,h5⟩ := h3 k x hk
   exact ⟨u,h4,h5.perm (hp x (List.mem_of_getElem? hk))⟩⟩
theorem GU {p : Nat} {lens : List Nat} {cs : List CV} (h : cs ∈ lJ p lens) : ∃ j l,cs = [.tl p j 0 l] := by
 obtain ⟨i,hi⟩ := List.mem_iff_getElem?.1 h
 unfold lJ at hi
 rw [List.getElem?_mapIdx] at hi
 cases hl : lens[i]? with
 | none => rw [hl] at hi; cases hi
 | some l => rw [hl] at hi; injection hi with hi; exact ⟨i,l,hi.symm⟩
theorem dh.perm {n : Nat} {e : TypeId} {els : List (List CV)} (hp : ∀ cs ∈ els,∀ x ∈ cs,sJ x) (h : dh P w R B g n e els) : dh P w R B' g n e els := by
 rcases h with h | ⟨b,cur,h1,h2,h3,h4,h5⟩
 ·exact .inl h
 ·exact .inr ⟨b,cur,h1,h2,h3,h4,fun j k cs x hj hk => by
   obtain ⟨u,h6,h7⟩ := h5 j k cs x hj hk
   exact ⟨u,h6,h7.perm (hp cs (List.mem_of_getElem? hj) x (List.mem_of_getElem? hk))⟩⟩
theorem RO.perm {n : Nat} {o : Ob} (hp : bK o) (h : RO P w R B g n o) : RO P w R B' g n o := by
 cases o with
 | row e els => exact dh.perm hp h
 | dU e els => exact dh.perm (fun cs hcs x hx => by
   obtain ⟨c0,hc0,rfl⟩ := List.mem_map.1 hcs
   obtain ⟨p,hp0,rfl⟩ := List.mem_map.1 hx
   exact hp c0 hc0 p hp0) h
 | mp es => exact h
 | pool e rows => exact ⟨h.1,fun k els hk => by
   rcases h.2 k els hk with h1 | ⟨b,cur,h1,h2,h3,h4,h5⟩
   ·exact .inl h1
   ·exact .inr ⟨b,cur,h1,h2,h3,h4,fun j i cs x hj hi => by
     obtain ⟨u,h6,h7⟩ := h5 j i cs x hj hi
     exact ⟨u,h6,h7.perm (hp els (List.mem_of_getElem? hk) cs (List.mem_of_getElem? hj) x (List.mem_of_getElem? hi))⟩⟩⟩
 | iY e p lens => exact dh.perm (fun cs hcs x hx => by
   obtain ⟨j,l,rfl⟩ := GU hcs
   have : x = .tl p j 0 l := by simpa using hx
   subst this; trivial) h
 | unk => trivial
theorem RC.names {x : CV} {v : Value} (h : RC P w R B g x v) (hg : ∀ n,g n ≠ .dead → g' n = g n) : RC P w R B g' x v := by
 have hgb : ∀ n b,g n = .blk b → g' n = .blk b := fun n b h => (hg n (by rw [h]; simp)).trans h
 have hgn : ∀ n,g n = .nil → g' n = .nil := fun n h => (hg n (by rw [h]; simp)).trans h
 have hga : ∀ n k s,(g n).at k = s → s ≠ .dead → (g' n).at k = s := fun n k s h hs => by
  rw [hg n fun hd => hs (by rw [← h,hd]; rfl)]
  exact h
 refine ⟨h.1,?_⟩
 have h2 := h.2
 cases x with
 | pv p => exact h2
 | px q cells => exact h2
 | loc n off len =>
  rcases h2 with ⟨h3,h4⟩ | h3 | ⟨b,cap,cur,e,h3,h4⟩
  ·exact .inl ⟨hgn n h3,h4⟩
  ·exact .inr (.inl h3)
  ·exact .inr (.inr ⟨b,cap,cur,e,hgb n b h3,h4⟩)
 | pl n off =>
  obtain ⟨b,h3,h4⟩ := h2
  exact ⟨b,hgb n b h3,h4⟩
 | fn f caps =>
  obtain ⟨vs,h3,h4,h5⟩ := h2
  exact ⟨vs,h3,h4,fun k n hk => by
   obtain ⟨b,h6,h7⟩ := h5 k n hk
   exact ⟨b,hgb n b h6,h7⟩⟩
 | mref n =>
  obtain ⟨b,h3,h4⟩ := h2
  exact ⟨b,hgb n b h3,h4⟩
 | tl p k off len =>
  rcases h2 with ⟨h3,h4⟩ | h3 | ⟨b,cap,cur,e,h3,h4⟩
  ·exact .inl ⟨hga p k _ h3 (by simp),h4⟩
  ·exact .inr (.inl h3)
  ·exact .inr (.inr ⟨b,cap,cur,e,hga p k _ h3 (by simp),h4⟩)
 | tpl p k off =>
  obtain ⟨b,h3,h4⟩ := h2
  exact ⟨b,hga p k _ h3 (by simp),h4⟩
 | junk => trivial
theorem RS.names {x : SV} {v : Value} (h : RS P w R B g x v) (hg : ∀ n,g n ≠ .dead → g' n = g n) : RS P w R B g' x v := by
 cases x with
 | c x => exact RC.names h hg
 | agg cs =>
  obtain ⟨vs,h1,h2,h3⟩ := h
  exact ⟨vs,h1,h2,fun k x hk => by
   obtain ⟨u,h4,h5⟩ := h3 k x hk
   exact ⟨u,h4,h5.names hg⟩⟩
theorem RA.names {x : AV} {v : Value} (h : RA P w R B g x v) (hg : ∀ n,g n ≠ .dead → g' n = g n) : RA P w R B g' x v := by
 cases x with
 | s x => exact RS.names h hg
 | dI xs =>
  obtain ⟨vs,h1,h2,h3⟩ := h
  exact ⟨vs,h1,h2,fun k x hk => by
   obtain ⟨u,h4,h5⟩ := h3 k x hk
   exact ⟨u,h4,h5.names hg⟩⟩
theorem dh.names {n : Nat} {e : TypeId} {els : List (List CV)} (h : dh P w R B g n e els) (hg : ∀ n,g n ≠ .dead → g' n = g n) : dh P w R B g' n e els := by
 rcases h with ⟨h1,h2⟩ | ⟨b,cur,h1,h2,h3,h4,h5⟩
 ·exact .inl ⟨(hg n (by rw [h1]; simp)).trans h1,h2⟩
 ·exact .inr ⟨b,cur,(hg n (by rw [h1]; simp)).trans h1,h2,h3,h4,fun j k cs x hj hk => by
   obtain ⟨u,h6,h7⟩ := h5 j k cs x hj hk
   exact ⟨u,h6,h7.names hg⟩⟩
theorem RO.names {n : Nat} {o : Ob} (h : RO P w R B g n o) (hg : ∀ n,g n ≠ .dead → g' n = g n) : RO P w R B g' n o := by
 cases o with
 | row e els => exact dh.names h hg
 | dU e els => exact dh.names h hg
 | mp es =>
  obtain ⟨b,lU,clock,h1,h2⟩ := h
  exact ⟨b,lU,clock,(hg n (by rw [h1]; simp)).trans h1,h2⟩
 | pool e rows =>
  obtain ⟨⟨bs,h1,h2⟩,h3⟩ := h
  have e1 := hg n (by rw [h1]; simp)
  exact ⟨⟨bs,e1.trans h1,h2⟩,by rw [e1]; exact h3⟩
 | iY e p lens => exact dh.names h hg
 | unk => trivial
def nR (zs : List Nat) : CV → Bool
 | .loc n _ _ => zs.elem n
 | .pl n _ => zs.elem n
 | .fn _ caps => caps.all zs.elem
 | .mref n => zs.elem n
 | .tl p _ _ _ => zs.elem p
 | .tpl p _ _ => zs.elem p
 | _ => true
def okS (zs : List Nat) : SV → Bool
 | .c x => nR zs x
 | .agg cs => cs.all (nR zs)
def okA (zs : List Nat) : AV → Bool
 | .s x => okS zs x
 | .dI xs => xs.all (okS zs)
def okO (zs : List Nat) : Ob → Bool
 | .row _ els => els.all (·.all (nR zs))
 | .iY _ p _ => zs.elem p
 | _ => true
theorem RC.ok {zs : List Nat} {x : CV} {v : Value} (hz : nR zs x = true) (hg : ∀ n ∈ zs,g' n = g n) (h : RC P w R B g x v) : RC P w R B g' x v := by
 refine ⟨h.1,?_⟩
 have h2 := h.2
 cases x with
 | pv p => exact h2
 | px q cells => exact h2
 | loc n off len =>
  have hn := hg n (List.mem_of_elem_eq_true hz)
  rcases h2 with ⟨h3,h4⟩ | h3 | ⟨b,cap,cur,e,h3,h4⟩
  ·exact .inl ⟨hn.trans h3,h4⟩
  ·exact .inr (.inl h3)
  ·exact .inr (.inr ⟨b,cap,cur,e,hn.trans h3,h4⟩)
 | pl n off =>
  obtain ⟨b,h3,h4⟩ := h2
  exact ⟨b,(hg n (List.mem_of_elem_eq_true hz)).trans h3,h4⟩
 | fn f caps =>
  obtain ⟨vs,h3,h4,h5⟩ := h2
  exact ⟨vs,h3,h4,fun k n hk => by
   obtain ⟨b,h6,h7⟩ := h5 k n hk
   exact ⟨b,(hg n (List.mem_of_elem_eq_true (List.all_eq_true.1 hz n (List.mem_of_getElem? hk)))).trans h6,h7⟩⟩
 | mref n =>
  obtain ⟨b,h3,h4⟩ := h2
  exact ⟨b,(hg n (List.mem_of_elem_eq_true hz)).trans h3,h4⟩
 | tl p k off len =>
  have hn := hg p (List.mem_of_elem_eq_true hz)
  rcases h2 with ⟨h3,h4⟩ | h3 | ⟨b,cap,cur,e,h3,h4⟩
  ·exact .inl ⟨by rw [hn]; exact h3,h4⟩
  ·exact .inr (.inl h3)
  ·exact .inr (.inr ⟨b,cap,cur,e,by rw [hn]; exact h3,h4⟩)
 | tpl p k off =>
  obtain ⟨b,h3,h4⟩ := h2
  exact ⟨b,by rw [hg p (List.mem_of_elem_eq_true hz)]; exact h3,h4⟩
 | junk => trivial
theorem RS.ok {zs : List Nat} {x : SV} {v : Value} (hz : okS zs x = true) (hg : ∀ n ∈ zs,g' n = g n) (h : RS P w R B g x v) : RS P w R B g' x v := by
 cases x with
 | c x => exact RC.ok hz hg h
 | agg cs =>
  obtain ⟨vs,h1,h2,h3⟩ := h
  exact ⟨vs,h1,h2,fun k x hk => by
   obtain ⟨u,h4,h5⟩ := h3 k x hk
   exact ⟨u,h4,h5.ok (List.all_eq_true.1 hz x (List.mem_of_getElem? hk)) hg⟩⟩
theorem RA.ok {zs : List Nat} {x : AV} {v : Value} (hz : okA zs x = true) (hg : ∀ n ∈ zs,g' n = g n) (h : RA P w R B g x v) : RA P w R B g' x v := by
 cases x with
 | s x => exact RS.ok hz hg h
 | dI xs =>
  obtain ⟨vs,h1,h2,h3⟩ := h
  exact ⟨vs,h1,h2,fun k x hk => by
   obtain ⟨u,h4,h5⟩ := h3 k x hk
   exact ⟨u,h4,h5.ok (List.all_eq_true.1 hz x (List.mem_of_getElem? hk)) hg⟩⟩
theorem dh.ok {zs : List Nat} {n : Nat} {e : TypeId} {els : List (List CV)} (hn : n ∈ zs) (hz : els.all (·.all (nR zs)) = true) (hg : ∀ n ∈ zs,g' n = g n) (h : dh P w R B g n e els) : dh P w R B g' n e els := by
 rcases h with ⟨h1,h2⟩ | ⟨b,cur,h1,h2,h3,h4,h5⟩
 ·exact .inl ⟨(hg n hn).trans h1,h2⟩
 ·exact .inr ⟨b,cur,(hg n hn).trans h1,h2,h3,h4,fun j k cs x hj hk => by
   obtain ⟨u,h6,h7⟩ := h5 j k cs x hj hk
   exact ⟨u,h6,h7.ok (List.all_eq_true.1 (List.all_eq_true.1 hz cs (List.mem_of_getElem? hj)) x (List.mem_of_getElem? hk)) hg⟩⟩
theorem RO.ok {zs : List Nat} {n : Nat} {o : Ob} (hn : n ∈ zs) (hz : okO zs o = true) (hg : ∀ n ∈ zs,g' n = g n) (h : RO P w R B g n o) : RO P w R B g' n o := by
 cases o with
 | row e els => exact dh.ok hn hz hg h
 | dU e els => exact dh.ok hn (by simp [dG,List.all_eq_true,nR]) hg h
 | mp es =>
  obtain ⟨b,lU,clock,h1,h2⟩ := h
  exact ⟨b,lU,clock,(hg n hn).trans h1,h2⟩
 | pool e rows =>
  obtain ⟨⟨bs,h1,h2⟩,h3⟩ := h
  exact ⟨⟨bs,(hg n hn).trans h1,h2⟩,by rw [hg n hn]; exact h3⟩
 | iY e p lens => exact dh.ok hn (List.all_eq_true.2 fun cs hcs => by
   obtain ⟨j,l,rfl⟩ := GU hcs
   simpa [nR,okO] using hz) hg h
 | unk => trivial
theorem gI.more (hb : ∀ b,B b → B' b) {p : PV} {v : Value} (h : gI w R B p v) : gI w R B' p v := by
 induction h with
 | sc h => exact .sc h
 | emp => exact .emp
 | xs val hn hq hc hs hv _ ih => exact .xs val hn (Gj (fun _ h => h) hb hq) hc hs hv ih
theorem RC.more (hb : ∀ b,B b → B' b) {x : CV} {v : Value} (h : RC P w R B g x v) : RC P w R B' g x v := by
 refine ⟨h.1,?_⟩
 have h2 := h.2
 cases x with
 | pv p => exact gI.more hb h2
 | px q cells =>
  obtain ⟨a,h3,h4,h5⟩ := h2
  exact ⟨a,h3,Gj (fun _ h => h) hb h4,fun k p hk => by
   obtain ⟨u,h6,h7⟩ := h5 k p hk
   exact ⟨u,h6,h7.more hb⟩⟩
 | _ => exact h2
theorem RS.more (hb : ∀ b,B b → B' b) {x : SV} {v : Value} (h : RS P w R B g x v) : RS P w R B' g x v := by
 cases x with
 | c x => exact RC.more hb h
 | agg cs =>
  obtain ⟨vs,h1,h2,h3⟩ := h
  exact ⟨vs,h1,h2,fun k x hk => by
   obtain ⟨u,h4,h5⟩ := h3 k x hk
   exact ⟨u,h4,h5.more hb⟩⟩
theorem RA.more (hb : ∀ b,B b → B' b) {x : AV} {v : Value} (h : RA P w R B g x v) : RA P w R B' g x v := by
 cases x with
 | s x => exact RS.more hb h
 | dI xs =>
  obtain ⟨vs,h1,h2,h3⟩ := h
  exact ⟨vs,h1,h2,fun k x hk => by
   obtain ⟨u,h4,h5⟩ := h3 k x hk
   exact ⟨u,h4,h5.more hb⟩⟩
theorem dh.more (hb : ∀ b,B b → B' b) {n : Nat} {e : TypeId} {els : List (List CV)} (h : dh P w R B g n e els) : dh P w R B' g n e els := by
 rcases h with h | ⟨b,cur,h1,h2,h3,h4,h5⟩
 ·exact .inl h
 ·exact .inr ⟨b,cur,h1,h2,h3,h4,fun j k cs x hj hk => by
   obtain ⟨u,h6,h7⟩ := h5 j k cs x hj hk
   exact ⟨u,h6,h7.more hb⟩⟩
theorem RO.more (hb : ∀ b,B b → B' b) {n : Nat} {o : Ob} (h : RO P w R B g n o) : RO P w R B' g n o := by
 cases o with
 | row e els => exact dh.more hb h
 | dU e els => exact dh.more hb h
 | mp es => exact h
 | pool e rows => exact ⟨h.1,fun k els hk => by
   rcases h.2 k els hk with h1 | ⟨b,cur,h1,h2,h3,h4,h5⟩
   ·exact .inl h1
   ·exact .inr ⟨b,cur,h1,h2,h3,h4,fun j i cs x hj hi => by
     obtain ⟨u,h6,h7⟩ := h5 j i cs x hj hi
     exact ⟨u,h6,h7.more hb⟩⟩⟩
 | iY e p lens => exact dh.more hb h
 | unk => trivial
end
def Fn (P : Program) (f : FuncId) (args : List SV) (us : Mem) (v : AV) (df : Mem) (W X : List Nat) : Prop :=
 ∀ (R B : Nat → Prop) (g : Nat → GS) (w : World) (vs : List Value),WF R B g w → vs.length = args.length → (∀ (k : Nat) x,args[k]? = some x → ∃ u,vs[k]? = some u ∧ RS P w R B g x u) → (∀ p ∈ us,RO P w R B g p.1 p.2) →
  Calls P f vs.toArray w fun e w' => ∃ u R' B' g',e = .returned u ∧ fG R B g w W X R' B' g' w' ∧ (∀ b,R' b → R b ∨ w.heap.size ≤ b) ∧ RA P w' R' R' g' v u ∧ ∀ p ∈ df,RO P w' R' R' g' p.1 p.2
def Eo (P : Program) (σ : Slots) (m : Mem) : ResultVar → SV → Prop
 | .tmp t,x => lk σ t = some (.s x)
 | .cell t T,x => ∃ n e cells,lk σ t = some (Cc (.pl n 0)) ∧ lk m n = some (.row e [cells]) ∧ x = .agg cells ∧ ja P T = some true ∧ bQ P T = cells.length ∧ ∃ i,P.info? T = some i
def qU (P : Program) (σ : Slots) (m : Mem) : List ResultVar → List SV → Prop
 | [],[] => True
 | r :: rs,x :: xs => Eo P σ m r x ∧ qU P σ m rs xs
 | _,_ => False
def qw : List SV → AV
 | [x] => .s x
 | xs => .dI xs
section
variable {P : Program} {C : Ctx} {σ : Slots} {m : Mem} {R B : Nat → Prop} {g : Nat → GS} {a : Act} {w : World}
def BG (tmps : Array Value) : ResultVar → Sem Value
 | .tmp t => pure (tmps.getD t undef)
 | .cell c t => do loadVar t (← asAddr (tmps.getD c undef))
theorem aAV (fn : Func) (tmps : Array Value) : results fn tmps = (do let vs ← fn.results.mapM (BG tmps); pure (if h : vs.size = 1 then vs[0] else .tuple vs)) := by
 have : (fun | .tmp t => pure (tmps.getD t undef) | .cell c t => do loadVar t (← asAddr (tmps.getD c undef)) : ResultVar → Sem Value) = BG tmps := by
  funext x
  cases x <;> rfl
 rw [← this]
 rfl
theorem Eo.run (hs : St P C σ m R B g a w) {r : ResultVar} {x : SV} (h : Eo P σ m r x) :
  ∃ u,(BG a.tmps r).run P w = .ok u w ∧ RS P w R B g x u := by
 cases r with
 | tmp t => exact ⟨a.tmps.getD t undef,rfl,hs.sl t _ h⟩
 | cell t T =>
  obtain ⟨n,e,cells,h1,h2,rfl,h3,h4,i,hi⟩ := h
  obtain ⟨_,b,k1,k2⟩ := hs.sl t _ h1
  have hro := hs.ob n _ h2
  have hcell := (LH hro k1 (j := 0) rfl).2
  obtain ⟨us,k3,k4,k5⟩ := FI (T := fun u k => w.cell? ⟨b,k,none⟩ = some u) (Rl := fun p u => RC P w R B g p u) cells 0 (fun k x hk => by
   obtain ⟨u,h5,h6⟩ := hcell k x hk
   rw [Nat.zero_mul] at h5
   exact ⟨u,h5,h6⟩)
  refine ⟨.agg us.toArray,?_,us,rfl,k3,k5⟩
  have hl := run_loadCells_list (P := P) w ⟨b,0,none⟩ us (fun j v hj => by rw [add_lit]; simpa using k4 j v hj)
  simp [BG,k2,asAddr,loadVar,G5 h3,run_sizeOf hi,h4,← k3,hl]
theorem qU.run (hs : St P C σ m R B g a w) : ∀ {rs : List ResultVar} {xs : List SV},qU P σ m rs xs →
  ∃ us : List Value,(rs.mapM (BG a.tmps)).run P w = .ok us w ∧ us.length = xs.length ∧ ∀ (k : Nat) x,xs[k]? = some x → ∃ u,us[k]? = some u ∧ RS P w R B g x u
 | [],[],_ => ⟨[],rfl,rfl,fun k x hk => by simp at hk⟩
 | [],_ :: _,h => h.elim
 | _ :: _,[],h => h.elim
 | r :: rs,x :: xs,h => by
  obtain ⟨u,h1,h2⟩ := Eo.run hs h.1
  obtain ⟨us,h3,h4,h5⟩ := qU.run hs h.2
  refine ⟨u :: us,?_,by simp [h4],fun k y hk => ?_⟩
  ·simp only [List.mapM_cons,Sem.run_bind]
   rw [h1]
   simp only [Result.andThen_ok,h3,Sem.run_pure]
  ·cases k with
   | zero => simp at hk; subst hk; exact ⟨u,rfl,h2⟩
   | succ k => exact h5 k y (by simpa using hk)
theorem qU.results (hs : St P C σ m R B g a w) {fn : Func} {xs : List SV} (h : qU P σ m fn.results.toList xs) : ∃ u,(results fn a.tmps).run P w = .ok u w ∧ RA P w R B g (qw xs) u := by
 obtain ⟨us,h1,h2,h3⟩ := qU.run hs h
 have hm : (fn.results.mapM (BG a.tmps)).run P w = .ok us.toArray w := by
  rw [Array.mapM_eq_mapM_toList]
  simp only [Sem.run_map,h1,Result.andThen_ok]
 rw [aAV]
 simp only [Sem.run_bind]
 rw [hm]
 simp only [Result.andThen_ok,Sem.run_pure]
 refine ⟨_,rfl,?_⟩
 cases xs with
 | nil =>
  have : us = [] := List.eq_nil_of_length_eq_zero (by simpa using h2)
  subst this
  exact ⟨[],by simp,rfl,fun k x hk => by simp at hk⟩
 | cons x xs =>
  cases xs with
  | nil =>
   obtain ⟨u,hu,hr⟩ := h3 0 x rfl
   match us,h2,hu with
   | [u'],_,hu =>
    simp at hu
    subst hu
    show RS P w R B g x _
    simpa using hr
  | cons y ys =>
   have hne : ¬ us.toArray.size = 1 := by simp only [List.size_toArray,h2,List.length_cons]; omega
   rw [dif_neg hne]
   exact ⟨us,rfl,h2,h3⟩
end
def UX (m : Mem) (df : Mem) : Prop := ∀ p ∈ df,lk m p.1 = some p.2
theorem lK.all {m : Mem} : ∀ {df : Mem},lK m df → UX m df
 | [],_ => fun p hp => by cases hp
 | (n,o) :: r,h => fun p hp => by
  cases hp with
  | head => exact h.1
  | tail _ hp => exact lK.all h.2 p hp
def wQ : Nat → List SV → Slots
 | _,[] => []
 | k,x :: xs => (k,.s x) :: wQ (k + 1) xs
theorem Qe : ∀ (xs : List SV) (k t : Nat) (v : AV),lk (wQ k xs) t = some v → ∃ x,v = .s x ∧ k ≤ t ∧ xs[t - k]? = some x
 | [],_,_,_,h => by cases h
 | x :: xs,k,t,v,h => by
  change (bif Nat.beq k t then some (AV.s x) else lk (wQ (k + 1) xs) t) = some v at h
  cases hb : Nat.beq k t with
  | true =>
   rw [hb,cond_true] at h
   injection h with h
   have := Nat.eq_of_beq_eq_true hb
   subst this
   exact ⟨x,h.symm,Nat.le_refl _,by simp⟩
  | false =>
   rw [hb,cond_false] at h
   obtain ⟨y,h1,h2,h3⟩ := Qe xs (k + 1) t v h
   refine ⟨y,h1,by omega,?_⟩
   rw [show t - k = (t - (k + 1)) + 1 by omega,List.getElem?_cons_succ]
   exact h3
theorem Fn.aAB {P : Program} {f : FuncId} {fn : Func} {c : Code} {args : List SV} {us df : Mem} {pn X : List Nat} {N : Nat} {τ : Type} {M : Option τ} {rs : τ → List SV} {jH : τ → Mem} (hf : P.funcs[f]? = some fn) (hb : fn.body = some c) (hN : fn.ntmps = N)
  (hargs : args.length ≤ N) (hside : (eP (keys us) (pn ++ X) && kH X pn && eP pn (keys us)) = true)
  (h : ∀ w0 U0 R0 g0,(∀ b,U0 b → ∃ n ∈ keys us,(g0 n).has b) → aB P ⟨w0,U0,R0,g0,N,pn⟩ [.code c] (wQ 0 args) us M fun t e σ m => (e = .normal ∨ e = .ret) ∧ qU P σ m fn.results.toList (rs t) ∧ lK m (jH t) ∧ eP (keys us) (keys (jH t)) = true ∧ eP X (keys (jH t)) = true ∧ En (qw (rs t)) ∧ (∀ p ∈ jH t,bK p.2) ∧ okA (keys us ++ X) (qw (rs t)) = true ∧ (jH t).all (fun p => (keys us ++ X).elem p.1 && okO (keys us ++ X) p.2) = true) :
  ∀ t,M = some t → Fn P f args us (qw (rs t)) (jH t) (keys us) X := by
 intro t ht R B g w vs hw hlen hvs hus
 simp only [Bool.and_eq_true] at hside
 obtain ⟨⟨hs1,hs2⟩,hs3⟩ := hside
 let U0 : Nat → Prop := fun b => ∃ n ∈ keys us,(g n).has b
 let C : Ctx := ⟨w,U0,R,g,N,pn⟩
 have aCG : vs.length ≤ N := by rw [hlen]; exact hargs
 refine calls_of_wp hf hb ?_
 have hSt : St P C (wQ 0 args) us R B g { tmps := vs.toArray ++ Array.replicate (fn.ntmps - vs.toArray.size) undef,defers := [] } w := by
  refine ⟨hw,rfl,by simp [C,hN]; omega,fun t v hl => ?_,fun n o hl => ?_,fun n o b hl hg => ?_,fun b hb => .inl hb,fun _ h => h,rfl,rfl,rfl,Nat.le_refl _,fun _ _ _ => rfl,fun _ _ => rfl,fun _ _ _ cur e _ hh => ⟨cur,hh,rfl⟩⟩
  ·obtain ⟨x,rfl,_,h3⟩ := Qe args 0 t v hl
   obtain ⟨u,hu,hr⟩ := hvs _ x h3
   have hlt : t < vs.length := by rw [hlen]; exact (List.getElem?_eq_some_iff.1 h3).1
   have : (vs.toArray ++ Array.replicate (fn.ntmps - vs.toArray.size) undef).getD t undef = u := by
    rw [Array.getD_eq_getD_getElem?,Array.getElem?_append_left (by simpa using hlt)]
    simp only [Nat.sub_zero] at hu
    simp [hu]
   rw [this]
   exact hr
  ·have hm : ∀ (us : Mem),(∀ p ∈ us,RO P w R B g p.1 p.2) → lk us n = some o → RO P w R B g n o := by
    intro us
    induction us with
    | nil => intro _ h; cases h
    | cons q r ih =>
     intro hq h
     obtain ⟨k,v⟩ := q
     change (bif Nat.beq k n then some v else lk r n) = some o at h
     cases hb : Nat.beq k n with
     | true =>
      rw [hb,cond_true] at h
      injection h with h
      have := Nat.eq_of_beq_eq_true hb
      subst this
      subst h
      exact hq (k,v) List.mem_cons_self
     | false =>
      rw [hb,cond_false] at h
      exact ih (fun p hp => hq p (List.mem_cons_of_mem _ hp)) h
   exact hm us hus hl
  ·right
   have hm : ∀ (us : Mem),lk us n = some o → n ∈ keys us := by
    intro us
    induction us with
    | nil => intro h; cases h
    | cons q r ih =>
     intro h
     obtain ⟨k,v⟩ := q
     change (bif Nat.beq k n then some v else lk r n) = some o at h
     cases hb : Nat.beq k n with
     | true => have := Nat.eq_of_beq_eq_true hb; subst this; exact List.mem_cons_self
     | false =>
      rw [hb,cond_false] at h
      exact List.mem_cons_of_mem _ (ih h)
   exact ⟨n,hm us hl,hg⟩
 refine wp_mono (h w U0 R g (fun b hb => hb) t ht R B g _ w hSt) fun e a' w' hp => ?_
 obtain ⟨σ',m',R',B',g',hs',he,YP,hdf,hk1,hk2,hpa,hpo,hoa,Xe⟩ := hp
 obtain ⟨u,hu1,hu2⟩ := qU.results hs' YP
 have PI := hdf.all
 -- the names that come out
 let Z : Nat → Prop := fun n => n ∈ keys us ∨ n ∈ X
 have WY : ∀ n,Z n → n ∈ keys (jH t) := fun n hn => hn.elim (qF hk1 n) (qF hk2 n)
 classical
 let g2 : Nat → GS := fun n => if Z n then g' n else g n
 have sW : ∀ n,Z n → g2 n = g' n := fun n hn => if_pos hn
 have xB : ∀ n,¬ Z n → g2 n = g n := fun n hn => if_neg hn
 have JE : ∀ n,Z n → ∀ b,(g' n).has b → w.heap.size ≤ b ∨ ∃ k ∈ keys us,(g k).has b := fun n hn b hb => by
  obtain ⟨o,ho⟩ := mem_keys (WY n hn)
  exact hs'.ow n o b (PI (n,o) ho) hb
 have zF : ∀ b,R' b → R b ∨ w.heap.size ≤ b := hs'.perm
 have hRR : ∀ b,R b → R' b := hs'.r0
 have WU : ∀ b,R' b → b < w'.heap.size := fun b hb => hs'.wf.lt b (hs'.wf.rb b hb)
 have hwf : WF R' (fun b => B b ∨ R' b) g2 w' := by
  refine ⟨fun b hb => .inr hb,fun b hb => hb.elim (fun hb => Nat.lt_of_lt_of_le (hw.lt b hb) hs'.size) (WU b),fun n b hg => ?_,fun n k b hn hk => ?_,fun n j k b hj hk => ?_⟩
  ·by_cases hn : Z n
   ·rw [sW n hn] at hg
    have h1 := hs'.wf.jW n b hg
    refine ⟨fun hB => ?_,h1.2⟩
    rcases hB with hB | hB
    ·rcases JE n hn b hg with h2 | ⟨k,_,h2⟩
     ·exact absurd (hw.lt b hB) (by omega)
     ·exact (hw.jW k b h2).1 hB
    ·exact h1.1 (hs'.wf.rb b hB)
   ·rw [xB n hn] at hg
    have h1 := hw.jW n b hg
    refine ⟨fun hB => ?_,Nat.lt_of_lt_of_le h1.2 hs'.size⟩
    rcases hB with hB | hB
    ·exact h1.1 hB
    ·rcases zF b hB with h2 | h2
     ·exact h1.1 (hw.rb b h2)
     ·exact absurd h1.2 (by omega)
  ·have cross : ∀ n k b,Z n → ¬ Z k → (g' n).has b → (g k).has b → False := fun n k b hn hk h1 h2 => by
    rcases JE n hn b h1 with h3 | ⟨j,hj,h3⟩
    ·exact absurd (hw.jW k b h2).2 (by omega)
    ·exact hk (.inl (hw.kX j k b h3 h2 ▸ hj))
   by_cases rQ : Z n <;> by_cases zG : Z k
   ·rw [sW n rQ] at hn
    rw [sW k zG] at hk
    exact hs'.wf.kX n k b hn hk
   ·rw [sW n rQ] at hn
    rw [xB k zG] at hk
    exact (cross n k b rQ zG hn hk).elim
   ·rw [xB n rQ] at hn
    rw [sW k zG] at hk
    exact (cross k n b zG rQ hk hn).elim
   ·rw [xB n rQ] at hn
    rw [xB k zG] at hk
    exact hw.kX n k b hn hk
  ·by_cases hn : Z n
   ·rw [sW n hn] at hj hk
    exact hs'.wf.nd n j k b hj hk
   ·rw [xB n hn] at hj hk
    exact hw.nd n j k b hj hk
 have hpn : ∀ n ∈ pn,n ∈ keys us := qF hs3
 have JF : fG R B g w (keys us) X R' (fun b => B b ∨ R' b) g2 w' := by
  refine ⟨hwf,hRR,fun b hb => .inl hb,hs'.os,hs'.tape,hs'.output,hs'.size,fun b hb kW => hs'.heap b hb fun hU => ?_,fun n hn => ?_,fun n hn b hb => ?_,fun n kW CW b cur e' hg hh => ?_⟩
  ·obtain ⟨n,hn,hg⟩ := hU
   exact kW n hn hg
  ·by_cases rQ : Z n
   ·rw [sW n rQ]
    have hnu : n ∈ keys us := rQ.resolve_right hn
    exact hs'.pin n ((List.mem_append.1 (qF hs1 n hnu)).resolve_right hn)
   ·exact xB n rQ
  ·rw [sW n (.inr hn)] at hb
   exact JE n (.inr hn) b hb
  ·have hnp : n ∈ pn := (List.mem_append.1 (qF hs1 n kW)).resolve_right CW
   exact hs'.SY n hnp b cur e' hg hh
 have hgz : ∀ n ∈ keys us ++ X,g2 n = g' n := fun n hn => sW n (List.mem_append.1 hn)
 have hres : bodyPost P fn (fun e w' => ∃ u R' B' g',e = .returned u ∧ fG R B g w (keys us) X R' B' g' w' ∧ (∀ b,R' b → R b ∨ w.heap.size ≤ b) ∧ RA P w' R' R' g' (qw (rs t)) u ∧ ∀ p ∈ jH t,RO P w' R' R' g' p.1 p.2) .ret a' w' := by
  refine ⟨hs'.nd,u,hu1,u,R',_,g2,rfl,JF,zF,?_,?_⟩
  ·exact (hu2.perm hpa).ok hoa hgz
  ·intro p hp
   have hz := List.all_eq_true.1 Xe p hp
   simp only [Bool.and_eq_true] at hz
   exact ((hs'.ob p.1 p.2 (PI p hp)).perm (hpo p hp)).ok (List.mem_of_elem_eq_true hz.1) hz.2 hgz
 rcases he with rfl | rfl
 ·exact hres
 ·exact hres
inductive QW : PV → PV → Prop
 | sc {v : Value} : QW (.sc v) (.sc v)
 | xs {q q' : Bool} {els els' : List (List PV)} (hq : q' = true → q = true) (hl : els'.length = els.length) (hc : ∀ (j : Nat) cs cs',els[j]? = some cs → els'[j]? = some cs' → cs'.length = cs.length) (h : ∀ (j k : Nat) cs cs' p p',els[j]? = some cs → els'[j]? = some cs' → cs[k]? = some p → cs'[k]? = some p' → QW p p') : QW (.xs q els) (.xs q' els')
theorem aAH {R B : Nat → Prop} {q q' : Bool} {b : Nat} (zF : ∀ b,R b → B b) (hq : q' = true → q = true) (h : vz R B q b) : vz R B q' b := by
 cases q' with
 | true => rw [hq rfl] at h; exact h
 | false =>
  cases q with
  | true => exact zF b h
  | false => exact h
theorem gI.aB5 {w : World} {R B : Nat → Prop} (zF : ∀ b,R b → B b) {p : PV} {v : Value} (h : gI w R B p v) : ∀ {p' : PV},QW p p' → gI w R B p' v := by
 induction h with
 | sc h => intro p' hq; cases hq; exact .sc h
 | emp =>
  intro p' hq
  cases hq with
  | xs hq hl hc h =>
   have := List.eq_nil_of_length_eq_zero hl
   subst this
   exact .emp
 | @xs q els a c s n val hn hb hc hs hv hr ih =>
  intro p' hq
  cases hq with
  | @xs _ q' _ els' hqq hl hcc hh =>
   refine .xs (s := s) val (hn.trans hl.symm) (aAH zF hqq hb) (by omega) (fun cs' hcs' => ?_) (fun j k cs' p' hj hk => ?_) (fun j k cs' p' hj hk => ?_)
   ·obtain ⟨j,hj,rfl⟩ := List.mem_iff_getElem.1 hcs'
    have h1 : els[j]? = some (els[j]'(by omega)) := List.getElem?_eq_getElem (by omega)
    rw [hcc j _ _ h1 (List.getElem?_eq_getElem hj)]
    exact hs _ (List.mem_of_getElem? h1)
   ·have hjl := (List.getElem?_eq_some_iff.1 hj).1
    have h1 : els[j]? = some (els[j]'(by omega)) := List.getElem?_eq_getElem (by omega)
    have hkl := (List.getElem?_eq_some_iff.1 hk).1
    have h2 := hcc j _ _ h1 hj
    have h3 : (els[j]'(by omega))[k]? = some ((els[j]'(by omega))[k]'(by omega)) := List.getElem?_eq_getElem (by omega)
    exact hv _ _ _ _ h1 h3
   ·have hjl := (List.getElem?_eq_some_iff.1 hj).1
    have h1 : els[j]? = some (els[j]'(by omega)) := List.getElem?_eq_getElem (by omega)
    have hkl := (List.getElem?_eq_some_iff.1 hk).1
    have h2 := hcc j _ _ h1 hj
    have h3 : (els[j]'(by omega))[k]? = some ((els[j]'(by omega))[k]'(by omega)) := List.getElem?_eq_getElem (by omega)
    exact ih _ _ _ _ h1 h3 (hh _ _ _ _ _ _ h1 hj h3 hk)
inductive nZ (sh : Mem) : CV → CV → Prop
 | same {x : CV} (h : bP (keys sh) x = x) : nZ sh x x
 | weak {x : CV} {p p' : PV} (h : nZ sh x (.pv p)) (hq : QW p p') : nZ sh x (.pv p')
 | loc {n : Nat} {e : TypeId} {els : List (List PV)} (h : lk sh n = some (.dU e els)) : nZ sh (.loc n 0 els.length) (.pv (.xs false els))
 | nil {q : Bool} : nZ sh (.pv (.sc (.slice none 0 0))) (.pv (.xs q []))
 | iY {n p : Nat} {e e2 : TypeId} {rows : List (List (List PV))} {lens : List Nat} (h1 : lk sh n = some (.iY e p lens)) (h2 : lk sh p = some (.pool e2 rows)) (hl : lens = rows.map List.length) : nZ sh (.loc n 0 lens.length) (.pv (.xs false (rows.map fun r => [.xs false r])))
 | tl {p k : Nat} {e2 : TypeId} {rows : List (List (List PV))} {r : List (List PV)} (h2 : lk sh p = some (.pool e2 rows)) (hk : rows[k]? = some r) : nZ sh (.tl p k 0 r.length) (.pv (.xs false r))
inductive yw (sh : Mem) : List CV → List CV → Prop
 | nil : yw sh [] []
 | cons {x y : CV} {xs ys : List CV} (h : nZ sh x y) (t : yw sh xs ys) : yw sh (x :: xs) (y :: ys)
inductive yx (sh : Mem) : SV → SV → Prop
 | c {x y : CV} (h : nZ sh x y) : yx sh (.c x) (.c y)
 | agg {xs ys : List CV} (h : yw sh xs ys) : yx sh (.agg xs) (.agg ys)
inductive kS (sh : Mem) : List SV → List SV → Prop
 | nil : kS sh [] []
 | cons {x y : SV} {xs ys : List SV} (h : yx sh x y) (t : kS sh xs ys) : kS sh (x :: xs) (y :: ys)
section
variable {P : Program} {w : World} {R B : Nat → Prop} {g : Nat → GS}
def DJ (sh : Mem) (B : Nat → Prop) (g : Nat → GS) : Nat → Prop := fun b => B b ∨ ∃ n ∈ keys sh,(g n).has b
def rU (sh : Mem) (g : Nat → GS) : Nat → GS := fun n => if n ∈ keys sh then .dead else g n
theorem zN {sh : Mem} {n : Nat} (h : n ∈ keys sh) : rU sh g n = .dead := by unfold rU; exact if_pos h
theorem rV {sh : Mem} {n : Nat} (h : n ∉ keys sh) : rU sh g n = g n := by unfold rU; exact if_neg h
theorem KX (hw : WF R B g w) (sh : Mem) : WF R (DJ sh B g) (rU sh g) w := by
 refine ⟨fun b hb => .inl (hw.rb b hb),fun b hb => hb.elim (hw.lt b) fun ⟨n,_,hg⟩ => (hw.jW n b hg).2,fun n b hg => ?_,fun n k b hn hk => ?_,fun n j k b hj hk => ?_⟩
 ·by_cases hn : n ∈ keys sh
  ·rw [zN hn] at hg; exact hg.elim
  ·rw [rV hn] at hg
   refine ⟨fun hB => ?_,(hw.jW n b hg).2⟩
   rcases hB with hB | ⟨k,hk,hg'⟩
   ·exact (hw.jW n b hg).1 hB
   ·exact hn (hw.kX k n b hg' hg ▸ hk)
 ·by_cases hn1 : n ∈ keys sh
  ·rw [zN hn1] at hn; exact hn.elim
  ·by_cases hk1 : k ∈ keys sh
   ·rw [zN hk1] at hk; exact hk.elim
   ·rw [rV hn1] at hn
    rw [rV hk1] at hk
    exact hw.kX n k b hn hk
 ·by_cases hn : n ∈ keys sh
  ·rw [zN hn] at hj; cases hj
  ·rw [rV hn] at hj hk
   exact hw.nd n j k b hj hk
theorem Qb (hw : WF R B g w) (sh : Mem) : fG R B g w [] (keys sh) R (DJ sh B g) (rU sh g) w :=
 ⟨KX hw sh,fun _ h => h,fun _ h => .inl h,rfl,rfl,rfl,Nat.le_refl _,fun _ _ _ => rfl,fun n hn => rV hn,fun n hn b hb => (by rw [zN hn] at hb; exact hb.elim),fun n hn => (by cases hn)⟩
theorem uz {α : Type} : ∀ {l : List (Nat × α)} {n : Nat} {o : α},lk l n = some o → (n,o) ∈ l
 | [],_,_,h => by cases h
 | (k,v) :: r,n,o,h => by
  change (bif Nat.beq k n then some v else lk r n) = some o at h
  cases hb : Nat.beq k n with
  | true =>
   rw [hb,cond_true] at h
   injection h with h
   have := Nat.eq_of_beq_eq_true hb
   subst this
   subst h
   exact List.mem_cons_self
  | false =>
   rw [hb,cond_false] at h
   exact List.mem_cons_of_mem _ (uz h)
theorem qR.SB {B2 : Nat → Prop} (hb : ∀ b,B b → B2 b) {p k : Nat} {e : TypeId} {els : List (List PV)} {v : Value} (hx : RC P w R B g (.tl p k 0 els.length) v) (hr : qR P w R B ((g p).at k) e els) (hB : ∀ b,(g p).has b → B2 b) : gI w R B2 (.xs false els) v := by
 rcases hx.2 with ⟨h1,_,h3,h4⟩ | ⟨_,h2,_⟩ | ⟨b,cap,cur,e',k1,k2,k3,k4,k5,k6⟩
 ·have : els = [] := List.eq_nil_of_length_eq_zero h3
  subst this
  subst h4
  exact .emp
 ·exact absurd rfl h2
 ·rcases hr with ⟨h1,_⟩ | ⟨b',cur',h1,h2,h3,h4,h5⟩
  ·rw [k1] at h1; cases h1
  ·rw [k1] at h1
   injection h1 with h1
   subst h1
   rw [k2] at h2
   injection h2 with h2
   injection h2 with h2 h6 h7
   subst h2
   subst h6
   subst k6
   refine .xs (s := bQ P e') (fun j i => cur.getD (j * bQ P e' + i) undef) rfl (hB b (GS.JG k1)) k3 h3 (fun j i cs q hj hi => ?_) (fun j i cs q hj hi => ?_)
   ·obtain ⟨u,hu,_⟩ := h5 j i cs q hj hi
    rw [Nat.zero_mul,add_lit,Nat.zero_add,BI k2,hu]
    simp [Array.getD_eq_getD_getElem?,hu]
   ·obtain ⟨u,hu,hr⟩ := h5 j i cs q hj hi
    have : cur.getD (j * bQ P e' + i) undef = u := by simp [Array.getD_eq_getD_getElem?,hu]
    rw [this]
    exact gI.more hb hr
theorem nZ.rc {sh : Mem} (hw : WF R B g w) (hsh : ∀ p ∈ sh,RO P w R B g p.1 p.2) {x y : CV} {v : Value} (h : nZ sh x y) (hx : RC P w R B g x v) : RC P w R (DJ sh B g) (rU sh g) y v := by
 induction h with
 | weak h hq ih => exact ⟨(ih hx).1,gI.aB5 (KX hw sh).rb (ih hx).2 hq⟩
 | same h =>
  have := (Qb hw sh).rc hw hx
  rwa [h] at this
 | nil =>
  obtain ⟨_,h2⟩ := hx
  cases h2
  exact ⟨rfl,.emp⟩
 | @loc n e els h =>
  have hm := uz h
  have hro : dh P w R B g n e (dG els) := hsh (n,.dU e els) hm
  have hnk : n ∈ keys sh := List.mem_map.2 ⟨_,hm,rfl⟩
  refine ⟨hx.1,?_⟩
  rcases hx.2 with ⟨h1,_,h3,h4⟩ | ⟨_,h2,_⟩ | ⟨b,cap,cur,e',k1,k2,k3,k4,k5,k6⟩
  ·have : els = [] := List.eq_nil_of_length_eq_zero h3
   subst this
   subst h4
   exact .emp
  ·exact absurd rfl h2
  ·rcases hro with ⟨h1,_⟩ | ⟨b',cur',h1,h2,h3,h4,h5⟩
   ·rw [k1] at h1; cases h1
   ·rw [k1] at h1
    injection h1 with h1
    subst h1
    rw [k2] at h2
    injection h2 with h2
    injection h2 with h2 h6 h7
    subst h2
    subst h6
    subst k6
    have hval : ∀ j k cs p,els[j]? = some cs → cs[k]? = some p → ∃ u,cur[j * bQ P e' + k]? = some u ∧ RC P w R B g (.pv p) u := fun j k cs p hj hk => by
     have := h5 j k (cs.map .pv) (.pv p) (by simp [dG,hj]) (by simp [hk])
     exact this
    refine .xs (s := bQ P e') (fun j k => cur.getD (j * bQ P e' + k) undef) rfl (.inr ⟨n,hnk,GS.qc k1⟩) k3 (fun cs hcs => ?_) (fun j k cs p hj hk => ?_) (fun j k cs p hj hk => ?_)
    ·have := h3 (cs.map .pv) (List.mem_map.2 ⟨cs,hcs,rfl⟩)
     simpa using this
    ·obtain ⟨u,hu,_⟩ := hval j k cs p hj hk
     rw [Nat.zero_mul,add_lit,Nat.zero_add,BI k2,hu]
     simp [Array.getD_eq_getD_getElem?,hu]
    ·obtain ⟨u,hu,hr⟩ := hval j k cs p hj hk
     have : cur.getD (j * bQ P e' + k) undef = u := by simp [Array.getD_eq_getD_getElem?,hu]
     rw [this]
     exact gI.more (fun _ h => .inl h) hr.2
 | @tl p k e2 rows r h2 hk =>
  have hm := uz h2
  obtain ⟨_,hrows⟩ := hsh (p,.pool e2 rows) hm
  exact ⟨hx.1,qR.SB (fun _ h => .inl h) hx (hrows k r hk) fun b hb => .inr ⟨p,List.mem_map.2 ⟨_,hm,rfl⟩,hb⟩⟩
 | @iY n p e e2 rows lens h1 h2 hl =>
  have hm1 := uz h1
  have hm2 := uz h2
  have hro : dh P w R B g n e (lJ p lens) := hsh (n,.iY e p lens) hm1
  obtain ⟨_,hrows⟩ := hsh (p,.pool e2 rows) hm2
  have hnk : n ∈ keys sh := List.mem_map.2 ⟨_,hm1,rfl⟩
  have hpk : p ∈ keys sh := List.mem_map.2 ⟨_,hm2,rfl⟩
  refine ⟨hx.1,?_⟩
  rcases hx.2 with ⟨h1,_,h3,h4⟩ | ⟨_,h2,_⟩ | ⟨b,cap,cur,e',k1,k2,k3,k4,k5,k6⟩
  ·have : rows = [] := List.eq_nil_of_length_eq_zero (by rw [hl] at h3; simpa using h3)
   subst this
   subst h4
   exact .emp
  ·exact absurd rfl h2
  ·rcases hro with ⟨h1,_⟩ | ⟨b',cur',h1,h2,h3,h4,h5⟩
   ·rw [k1] at h1; cases h1
   ·rw [k1] at h1
    injection h1 with h1
    subst h1
    rw [k2] at h2
    injection h2 with h2
    injection h2 with h2 h6 h7
    subst h2
    subst h6
    subst k6
    have hcell : ∀ j r,rows[j]? = some r → (lJ p lens)[j]? = some [CV.tl p j 0 r.length] := fun j r hj => by
     unfold lJ
     rw [List.getElem?_mapIdx,hl,List.getElem?_map,hj]
     rfl
    have hval : ∀ j r,rows[j]? = some r → ∃ u,cur[j * bQ P e' + 0]? = some u ∧ RC P w R B g (.tl p j 0 r.length) u := fun j r hj => h5 j 0 _ _ (hcell j r hj) rfl
    have hone : ∀ (j i : Nat) cs q,(rows.map fun r => [PV.xs false r])[j]? = some cs → cs[i]? = some q → ∃ r,rows[j]? = some r ∧ i = 0 ∧ q = .xs false r := fun j i cs q hj hi => by
     rw [List.getElem?_map] at hj
     cases hr : rows[j]? with
     | none => rw [hr] at hj; cases hj
     | some r =>
      rw [hr] at hj
      injection hj with hj
      subst hj
      cases i with
      | zero => simp at hi; exact ⟨r,rfl,rfl,hi.symm⟩
      | succ i => simp at hi
    refine .xs (s := bQ P e') (fun j i => cur.getD (j * bQ P e' + i) undef) (by rw [hl]; simp) (.inr ⟨n,hnk,GS.qc k1⟩) (by rw [hl] at k3; simpa using k3) (fun cs hcs => ?_) (fun j i cs q hj hi => ?_) (fun j i cs q hj hi => ?_)
    ·obtain ⟨j,hj⟩ := List.mem_iff_getElem?.1 hcs
     rw [List.getElem?_map] at hj
     cases hr : rows[j]? with
     | none => rw [hr] at hj; cases hj
     | some r =>
      rw [hr] at hj
      injection hj with hj
      subst hj
      exact h3 _ (List.mem_of_getElem? (hcell j r hr))
    ·obtain ⟨r,hr,rfl,rfl⟩ := hone j i cs q hj hi
     obtain ⟨u,hu,_⟩ := hval j r hr
     have hu' : cur[j * bQ P e']? = some u := hu
     rw [Nat.zero_mul,add_lit,Nat.zero_add,BI k2,hu]
     simp [Array.getD_eq_getD_getElem?,hu']
    ·obtain ⟨r,hr,rfl,rfl⟩ := hone j i cs q hj hi
     obtain ⟨u,hu,xJ⟩ := hval j r hr
     have hu' : cur[j * bQ P e']? = some u := hu
     have : cur.getD (j * bQ P e' + 0) undef = u := by simp [Array.getD_eq_getD_getElem?,hu']
     rw [this]
     exact qR.SB (fun _ h => .inl h) xJ (hrows j r hr) fun b hb => .inr ⟨p,hpk,hb⟩
theorem yw.get {sh : Mem} {xs ys : List CV} (h : yw sh xs ys) : xs.length = ys.length ∧ ∀ (k : Nat) y,ys[k]? = some y → ∃ x,xs[k]? = some x ∧ nZ sh x y := by
 induction h with
 | nil => exact ⟨rfl,fun k y h => by simp at h⟩
 | cons h _ ih =>
  refine ⟨by simp [ih.1],fun k y hk => ?_⟩
  cases k with
  | zero => simp at hk; subst hk; exact ⟨_,rfl,h⟩
  | succ k => exact ih.2 k y (by simpa using hk)
theorem yx.rs {sh : Mem} (hw : WF R B g w) (hsh : ∀ p ∈ sh,RO P w R B g p.1 p.2) {x y : SV} {v : Value} (h : yx sh x y) (hx : RS P w R B g x v) : RS P w R (DJ sh B g) (rU sh g) y v := by
 cases h with
 | c h => exact nZ.rc hw hsh h hx
 | agg h =>
  obtain ⟨h1,h2⟩ := h.get
  obtain ⟨vs,h3,h4,h5⟩ := hx
  refine ⟨vs,h3,h4.trans h1,fun k y hk => ?_⟩
  obtain ⟨x,h6,h7⟩ := h2 k y hk
  obtain ⟨u,h8,h9⟩ := h5 k x h6
  exact ⟨u,h8,h7.rc hw hsh h9⟩
theorem kS.get {sh : Mem} {xs ys : List SV} (h : kS sh xs ys) : xs.length = ys.length ∧ ∀ (k : Nat) y,ys[k]? = some y → ∃ x,xs[k]? = some x ∧ yx sh x y := by
 induction h with
 | nil => exact ⟨rfl,fun k y h => by simp at h⟩
 | cons h _ ih =>
  refine ⟨by simp [ih.1],fun k y hk => ?_⟩
  cases k with
  | zero => simp at hk; subst hk; exact ⟨_,rfl,h⟩
  | succ k => exact ih.2 k y (by simpa using hk)
end
def dD (P : Program) (f : FuncId) : Bool := match P.funcs[f]? with
 | some fn => !(fn.name == "runtime.NumGoroutine") && fn.body.isSome
 | none => false
theorem SE {P : Program} {f : FuncId} (h : dD P f = true) (args : Array Value) (w : World) : (callFunc f args).run P w = .ok (.enter f args) w := by
 unfold dD at h
 split at h
 ·rename_i fn hf
  simp only [Bool.and_eq_true,Bool.not_eq_true'] at h
  have hn : fn.name ≠ "runtime.NumGoroutine" := by simpa using h.1
  have hb : fn.body ≠ none := by cases hbody : fn.body <;> simp_all
  simp [callFunc,hf,hn,hb]
 ·cases h
def Ef (ops : List Operand) (xs : List SV) : List (Operand × AV) := (ops.zip xs).map fun q => (q.1,.s q.2)
def plS (n : Nat) : SV := .c (.pl n 0)
theorem LT.call {P : Program} {o : Oper} {cf : Operand} {f : FuncId} {ops : Array Operand} {ts : Array TypeId} {caps : List Nat} {xs ys : List SV} {us sh df : Mem} {v : AV} {W X : List Nat} (hf : Fn P f (ys ++ caps.map plS) us v df W X)
  (ho : o.op = .call { callee := .value cf,args := ops,argTypes := ts }) (hb : dD P f = true) (hlen : ops.size = xs.length) (hsh : kS sh xs ys)
  (hside : (kH (keys sh) (W ++ X ++ keys us ++ keys df ++ caps) && eP W (keys us)) = true) (hus : ∀ p ∈ us,jU (keys sh) p.2 = p.2) : LT P o ((cf,Cc (.fn f caps)) :: Ef ops.toList xs) (us ++ sh) v df W X := by
 intro R B g w a hw hin hu K Q hK
 simp only [Bool.and_eq_true] at hside
 obtain ⟨hdis,aCC⟩ := hside
 have hd := FK hdis
 have YR : ∀ p ∈ sh,RO P w R B g p.1 p.2 := fun p hp => hu p (List.mem_append_right _ hp)
 have WZ := Qb hw sh
 obtain ⟨_,cv,hcf,hcl,XR⟩ := in1 hin
 obtain ⟨hl1,hget⟩ := hsh.get
 have hvl : (ops.toList.map a.eval).length = ys.length := by rw [List.length_map,Array.length_toList,hlen,hl1]
 have hcall := hf R (DJ sh B g) (rU sh g) w (ops.toList.map a.eval ++ cv) (KX hw sh) (by rw [List.length_append,List.length_append,hvl,hcl,List.length_map]) (fun k y hk => by
  rw [List.getElem?_append] at hk ⊢
  rw [hvl]
  split at hk
  ·rename_i hlt
   rw [if_pos hlt]
   obtain ⟨x,hx,hs⟩ := hget k y hk
   have hkl : k < ops.toList.length := by rw [Array.length_toList,hlen,hl1]; exact hlt
   refine ⟨a.eval ops.toList[k],by rw [List.getElem?_map,List.getElem?_eq_getElem hkl]; rfl,?_⟩
   refine hs.rs hw YR ?_
   have hm : (ops.toList[k],AV.s x) ∈ Ef ops.toList xs := by
    refine List.mem_map.2 ⟨(ops.toList[k],x),?_,rfl⟩
    refine List.mem_of_getElem? (i := k) ?_
    rw [List.getElem?_zip_eq_some]
    exact ⟨List.getElem?_eq_getElem hkl,hx⟩
   exact hin _ (List.mem_cons_of_mem _ hm)
  ·rename_i hlt
   rw [if_neg hlt]
   rw [List.getElem?_map] at hk
   cases hc : caps[k - ys.length]? with
   | none => rw [hc] at hk; cases hk
   | some n =>
    rw [hc] at hk
    injection hk with hk
    subst hk
    obtain ⟨b,h1,h2⟩ := XR _ n hc
    have hn : n ∉ keys sh := fun hm => hd n hm (List.mem_append_right _ (List.mem_of_getElem? hc))
    exact ⟨_,h2,rfl,b,(rV hn).trans h1,rfl⟩)
  (fun p hp => by
   have hn : p.1 ∉ keys sh := fun hm => hd p.1 hm (List.mem_append_left _ (List.mem_append_left _ (List.mem_append_right _ (List.mem_map.2 ⟨p,hp,rfl⟩))))
   have := WZ.ro hw hn (by simp) (hu p (List.mem_append_left _ hp))
   rwa [hus p hp] at this)
 have hrun : (execOp a.eval o).run P w = .ok (.enter f (ops.toList.map a.eval ++ cv).toArray) w := by
  have e1 : (ops.map a.eval ++ cv.toArray) = (ops.toList.map a.eval ++ cv).toArray := by
   apply Array.ext'
   simp
  simp only [execOp,ho,resolve,hcf,Deferred.ofValue,Sem.run_bind,Sem.run_pure,Result.andThen_ok,invoke]
  first
   | (simp only [Array.empty_append,SE hb,e1]; done)
   | (simp only [Array.empty_append]; rw [← e1]; exact SE hb _ w)
 unfold Oper.wp
 rw [hrun]
 rw [Oper.upon_enter]
 refine hcall.mono fun e w' hp => ?_
 obtain ⟨u,R',B',g',rfl,had,hR,hv,hdf⟩ := hp
 -- back in the caller: what was lent is its own again
 have PW : ∀ n ∈ keys sh,n ∉ X := fun n hn hx => hd n hn (List.mem_append_left _ (List.mem_append_left _ (List.mem_append_left _ (List.mem_append_right _ hx))))
 have PU : ∀ n ∈ keys sh,n ∉ W := fun n hn hx => hd n hn (List.mem_append_left _ (List.mem_append_left _ (List.mem_append_left _ (List.mem_append_left _ hx))))
 have XW : ∀ n ∈ keys sh,g' n = .dead := fun n hn => (had.names n (PW n hn)).trans (zN hn)
 classical
 let g2 : Nat → GS := fun n => if n ∈ keys sh then g n else g' n
 have hin2 : ∀ n,n ∈ keys sh → g2 n = g n := fun n hn => if_pos hn
 have hout2 : ∀ n,n ∉ keys sh → g2 n = g' n := fun n hn => if_neg hn
 let B2 : Nat → Prop := fun b => B b ∨ R' b
 have hold : ∀ n b,n ∈ keys sh → (g n).has b → ¬ B2 b ∧ b < w'.heap.size := fun n b hn hg => by
  have h1 := hw.jW n b hg
  refine ⟨fun hB => ?_,Nat.lt_of_lt_of_le h1.2 had.size⟩
  rcases hB with hB | hB
  ·exact h1.1 hB
  ·rcases hR b hB with h2 | h2
   ·exact h1.1 (hw.rb b h2)
   ·exact absurd h1.2 (by omega)
 have CS : ∀ n k b,n ∈ keys sh → k ∉ keys sh → (g n).has b → (g' k).has b → False := fun n k b hn hk h1 h2 => by
  by_cases hkX : k ∈ X
  ·rcases had.fresh k hkX b h2 with h3 | ⟨j,hj,h3⟩
   ·exact absurd (hw.jW n b h1).2 (by omega)
   ·have hjs : j ∉ keys sh := fun hm => PU j hm hj
    rw [rV hjs] at h3
    exact hjs (hw.kX n j b h1 h3 ▸ hn)
  ·rw [had.names k hkX,rV hk] at h2
   exact hk (hw.kX n k b h1 h2 ▸ hn)
 have Yv : WF R' B2 g2 w' := by
  refine ⟨fun b hb => .inr hb,fun b hb => hb.elim (fun hb => Nat.lt_of_lt_of_le (hw.lt b hb) had.size) fun hb => had.wf.lt b (had.wf.rb b hb),fun n b hg => ?_,fun n k b hn hk => ?_,fun n j k b hj hk => ?_⟩
  ·by_cases hn : n ∈ keys sh
   ·rw [hin2 n hn] at hg
    exact hold n b hn hg
   ·rw [hout2 n hn] at hg
    have h1 := had.wf.jW n b hg
    exact ⟨fun hB => h1.1 (hB.elim (fun h => had.b b (.inl h)) (had.wf.rb b)),h1.2⟩
  ·by_cases h1 : n ∈ keys sh <;> by_cases h2 : k ∈ keys sh
   ·rw [hin2 n h1] at hn
    rw [hin2 k h2] at hk
    exact hw.kX n k b hn hk
   ·rw [hin2 n h1] at hn
    rw [hout2 k h2] at hk
    exact (CS n k b h1 h2 hn hk).elim
   ·rw [hout2 n h1] at hn
    rw [hin2 k h2] at hk
    exact (CS k n b h2 h1 hk hn).elim
   ·rw [hout2 n h1] at hn
    rw [hout2 k h2] at hk
    exact had.wf.kX n k b hn hk
  ·by_cases hn : n ∈ keys sh
   ·rw [hin2 n hn] at hj hk
    exact hw.nd n j k b hj hk
   ·rw [hout2 n hn] at hj hk
    exact had.wf.nd n j k b hj hk
 have JD : ∀ n ∈ W,rU sh g n = g n := fun n hn => rV fun hm => PU n hm hn
 have Wh : fG R B g w W X R' B2 g2 w' := by
  refine ⟨Yv,had.r,fun b hb => .inl hb,had.os,had.tape,had.output,had.size,fun b hb hW => had.heap b hb fun n hn => by rw [JD n hn]; exact hW n hn,fun n hn => ?_,fun n hn b hb => ?_,fun n kW CW b cur e hg hh => ?_⟩
  ·by_cases h1 : n ∈ keys sh
   ·exact hin2 n h1
   ·rw [hout2 n h1,had.names n hn,rV h1]
  ·have h1 : n ∉ keys sh := fun hm => PW n hm hn
   rw [hout2 n h1] at hb
   rcases had.fresh n hn b hb with h2 | ⟨k,hk,h2⟩
   ·exact .inl h2
   ·rw [JD k hk] at h2
    exact .inr ⟨k,hk,h2⟩
  ·exact had.shape n kW CW b cur e (by rw [JD n kW]; exact hg) hh
 have hgd : ∀ n,g' n ≠ .dead → g2 n = g' n := fun n hg => by
  by_cases h1 : n ∈ keys sh
  ·exact absurd (XW n h1) hg
  ·exact hout2 n h1
 exact hK u R' B2 g2 w' Wh hR (fun _ => (hv.more fun b hb => .inr hb).names hgd) fun p hp => ((hdf p hp).more fun b hb => .inr hb).names hgd
end Go.Fw
end
section
set_option linter.unusedVariables false
set_option linter.unusedSimpArgs false
set_option linter.unnecessarySimpa false
namespace Go.Fw
structure Ct where
 ins : List (Operand × AV)
 us : Mem
 v : AV
 df : Mem
 W : List Nat
 X : List Nat
 want : Bool
abbrev OC := Oper × Ct
def jM (p : OC) (st : Slots × Mem) : Slots × Mem := (dX (jw p.2.X st.1) p.1.dst p.2.v,p.2.df ++ iF p.2.X st.2)
def iW : List OC → Slots × Mem → Slots × Mem
 | [],st => st
 | p :: r,st => iW r (jM p st)
def iE (X : List Nat) : CV → Bool
 | .loc n _ _ => !X.elem n
 | .pl n _ => !X.elem n
 | .fn _ caps => !caps.any X.elem
 | .mref n => !X.elem n
 | .tl p _ _ _ => !X.elem p
 | .tpl p _ _ => !X.elem p
 | _ => true
def Ar (X : List Nat) : SV → Bool
 | .c x => iE X x
 | .agg cs => cs.all (iE X)
def oV (X : List Nat) : AV → Bool
 | .s x => Ar X x
 | .dI xs => xs.all (Ar X)
def mG (X : List Nat) : Ob → Bool
 | .row _ els => els.all (·.all (iE X))
 | .iY _ p _ => !X.elem p
 | _ => true
def yO : CV → Bool
 | .junk => false
 | _ => true
def Kv : SV → Bool
 | .c x => yO x
 | .agg cs => cs.all yO
def EI : AV → Bool
 | .s x => Kv x
 | .dI xs => xs.all Kv
def Ku : Ob → Bool
 | .row _ els => els.all (·.all yO)
 | .unk => false
 | _ => true
theorem KP {X : List Nat} {x : CV} (h : iE X x = true) : bP X x = x := by
 cases x with
 | fn f caps => cases hx : caps.any X.elem <;> simp only [iE,bP,hx,cond_true,cond_false] at h ⊢ <;> first | rfl | cases h
 | tl p k o l => cases hx : X.elem p <;> simp only [iE,bP,hx,cond_true,cond_false] at h ⊢ <;> first | rfl | cases h
 | tpl p k o => cases hx : X.elem p <;> simp only [iE,bP,hx,cond_true,cond_false] at h ⊢ <;> first | rfl | cases h
 | _ => simp_all [iE,bP]
theorem GR {α : Type} {f : α → α} {l : List α} (h : ∀ x ∈ l,f x = x) : l.map f = l := by
 rw [List.map_congr_left h,List.map_id']
theorem QO {X : List Nat} {x : SV} (h : Ar X x = true) : mF X x = x := by
 cases x with
 | c x => simp only [mF,KP h]
 | agg cs => simp only [mF,GR fun x hx => KP (List.all_eq_true.1 h x hx)]
theorem KH {X : List Nat} {x : AV} (h : oV X x = true) : lF X x = x := by
 cases x with
 | s x => simp only [lF,QO h]
 | dI xs => simp only [lF,GR fun x hx => QO (List.all_eq_true.1 h x hx)]
theorem KQ {X : List Nat} {x : Ob} (h : mG X x = true) : jU X x = x := by
 cases x with
 | row e els => simp only [jU,GR fun cs hcs => GR fun x hx => KP (List.all_eq_true.1 (List.all_eq_true.1 h cs hcs) x hx)]
 | dU e els => rfl
 | mp es => rfl
 | pool e rows => rfl
 | iY e p lens =>
  have hx : X.elem p = false := by simpa [mG] using h
  simp only [jU,hx,cond_false]
 | unk => rfl
theorem KO {X : List Nat} {x : CV} (h : yO (bP X x) = true) : iE X x = true := by
 cases x with
 | loc n o l => cases hx : X.elem n <;> simp_all [iE,bP,yO]
 | pl n o => cases hx : X.elem n <;> simp_all [iE,bP,yO]
 | fn f caps => cases hx : caps.any X.elem <;> simp only [iE,bP,hx,cond_true,cond_false] at h ⊢ <;> first | rfl | cases h
 | mref n => cases hx : X.elem n <;> simp_all [iE,bP,yO]
 | tl p k o l => cases hx : X.elem p <;> simp only [iE,bP,hx,cond_true,cond_false] at h ⊢ <;> first | rfl | cases h
 | tpl p k o => cases hx : X.elem p <;> simp only [iE,bP,hx,cond_true,cond_false] at h ⊢ <;> first | rfl | cases h
 | _ => rfl
theorem QN {X : List Nat} {x : SV} (h : Kv (mF X x) = true) : Ar X x = true := by
 cases x with
 | c x => exact KO h
 | agg cs => exact List.all_eq_true.2 fun x hx => KO (List.all_eq_true.1 h _ (List.mem_map.2 ⟨x,hx,rfl⟩))
theorem Zf {X : List Nat} {x : AV} (h : EI (lF X x) = true) : oV X x = true := by
 cases x with
 | s x => exact QN h
 | dI xs => exact List.all_eq_true.2 fun x hx => QN (List.all_eq_true.1 h _ (List.mem_map.2 ⟨x,hx,rfl⟩))
theorem Zi {X : List Nat} {x : Ob} (h : Ku (jU X x) = true) : mG X x = true := by
 cases x with
 | row e els => exact List.all_eq_true.2 fun cs hcs => List.all_eq_true.2 fun x hx => KO (List.all_eq_true.1 (List.all_eq_true.1 h _ (List.mem_map.2 ⟨cs,hcs,rfl⟩)) _ (List.mem_map.2 ⟨x,hx,rfl⟩))
 | dU e els => rfl
 | mp es => rfl
 | pool e rows => rfl
 | iY e p lens =>
  cases hx : X.elem p with
  | false => simp only [mG,hx,Bool.not_false]
  | true => simp only [jU,hx,cond_true] at h; cases h
 | unk => cases h
theorem KN (X Y : List Nat) (x : CV) : bP X (bP Y x) = bP Y (bP X x) := by
 cases x with
 | loc n o l => cases hx : X.elem n <;> cases hy : Y.elem n <;> simp only [bP,hx,hy,cond_true,cond_false]
 | pl n o => cases hx : X.elem n <;> cases hy : Y.elem n <;> simp only [bP,hx,hy,cond_true,cond_false]
 | fn f caps => cases hx : caps.any X.elem <;> cases hy : caps.any Y.elem <;> simp only [bP,hx,hy,cond_true,cond_false]
 | mref n => cases hx : X.elem n <;> cases hy : Y.elem n <;> simp only [bP,hx,hy,cond_true,cond_false]
 | tl n k o l => cases hx : X.elem n <;> cases hy : Y.elem n <;> simp only [bP,hx,hy,cond_true,cond_false]
 | tpl n k o => cases hx : X.elem n <;> cases hy : Y.elem n <;> simp only [bP,hx,hy,cond_true,cond_false]
 | _ => rfl
theorem QL (X Y : List Nat) (x : SV) : mF X (mF Y x) = mF Y (mF X x) := by
 cases x with
 | c x => simp only [mF,KN X Y]
 | agg cs => simp only [mF,List.map_map,Function.comp_def,KN X Y]
theorem Zd (X Y : List Nat) (x : AV) : lF X (lF Y x) = lF Y (lF X x) := by
 cases x with
 | s x => simp only [lF,QL X Y]
 | dI xs => simp only [lF,List.map_map,Function.comp_def,QL X Y]
theorem Zg (X Y : List Nat) (x : Ob) : jU X (jU Y x) = jU Y (jU X x) := by
 cases x with
 | row e els => simp only [jU,List.map_map,Function.comp_def,KN X Y]
 | dU e els => rfl
 | mp es => rfl
 | pool e rows => rfl
 | iY e p lens => cases hx : X.elem p <;> cases hy : Y.elem p <;> simp only [jU,hx,hy,cond_true,cond_false]
 | unk => rfl
theorem Qj (σ : Slots) (d : Option Tmp) (v : AV) (t : Nat) : lk (dX σ d v) t = if d = some t then some v else lk σ t := by
 cases d with
 | none => simp [dX]
 | some d =>
  show (bif Nat.beq d t then some v else lk σ t) = _
  cases hb : Nat.beq d t with
  | true => have := Nat.eq_of_beq_eq_true hb; subst this; simp
  | false => have := Nat.ne_of_beq_eq_false hb; simp [this]
theorem tu (p : OC) (st : Slots × Mem) (t : Nat) : lk (jM p st).1 t = if p.1.dst = some t then some p.2.v else (lk st.1 t).map (lF p.2.X) := by
 unfold jM
 rw [Qj,DK]
theorem F7 (X : List Nat) : ∀ (m : Mem) (n : Nat),lk (iF X m) n = if n ∈ X then none else (lk m n).map (jU X)
 | [],n => by simp [iF,lk]
 | (k,v) :: r,n => by
  unfold iF
  have ih := F7 X r n
  cases hk : X.elem k with
  | true =>
   rw [cond_true,ih]
   have hkX := List.mem_of_elem_eq_true hk
   by_cases hn : n ∈ X
   ·rw [if_pos hn,if_pos hn]
   ·rw [if_neg hn,if_neg hn]
    congr 1
    show lk r n = (bif Nat.beq k n then some v else lk r n)
    cases hb : Nat.beq k n with
    | true => have := Nat.eq_of_beq_eq_true hb; subst this; exact absurd hkX hn
    | false => rfl
  | false =>
   rw [cond_false]
   show (bif Nat.beq k n then some (jU X v) else lk (iF X r) n) = if n ∈ X then none else ((bif Nat.beq k n then some v else lk r n)).map (jU X)
   cases hb : Nat.beq k n with
   | true => have := Nat.eq_of_beq_eq_true hb; subst this; rw [if_neg (lN hk)]; rfl
   | false => rw [cond_false,cond_false,ih]
theorem Qd {α : Type} : ∀ (x y : List (Nat × α)) (n : Nat),lk (x ++ y) n = if n ∈ keys x then lk x n else lk y n
 | [],y,n => by simp [keys]
 | (k,v) :: r,y,n => by
  show (bif Nat.beq k n then some v else lk (r ++ y) n) = if n ∈ keys ((k,v) :: r) then (bif Nat.beq k n then some v else lk r n) else lk y n
  cases hb : Nat.beq k n with
  | true => have := Nat.eq_of_beq_eq_true hb; subst this; simp [keys]
  | false =>
   have hne := Nat.ne_of_beq_eq_false hb
   rw [cond_false,cond_false,Qd r y n]
   have : n ∈ keys ((k,v) :: r) ↔ n ∈ keys r := by simp [keys,Ne.symm hne]
   by_cases h : n ∈ keys r
   ·rw [if_pos h,if_pos (this.2 h)]
   ·rw [if_neg h,if_neg fun h' => h (this.1 h')]
theorem tq (p : OC) (st : Slots × Mem) (n : Nat) : lk (jM p st).2 n = if n ∈ keys p.2.df then lk p.2.df n else if n ∈ p.2.X then none else (lk st.2 n).map (jU p.2.X) := by
 unfold jM
 rw [Qd,F7]
def nY (a b : Slots × Mem) : Prop := (∀ t,lk a.1 t = lk b.1 t) ∧ ∀ n,lk a.2 n = lk b.2 n
theorem nY.refl (a : Slots × Mem) : nY a a := ⟨fun _ => rfl,fun _ => rfl⟩
theorem nY.trans {a b c : Slots × Mem} (h : nY a b) (k : nY b c) : nY a c := ⟨fun t => (h.1 t).trans (k.1 t),fun n => (h.2 n).trans (k.2 n)⟩
theorem nY.step {a b : Slots × Mem} (h : nY a b) (p : OC) : nY (jM p a) (jM p b) := ⟨fun t => by rw [tu,tu,h.1],fun n => by rw [tq,tq,h.2]⟩
theorem nY.run {a b : Slots × Mem} (h : nY a b) : ∀ L : List OC,nY (iW L a) (iW L b)
 | [] => h
 | p :: r => nY.run (h.step p) r
def wC (ops : Array Oper) (p : OC) : List Nat :=
 (p.2.ins.filterMap fun q => match q.1 with | .tmp t => some t | _ => none) ++ (match p.1.guard with | some (j,_) => ((ops[j]?).bind (·.dst)).toList | none => [])
def uX (p : OC) : List Nat := p.2.W ++ p.2.X ++ keys p.2.df
def EK (p : OC) : List Nat := keys p.2.us ++ uX p
def half (ops : Array Oper) (a b : OC) : Bool :=
 (match a.1.dst with | some d => !(wC ops b).elem d && b.1.dst != some d | none => true) && kH (uX a) (EK b) && oV a.2.X b.2.v && b.2.ins.all (fun q => oV a.2.X q.2) && b.2.us.all (fun q => mG a.2.X q.2) && b.2.df.all (fun q => mG a.2.X q.2)
def indep (ops : Array Oper) (a b : OC) : Bool := half ops a b && half ops b a
structure Half (ops : Array Oper) (a b : OC) : Prop where
 rd : ∀ d,a.1.dst = some d → d ∉ wC ops b
 ds : ∀ d,a.1.dst = some d → b.1.dst ≠ some d
 nm : ∀ n ∈ uX a,n ∉ EK b
 v : lF a.2.X b.2.v = b.2.v
 ins : ∀ q ∈ b.2.ins,oV a.2.X q.2 = true
 us : ∀ q ∈ b.2.us,mG a.2.X q.2 = true
 df : ∀ q ∈ b.2.df,mG a.2.X q.2 = true
theorem FY {ops : Array Oper} {a b : OC} (h : half ops a b = true) : Half ops a b := by
 unfold half at h
 simp only [Bool.and_eq_true] at h
 obtain ⟨⟨⟨⟨⟨h1,h2⟩,h3⟩,h4⟩,h5⟩,h6⟩ := h
 refine ⟨fun d hd => ?_,fun d hd => ?_,FK h2,KH h3,List.all_eq_true.1 h4,List.all_eq_true.1 h5,List.all_eq_true.1 h6⟩
 ·rw [hd] at h1
  simp only [Bool.and_eq_true,Bool.not_eq_true'] at h1
  exact lN h1.1
 ·rw [hd] at h1
  simp only [Bool.and_eq_true] at h1
  simpa using h1.2
theorem DI {p : OC} {n : Nat} (h : n ∈ keys p.2.df) : n ∈ uX p := List.mem_append_right _ h
theorem IL {p : OC} {n : Nat} (h : n ∈ p.2.X) : n ∈ uX p := List.mem_append_left _ (List.mem_append_right _ h)
theorem MZ {p : OC} {n : Nat} (h : n ∈ uX p) : n ∈ EK p := List.mem_append_right _ h
theorem Qh {α : Type} {l : List (Nat × α)} {n : Nat} {o : α} (h : lk l n = some o) : n ∈ keys l := List.mem_map.2 ⟨_,uz h,rfl⟩
theorem Qg {X : List Nat} {df : Mem} (h : ∀ q ∈ df,mG X q.2 = true) (n : Nat) : (lk df n).map (jU X) = lk df n := by
 cases hl : lk df n with
 | none => rfl
 | some o => exact congrArg some (KQ (h _ (uz hl)))
theorem swap {ops : Array Oper} {a b : OC} (h : indep ops a b = true) (st : Slots × Mem) : nY (jM a (jM b st)) (jM b (jM a st)) := by
 unfold indep at h
 simp only [Bool.and_eq_true] at h
 have hab := FY h.1
 have hba := FY h.2
 refine ⟨fun t => ?_,fun n => ?_⟩
 ·rw [tu,tu,tu,tu]
  by_cases h1 : a.1.dst = some t
  ·have h2 := hab.ds t h1
   rw [if_pos h1,if_neg h2,if_pos h1]
   simp [hba.v]
  ·by_cases h2 : b.1.dst = some t
   ·rw [if_neg h1,if_pos h2,if_pos h2]
    simp [hab.v]
   ·rw [if_neg h1,if_neg h2,if_neg h2,if_neg h1]
    cases lk st.1 t with
    | none => rfl
    | some x => simp [Zd a.2.X b.2.X]
 ·rw [tq,tq,tq,tq]
  have e1 : n ∈ uX a → n ∉ keys b.2.df ∧ n ∉ b.2.X := fun hn => ⟨fun h => hab.nm n hn (MZ (DI h)),fun h => hab.nm n hn (MZ (IL h))⟩
  by_cases ha1 : n ∈ keys a.2.df
  ·obtain ⟨hb1,hb2⟩ := e1 (DI ha1)
   rw [if_pos ha1,if_neg hb1,if_neg hb2,if_pos ha1,Qg hba.df]
  ·by_cases hb1 : n ∈ keys b.2.df
   ·have hb : n ∈ uX b := DI hb1
    have ha2 : n ∉ a.2.X := fun h => hba.nm n hb (MZ (IL h))
    rw [if_neg ha1,if_neg ha2,if_pos hb1,if_pos hb1,Qg hab.df]
   ·by_cases ha2 : n ∈ a.2.X
    ·obtain ⟨_,hb2⟩ := e1 (IL ha2)
     rw [if_neg ha1,if_pos ha2,if_neg hb1,if_neg hb2,if_neg ha1,if_pos ha2]
     rfl
    ·by_cases hb2 : n ∈ b.2.X
     ·rw [if_neg ha1,if_neg ha2,if_neg hb1,if_pos hb2,if_neg hb1,if_pos hb2]
      rfl
     ·rw [if_neg ha1,if_neg ha2,if_neg hb1,if_neg hb2,if_neg hb1,if_neg hb2,if_neg ha1,if_neg ha2]
      cases lk st.2 n with
      | none => rfl
      | some x => simp [Zg a.2.X b.2.X]
theorem push {ops : Array Oper} {a : OC} : ∀ (L : List OC) (st : Slots × Mem),(∀ b ∈ L,indep ops a b = true) → nY (jM a (iW L st)) (iW L (jM a st))
 | [],_,_ => .refl _
 | b :: r,st,h => (push r (jM b st) fun c hc => h c (List.mem_cons_of_mem _ hc)).trans ((swap (h b List.mem_cons_self) st).run r)
theorem SL : ∀ (L : List OC) (p : OC) (st : Slots × Mem),iW (L ++ [p]) st = jM p (iW L st)
 | [],_,_ => rfl
 | q :: r,p,st => SL r p (jM q st)
theorem yX : ∀ (L K : List OC) (st : Slots × Mem),iW (L ++ K) st = iW K (iW L st)
 | [],_,_ => rfl
 | q :: r,K,st => yX r K (jM q st)
theorem Si {t : Nat} {av : AV} (hj : EI av = true) : ∀ (L : List OC) (st : Slots × Mem),lk (iW L st).1 t = some av →
  (∃ A p B,L = A ++ p :: B ∧ p.1.dst = some t ∧ p.2.v = av ∧ ∀ q ∈ B,q.1.dst ≠ some t ∧ oV q.2.X av = true) ∨ (lk st.1 t = some av ∧ ∀ q ∈ L,q.1.dst ≠ some t ∧ oV q.2.X av = true)
 | [],st,h => .inr ⟨h,fun q hq => by cases hq⟩
 | p :: r,st,h => by
  rcases Si hj r (jM p st) h with ⟨A,q,B,rfl,h1,h2,h3⟩ | ⟨h1,h2⟩
  ·exact .inl ⟨p :: A,q,B,rfl,h1,h2,h3⟩
  ·rw [tu] at h1
   by_cases hd : p.1.dst = some t
   ·rw [if_pos hd] at h1
    injection h1 with h1
    exact .inl ⟨[],p,r,rfl,hd,h1,h2⟩
   ·rw [if_neg hd] at h1
    cases hl : lk st.1 t with
    | none => rw [hl] at h1; cases h1
    | some x =>
     rw [hl] at h1
     injection h1 with h1
     have hnr : oV p.2.X x = true := Zf (by rw [h1]; exact hj)
     have hx : x = av := by rw [← h1,KH hnr]
     subst hx
     refine .inr ⟨rfl,fun q hq => ?_⟩
     cases hq with
     | head => exact ⟨hd,hnr⟩
     | tail _ hq => exact h2 q hq
theorem L6 {t : Nat} {av : AV} : ∀ (L : List OC) (st : Slots × Mem),lk st.1 t = some av → (∀ q ∈ L,q.1.dst ≠ some t ∧ oV q.2.X av = true) → lk (iW L st).1 t = some av
 | [],_,h,_ => h
 | p :: r,st,h,k => by
  refine L6 r (jM p st) ?_ fun q hq => k q (List.mem_cons_of_mem _ hq)
  obtain ⟨h1,h2⟩ := k p List.mem_cons_self
  rw [tu,if_neg h1,h]
  exact congrArg some (KH h2)
theorem RN {n : Nat} {ob : Ob} (hj : Ku ob = true) : ∀ (L : List OC) (st : Slots × Mem),lk (iW L st).2 n = some ob →
  (∃ A p B,L = A ++ p :: B ∧ lk p.2.df n = some ob ∧ ∀ q ∈ B,n ∉ keys q.2.df ∧ n ∉ q.2.X ∧ mG q.2.X ob = true) ∨ (lk st.2 n = some ob ∧ ∀ q ∈ L,n ∉ keys q.2.df ∧ n ∉ q.2.X ∧ mG q.2.X ob = true)
 | [],st,h => .inr ⟨h,fun q hq => by cases hq⟩
 | p :: r,st,h => by
  rcases RN hj r (jM p st) h with ⟨A,q,B,rfl,h1,h2⟩ | ⟨h1,h2⟩
  ·exact .inl ⟨p :: A,q,B,rfl,h1,h2⟩
  ·rw [tq] at h1
   by_cases hd : n ∈ keys p.2.df
   ·rw [if_pos hd] at h1
    exact .inl ⟨[],p,r,rfl,h1,h2⟩
   ·rw [if_neg hd] at h1
    by_cases hX : n ∈ p.2.X
    ·rw [if_pos hX] at h1; cases h1
    ·rw [if_neg hX] at h1
     cases hl : lk st.2 n with
     | none => rw [hl] at h1; cases h1
     | some x =>
      rw [hl] at h1
      injection h1 with h1
      have hnr : mG p.2.X x = true := Zi (by rw [h1]; exact hj)
      have hx : x = ob := by rw [← h1,KQ hnr]
      subst hx
      refine .inr ⟨rfl,fun q hq => ?_⟩
      cases hq with
      | head => exact ⟨hd,hX,hnr⟩
      | tail _ hq => exact h2 q hq
theorem Kz {n : Nat} {ob : Ob} : ∀ (L : List OC) (st : Slots × Mem),lk st.2 n = some ob → (∀ q ∈ L,n ∉ keys q.2.df ∧ n ∉ q.2.X ∧ mG q.2.X ob = true) → lk (iW L st).2 n = some ob
 | [],_,h,_ => h
 | p :: r,st,h,k => by
  refine Kz r (jM p st) ?_ fun q hq => k q (List.mem_cons_of_mem _ hq)
  obtain ⟨h1,h2,h3⟩ := k p List.mem_cons_self
  rw [tq,if_neg h1,if_neg h2,h]
  exact congrArg some (KQ h3)
def One (P : Program) (C : Ctx) (ops : Array Oper) (p : OC) (st : Slots × Mem) : Prop :=
 match p.2.want with
 | true => LT P p.1 p.2.ins p.2.us p.2.v p.2.df p.2.W p.2.X ∧ EvL st.1 p.2.ins ∧ lK st.2 p.2.us ∧ eu ops st.1 p.1 true ∧ (eX C.N p.1.dst && eP p.2.W (p.2.X ++ keys p.2.df) && eP p.2.W (keys p.2.us) && eP (keys p.2.df) (p.2.X ++ p.2.W) && kH p.2.X C.pn) = true
 | false => eu ops st.1 p.1 false ∧ eX C.N p.1.dst = true ∧ p.2.v = .dI [] ∧ p.2.df = [] ∧ p.2.X = [] ∧ p.2.ins = [] ∧ p.2.us = []
section
variable {P : Program} {C : Ctx} {ops : Array Oper}
theorem St.eqs {st st' : Slots × Mem} {R B : Nat → Prop} {g : Nat → GS} {a : Act} {w : World} (h : nY st st') (hs : St P C st.1 st.2 R B g a w) : St P C st'.1 st'.2 R B g a w :=
 hs.weak (fun t v hv => (h.1 t).trans hv) fun n o ho => (h.2 n).trans ho
theorem One.wp {p : OC} {st : Slots × Mem} (h : One P C ops p st) {R B : Nat → Prop} {g : Nat → GS} {a : Act} {w : World} (hs : St P C st.1 st.2 R B g a w) {i : Nat} (hi : ops[i]? = some p.1) {K : Act → World → Prop} {Q : Exit → Act → World → Prop}
  (hK : ∀ R' B' g' a' w',St P C (jM p st).1 (jM p st).2 R' B' g' a' w' → K a' w') : wpOp P ops Q i K a w := by
 unfold wpOp
 rw [hi]
 simp only
 unfold One at h
 split at h
 ·obtain ⟨hlt,hin,hus,hg,hside⟩ := h
  simp only [Bool.and_eq_true] at hside
  obtain ⟨⟨⟨⟨h1,h2⟩,h3⟩,h4⟩,h5⟩ := hside
  rw [if_pos (hg.wanted hs)]
  refine .inl (hlt R B g w a hs.wf (EvL.ra hs hin) (fun p hp => (lK.ro hs hus p hp).1) K _ fun u R' B' g' w' had hR hv hob => ?_)
  exact hK _ _ _ _ _ (hs.step hus (fun n hn => ⟨List.mem_append.1 (qF h2 n hn),mem_keys (qF h3 n hn)⟩) (fun p hp => List.mem_append.1 (qF h4 p.1 (List.mem_map.2 ⟨p,hp,rfl⟩))) h1 (FK h5) had hR hv hob)
 ·obtain ⟨hg,hd,h1,h2,h3,_,_⟩ := h
  rw [if_neg (by rw [hg.wanted hs]; exact Bool.false_ne_true)]
  refine hK R B g _ w ?_
  have e : jM p st = (dX st.1 p.1.dst (.dI []),st.2) := by
   unfold jM
   rw [h1,h2,h3,DF,zL]
   rfl
  rw [e]
  refine { hs with nd := (LV a _ _).trans hs.nd,sz := (LW a _ _).trans hs.sz,sl := fun t v ht => ?_ }
  change lk (dX st.1 p.1.dst (.dI [])) t = some v at ht
  rw [Qj] at ht
  cases hdst : p.1.dst with
  | none => rw [hdst] at ht; exact hs.sl t v (by simpa using ht)
  | some d =>
   rw [hdst] at ht hd
   have hlt : d < a.tmps.size := by rw [hs.sz]; exact Nat.le_of_ble_eq_true hd
   rw [I9 a d t undef hlt]
   by_cases hdt : d = t
   ·subst hdt
    rw [if_pos rfl] at ht ⊢
    injection ht with ht
    subst ht
    exact ⟨[],rfl,rfl,fun k x hk => by simp at hk⟩
   ·rw [if_neg hdt]
    rw [if_neg (by simpa using hdt)] at ht
    exact hs.sl t v ht
theorem One.of {p : OC} {st st' : Slots × Mem} (h : One P C ops p st) (h1 : ∀ t ∈ wC ops p,∀ v,lk st.1 t = some v → lk st'.1 t = some v) (h2 : ∀ q ∈ p.2.us,lk st.2 q.1 = some q.2 → lk st'.2 q.1 = some q.2) : One P C ops p st' := by
 have hg : ∀ b,eu ops st.1 p.1 b → eu ops st'.1 p.1 b := fun b hb => by
  unfold eu at hb ⊢
  split at hb
  ·exact hb
  ·rename_i j want hgd
   obtain ⟨d,k1,⟨c,k2,k3⟩ | ⟨k2,k3⟩⟩ := hb
   ·exact ⟨d,k1,.inl ⟨c,h1 d (by simp [wC,hgd,k1]) _ k2,k3⟩⟩
   ·exact ⟨d,k1,.inr ⟨h1 d (by simp [wC,hgd,k1]) _ k2,k3⟩⟩
 unfold One at h ⊢
 split at h
 ·rename_i hw
  obtain ⟨k1,k2,k3,k4,k5⟩ := h
  refine ⟨k1,?_,?_,hg _ k4,k5⟩
  ·have : ∀ ins : List (Operand × AV),(∀ q ∈ ins,q ∈ p.2.ins) → EvL st.1 ins → EvL st'.1 ins := by
    intro ins
    induction ins with
    | nil => intro _ _; trivial
    | cons q r ih =>
     intro hm he
     obtain ⟨x,v⟩ := q
     refine ⟨?_,ih (fun q hq => hm q (List.mem_cons_of_mem _ hq)) he.2⟩
     have hx := he.1
     cases x with
     | tmp t => exact h1 t (List.mem_append_left _ (List.mem_filterMap.2 ⟨_,hm _ List.mem_cons_self,rfl⟩)) v hx
     | _ => exact hx
   exact this _ (fun _ h => h) k2
  ·have : ∀ us : Mem,(∀ q ∈ us,q ∈ p.2.us) → lK st.2 us → lK st'.2 us := by
    intro us
    induction us with
    | nil => intro _ _; trivial
    | cons q r ih =>
     intro hm he
     obtain ⟨n,o⟩ := q
     exact ⟨h2 _ (hm _ List.mem_cons_self) he.1,ih (fun q hq => hm q (List.mem_cons_of_mem _ hq)) he.2⟩
   exact this _ (fun _ h => h) k3
 ·exact ⟨hg _ h.1,h.2⟩
def A7 (l : List Oper) (pr : List Nat) : Nat → List Oper → Bool
 | _,[] => true
 | k,o :: r => (o.after.toList.all fun e => !Region.binds .any e || Nat.blt e.on k) && Nat.beq (Nat.lor (pr.getD k 0) (o.after.toList.foldl (fun s e => bif Region.binds .any e then Nat.lor (Nat.lor s (2 ^ e.on)) (pr.getD e.on 0) else s) 0)) (o.after.toList.foldl (fun s e => bif Region.binds .any e then Nat.lor (Nat.lor s (2 ^ e.on)) (pr.getD e.on 0) else s) 0) && A7 l pr (k + 1) r
def Aw (ops : Array Oper) (nS : Nat) (b : OC) : Nat → List OC → Bool
 | _,[] => true
 | j,a :: r => (nS.testBit j || indep ops a b) && Aw ops nS b (j + 1) r
def BP (nS : Nat) : Nat → Bool
 | 0 => true
 | n + 1 => nS.testBit n && BP nS n
def EJ (p : OC) : Bool := p.2.ins.all (fun q => EI q.2) && p.2.us.all fun q => Ku q.2
def wS (ops : Array Oper) (L : List OC) (pr : List Nat) : Nat → List OC → Bool
 | _,[] => true
 | k,b :: r => Aw ops (pr.getD k 0) b 0 (L.take k) && (EJ b || (BP (pr.getD k 0) k && (r.zipIdx (k + 1)).all fun q => (pr.getD q.2 0).testBit k)) && wS ops L pr (k + 1) r
def Ba (l : List Oper) (cs : List Ct) : Bool :=
 let pr := (Region.before l.toArray).toList
 Nat.beq cs.length l.length && A7 l pr 0 l && wS l.toArray (l.zip cs) pr 0 (l.zip cs)
theorem O4 {pr : List Nat} {j : Nat} : ∀ (es : List Edge) (s : Nat),(es.foldl (fun s e => bif Region.binds .any e then Nat.lor (Nat.lor s (2 ^ e.on)) (pr.getD e.on 0) else s) s).testBit j = true →
  s.testBit j = true ∨ ∃ e ∈ es,Region.binds .any e = true ∧ (e.on = j ∨ (pr.getD e.on 0).testBit j = true)
 | [],s,h => .inl h
 | e :: r,s,h => by
  rw [List.foldl_cons] at h
  rcases O4 r _ h with h | ⟨e',h1,h2⟩
  ·cases hb : Region.binds .any e with
   | false => rw [hb] at h; exact .inl h
   | true =>
    rw [hb,cond_true] at h
    change ((s ||| 2 ^ e.on) ||| pr.getD e.on 0).testBit j = true at h
    rw [Nat.testBit_or,Nat.testBit_or,Nat.testBit_two_pow] at h
    simp only [Bool.or_eq_true,decide_eq_true_eq] at h
    rcases h with (h | h) | h
    ·exact .inl h
    ·exact .inr ⟨e,List.mem_cons_self,hb,.inl h⟩
    ·exact .inr ⟨e,List.mem_cons_self,hb,.inr h⟩
  ·exact .inr ⟨e',List.mem_cons_of_mem _ h1,h2⟩
theorem Gm {l : List Oper} {pr : List Nat} : ∀ (r : List Oper) (k : Nat),A7 l pr k r = true → ∀ (i : Nat) o,r[i]? = some o → (∀ e ∈ o.after,Region.binds .any e = true → e.on < k + i) ∧
  ∀ j,(pr.getD (k + i) 0).testBit j = true → ∃ e ∈ o.after,Region.binds .any e = true ∧ (e.on = j ∨ (pr.getD e.on 0).testBit j = true)
 | [],_,_,i,_,h => by simp at h
 | q :: r,k,h,i,o,hi => by
  unfold A7 at h
  simp only [Bool.and_eq_true] at h
  obtain ⟨⟨h1,h2⟩,h3⟩ := h
  cases i with
  | zero =>
   simp at hi
   subst hi
   refine ⟨fun e he hb => (by have := List.all_eq_true.1 h1 e (by simpa using he); rw [hb] at this; exact Nat.le_of_ble_eq_true this),fun j hj => ?_⟩
   have e2 := Nat.eq_of_beq_eq_true h2
   have hb : (Nat.lor (pr.getD k 0) (q.after.toList.foldl (fun s e => bif Region.binds .any e then Nat.lor (Nat.lor s (2 ^ e.on)) (pr.getD e.on 0) else s) 0)).testBit j = true := by
    show ((pr.getD k 0) ||| _).testBit j = true
    rw [Nat.testBit_or]
    rw [Nat.add_zero] at hj
    rw [hj,Bool.true_or]
   rw [e2] at hb
   rcases O4 _ _ hb with h | ⟨e,he,h⟩
   ·simp at h
   ·exact ⟨e,by simpa using he,h⟩
  | succ i =>
   have := Gm r (k + 1) h3 i o (by simpa using hi)
   rwa [show k + 1 + i = k + (i + 1) by omega] at this
theorem RX {ops : Array Oper} {nS : Nat} {b : OC} : ∀ (r : List OC) (j : Nat),Aw ops nS b j r = true → ∀ (i : Nat) a,r[i]? = some a → nS.testBit (j + i) = true ∨ indep ops a b = true
 | [],_,_,i,_,h => by simp at h
 | q :: r,j,h,i,a,hi => by
  unfold Aw at h
  simp only [Bool.and_eq_true,Bool.or_eq_true] at h
  cases i with
  | zero => simp at hi; subst hi; exact h.1
  | succ i =>
   have := RX r (j + 1) h.2 i a (by simpa using hi)
   rwa [show j + 1 + i = j + (i + 1) by omega] at this
theorem NT {nS : Nat} : ∀ n,BP nS n = true → ∀ i < n,nS.testBit i = true
 | 0,_,i,h => by omega
 | n + 1,h,i,hi => by
  unfold BP at h
  simp only [Bool.and_eq_true] at h
  by_cases hin : i = n
  ·subst hin; exact h.1
  ·exact NT n h.2 i (by omega)
theorem Iu {ops : Array Oper} {L : List OC} {pr : List Nat} : ∀ (r : List OC) (k : Nat),wS ops L pr k r = true → ∀ (i : Nat) b,r[i]? = some b →
  (∀ (j : Nat) a,j < k + i → L[j]? = some a → (pr.getD (k + i) 0).testBit j = true ∨ indep ops a b = true) ∧
  (EJ b = true ∨ ((∀ j < k + i,(pr.getD (k + i) 0).testBit j = true) ∧ ∀ q,i < q → q < r.length → (pr.getD (k + q) 0).testBit (k + i) = true))
 | [],_,_,i,_,h => by simp at h
 | c :: r,k,h,i,b,hi => by
  unfold wS at h
  simp only [Bool.and_eq_true,Bool.or_eq_true] at h
  obtain ⟨⟨h1,h2⟩,h3⟩ := h
  cases i with
  | zero =>
   simp at hi
   subst hi
   refine ⟨fun j a hj ha => ?_,h2.imp id fun h2 => ⟨fun j hj => NT k h2.1 j hj,fun q hq tC => ?_⟩⟩
   ·have := RX (L.take k) 0 h1 j a (by rw [List.getElem?_take,if_pos (by omega)]; exact ha)
    rwa [Nat.zero_add] at this
   ·have hlt : q - 1 < r.length := by simp at tC; omega
    have hm : (r[q - 1],k + q) ∈ r.zipIdx (k + 1) := by
     refine List.mem_of_getElem? (i := q - 1) ?_
     rw [List.getElem?_zipIdx,List.getElem?_eq_getElem hlt]
     simp
     omega
    have := List.all_eq_true.1 h2.2 _ hm
    simpa using this
  | succ i =>
   have := Iu r (k + 1) h3 i b (by simpa using hi)
   rw [show k + 1 + i = k + (i + 1) by omega] at this
   refine ⟨this.1,this.2.imp id fun h => ⟨h.1,fun q hq tC => ?_⟩⟩
   have := h.2 (q - 1) (by omega) (by simp at tC; omega)
   rwa [show k + 1 + (q - 1) = k + q by omega] at this
def sel (f : Nat → Bool) : Nat → List OC → List OC
 | _,[] => []
 | k,p :: r => bif f k then p :: sel f (k + 1) r else sel f (k + 1) r
theorem G8 (f : Nat → Bool) : ∀ (A B : List OC) (k : Nat),sel f k (A ++ B) = sel f k A ++ sel f (k + A.length) B
 | [],B,k => by simp [sel]
 | p :: A,B,k => by
  have ih := G8 f A B (k + 1)
  rw [show k + 1 + A.length = k + (A.length + 1) by omega] at ih
  simp only [List.cons_append,sel,List.length_cons]
  cases f k
  ·rw [cond_false,cond_false,ih]
  ·rw [cond_true,cond_true,ih]; rfl
theorem G9 {f : Nat → Bool} : ∀ {A : List OC} {k : Nat} {p : OC},p ∈ sel f k A → ∃ i,A[i]? = some p ∧ f (k + i) = true
 | [],_,_,h => by cases h
 | q :: A,k,p,h => by
  unfold sel at h
  cases hf : f k with
  | false =>
   rw [hf,cond_false] at h
   obtain ⟨i,h1,h2⟩ := G9 h
   exact ⟨i + 1,by simpa using h1,by rwa [show k + (i + 1) = k + 1 + i by omega]⟩
  | true =>
   rw [hf,cond_true] at h
   cases h with
   | head => exact ⟨0,rfl,hf⟩
   | tail _ h =>
    obtain ⟨i,h1,h2⟩ := G9 h
    exact ⟨i + 1,by simpa using h1,by rwa [show k + (i + 1) = k + 1 + i by omega]⟩
theorem HY {f : Nat → Bool} {A : List OC} {k : Nat} : ∀ p ∈ sel f k A,p ∈ A := fun p h => by
 obtain ⟨i,h1,_⟩ := G9 h
 exact List.mem_of_getElem? h1
theorem Ls {f f' : Nat → Bool} : ∀ {A : List OC} {k : Nat},(∀ i < A.length,f (k + i) = f' (k + i)) → sel f k A = sel f' k A
 | [],_,_ => rfl
 | p :: A,k,h => by
  have h0 := h 0 (by simp)
  have ih := Ls (f := f) (f' := f') (A := A) (k := k + 1) fun i hi => by
   have := h (i + 1) (by simpa using hi)
   rwa [show k + (i + 1) = k + 1 + i by omega] at this
  unfold sel
  rw [Nat.add_zero] at h0
  rw [h0,ih]
theorem Lr {f : Nat → Bool} : ∀ {A : List OC} {k : Nat},(∀ i < A.length,f (k + i) = true) → sel f k A = A
 | [],_,_ => rfl
 | p :: A,k,h => by
  have h0 := h 0 (by simp)
  rw [Nat.add_zero] at h0
  unfold sel
  rw [h0,cond_true,Lr fun i hi => by
   have := h (i + 1) (by simpa using hi)
   rwa [show k + (i + 1) = k + 1 + i by omega] at this]
theorem Lu {f : Nat → Bool} : ∀ {A : List OC} {k : Nat},(∀ i < A.length,f (k + i) = false) → sel f k A = []
 | [],_,_ => rfl
 | p :: A,k,h => by
  have h0 := h 0 (by simp)
  rw [Nat.add_zero] at h0
  unfold sel
  rw [h0,cond_false,Lu fun i hi => by
   have := h (i + 1) (by simpa using hi)
   rwa [show k + (i + 1) = k + 1 + i by omega] at this]
theorem One.found {P : Program} {C : Ctx} {ops : Array Oper} {p : OC} {A A' B : List OC} {st : Slots × Mem} (h : One P C ops p (iW A st)) (zH : EJ p = true) (f : Nat → Bool) (hA : A' = sel f 0 A)
  (hsk : ∀ (i : Nat) a,A[i]? = some a → f i = false → indep ops a p = true) (hB : ∀ b ∈ B,indep ops p b = true) : One P C ops p (iW B (iW A' st)) := by
 subst hA
 rw [← yX]
 unfold EJ at zH
 simp only [Bool.and_eq_true] at zH
 have Bj : ∀ b ∈ B,Half ops b p := fun b hb => by
  have := hB b hb
  unfold indep at this
  simp only [Bool.and_eq_true] at this
  exact FY this.2
 have PX : ∀ (i : Nat) a,A[i]? = some a → f i = false → Half ops a p := fun i a hi hf => by
  have := hsk i a hi hf
  unfold indep at this
  simp only [Bool.and_eq_true] at this
  exact FY this.1
 -- reading a slot
 have slot : ∀ t ∈ wC ops p,∀ v,EI v = true → (∀ b ∈ B,oV b.2.X v = true) → lk (iW A st).1 t = some v → lk (iW (sel f 0 A ++ B) st).1 t = some v := fun t ht v hv hvB hl => by
  have hBt : ∀ b ∈ B,b.1.dst ≠ some t ∧ oV b.2.X v = true := fun b hb => ⟨fun hd => (Bj b hb).rd t hd ht,hvB b hb⟩
  rcases Si hv A st hl with ⟨A1,q,B1,rfl,h1,h2,h3⟩ | ⟨h1,h2⟩
  ·have hf : f A1.length = true := by
    cases hf : f A1.length with
    | true => rfl
    | false => exact absurd ht ((PX A1.length q (by simp) hf).rd t h1)
   rw [G8]
   simp only [sel,Nat.zero_add,hf,cond_true]
   rw [List.append_assoc,yX,List.cons_append]
   refine L6 _ (jM q _) (by rw [tu,if_pos h1,h2]) fun b hb => ?_
   rcases List.mem_append.1 hb with hb | hb
   ·exact h3 b (HY b hb)
   ·exact hBt b hb
  ·refine L6 _ st h1 fun b hb => ?_
   rcases List.mem_append.1 hb with hb | hb
   ·exact h2 b (HY b hb)
   ·exact hBt b hb
 refine h.of (fun t ht v hl => ?_) fun q hq hl => ?_
 ·-- v is an input,or a guard's bool
  unfold One at h
  unfold wC at ht
  have hgd : ∀ b,eu ops (iW A st).1 p.1 b → t ∈ (match p.1.guard with | some (j,_) => ((ops[j]?).bind (·.dst)).toList | none => []) → EI v = true ∧ ∀ X,oV X v = true := fun b hb ht => by
   unfold eu at hb
   split at hb
   ·rename_i hg; rw [hg] at ht; cases ht
   ·rename_i j want hg
    rw [hg] at ht
    obtain ⟨d,k1,⟨c,k2,_⟩ | ⟨k2,_⟩⟩ := hb
    ·simp only [k1,Option.toList_some,List.mem_singleton] at ht
     subst ht
     rw [k2] at hl
     injection hl with hl
     subst hl
     exact ⟨rfl,fun _ => rfl⟩
    ·simp only [k1,Option.toList_some,List.mem_singleton] at ht
     subst ht
     rw [k2] at hl
     injection hl with hl
     subst hl
     exact ⟨rfl,fun _ => rfl⟩
  rcases List.mem_append.1 ht with hti | PY
  ·split at h
   ·obtain ⟨x,hx,hxt⟩ := List.mem_filterMap.1 hti
    obtain ⟨xo,xv⟩ := x
    cases xo with
    | tmp t' =>
     injection hxt with hxt
     subst hxt
     have hev : ∀ ins : List (Operand × AV),EvL (iW A st).1 ins → (Operand.tmp t',xv) ∈ ins → lk (iW A st).1 t' = some xv := by
      intro ins
      induction ins with
      | nil => intro _ hm; cases hm
      | cons y r ih =>
       intro he hm
       obtain ⟨yo,yv⟩ := y
       cases hm with
       | head => exact he.1
       | tail _ hm => exact ih he.2 hm
     have := hev _ h.2.1 hx
     rw [this] at hl
     injection hl with hl
     subst hl
     exact slot t' (List.mem_append_left _ hti) xv (List.all_eq_true.1 zH.1 _ hx) (fun b hb => (Bj b hb).ins _ hx) this
    | _ => cases hxt
   ·obtain ⟨_,_,_,_,_,h6,_⟩ := h
    rw [h6] at hti
    cases hti
  ·have hg : ∃ b,eu ops (iW A st).1 p.1 b := by
    split at h
    ·exact ⟨true,h.2.2.2.1⟩
    ·exact ⟨false,h.1⟩
   obtain ⟨b,hb⟩ := hg
   obtain ⟨h1,h2⟩ := hgd b hb PY
   exact slot t (List.mem_append_right _ PY) v h1 (fun b _ => h2 _) hl
 ·have hqj := List.all_eq_true.1 zH.2 q hq
  have CX : q.1 ∈ EK p := List.mem_append_left _ (List.mem_map.2 ⟨q,hq,rfl⟩)
  have O8 : ∀ b ∈ B,q.1 ∉ keys b.2.df ∧ q.1 ∉ b.2.X ∧ mG b.2.X q.2 = true := fun b hb =>
   ⟨fun hd => (Bj b hb).nm _ (DI hd) CX,fun hx => (Bj b hb).nm _ (IL hx) CX,(Bj b hb).us _ hq⟩
  rcases RN hqj A st hl with ⟨A1,r,B1,rfl,h1,h2⟩ | ⟨h1,h2⟩
  ·have hf : f A1.length = true := by
    cases hf : f A1.length with
    | true => rfl
    | false => exact absurd CX ((PX A1.length r (by simp) hf).nm _ (DI (Qh h1)))
   rw [G8]
   simp only [sel,Nat.zero_add,hf,cond_true]
   rw [List.append_assoc,yX,List.cons_append]
   refine Kz _ (jM r _) (by rw [tq,if_pos (Qh h1),h1]) fun b hb => ?_
   rcases List.mem_append.1 hb with hb | hb
   ·exact h2 b (HY b hb)
   ·exact O8 b hb
  ·refine Kz _ st h1 fun b hb => ?_
   rcases List.mem_append.1 hb with hb | hb
   ·exact h2 b (HY b hb)
   ·exact O8 b hb
end
end Go.Fw
end
section
set_option linter.unusedVariables false
set_option linter.unusedSimpArgs false
set_option linter.unnecessarySimpa false
namespace Go.Fw
def Chain (P : Program) (C : Ctx) (ops : Array Oper) : List OC → Slots × Mem → Prop
 | [],_ => True
 | p :: r,st => One P C ops p st ∧ Chain P C ops r (jM p st)
section
variable {P : Program} {C : Ctx} {ops : Array Oper}
theorem Chain.at : ∀ {L : List OC} {st : Slots × Mem},Chain P C ops L st → ∀ (i : Nat) p,L[i]? = some p → One P C ops p (iW (L.take i) st)
 | [],_,_,i,_,h => by simp at h
 | q :: r,st,hc,0,p,h => by
  simp at h
  subst h
  exact hc.1
 | q :: r,st,hc,i + 1,p,h => by
  have := Chain.at hc.2 i p (by simpa using h)
  simpa [iW] using this
theorem mem_ready {listed : Array Bool} {i : Nat} (h : i ∈ Region.ready .any ops listed) : i < ops.size ∧ listed.getD i true = false ∧ ∃ o,ops[i]? = some o ∧ ∀ e ∈ o.after,Region.binds .any e = true → listed.getD e.on false = true := by
 unfold Region.ready at h
 obtain ⟨h1,h2⟩ := List.mem_filter.1 h
 simp only [Bool.and_eq_true,Bool.not_eq_true'] at h2
 obtain ⟨h2,h3⟩ := h2
 refine ⟨List.mem_range.1 h1,h2,?_⟩
 cases ho : ops[i]? with
 | none => rw [ho] at h3; simp at h3
 | some o =>
  rw [ho] at h3
  refine ⟨o,rfl,fun e he hb => ?_⟩
  have h4 : o.after.all (fun e => !Region.binds .any e || listed.getD e.on false) = true := by simpa using h3
  have h5 := (Array.all_eq_true_iff_forall_mem.1 h4) e he
  rw [hb] at h5
  simpa using h5
theorem aAP {listed : Array Bool} {i : Nat} {o : Oper} (hi : ops[i]? = some o) (hl : listed.getD i true = false) (h : ∀ e ∈ o.after,Region.binds .any e = true → listed.getD e.on false = true) : i ∈ Region.ready .any ops listed := by
 unfold Region.ready
 refine List.mem_filter.2 ⟨List.mem_range.2 (Array.getElem?_eq_some_iff.1 hi).1,?_⟩
 rw [hl,hi]
 simp only [Bool.not_false,Option.map_some,Option.getD_some,Bool.true_and]
 refine Array.all_eq_true_iff_forall_mem.2 fun e he => ?_
 cases hb : Region.binds .any e with
 | true => rw [h e he hb]; simp
 | false => simp
theorem St.drew {σ : Slots} {m : Mem} {R B : Nat → Prop} {g : Nat → GS} {a : Act} {w : World} (h : St P C σ m R B g a w) : St P C σ m R B g a w.drew := by
 have had : fG R B g w [] [] R B g w.drew := ⟨⟨h.wf.rb,h.wf.lt,h.wf.jW,h.wf.kX,h.wf.nd⟩,fun _ h => h,fun _ h => h,rfl,rfl,rfl,Nat.le_refl _,fun _ _ _ => rfl,fun _ _ => rfl,fun n hn => (by cases hn),fun n hn => (by cases hn)⟩
 have := h.step (us := []) (df := []) (d := none) (v := .dI []) (u := undef) trivial (fun n hn => by cases hn) (fun p hp => by cases hp) rfl (fun n hn => by cases hn) had (fun b hb => .inl hb) (fun h => by cases h) (fun p hp => by cases hp)
 rw [DF,zL] at this
 exact this
variable {l : List Oper} {L : List OC} {pr : List Nat} {st0 : Slots × Mem}
theorem SX {f : Nat → Bool} {i : Nat} {p : OC} (hi : L[i]? = some p) : sel f 0 L = sel f 0 (L.take i) ++ (bif f i then [p] else []) ++ sel f (i + 1) (L.drop (i + 1)) := by
 have hlt : i < L.length := (List.getElem?_eq_some_iff.1 hi).1
 have e : L = L.take i ++ (p :: L.drop (i + 1)) := by
  have h1 : L.drop i = p :: L.drop (i + 1) := by
   rw [List.drop_eq_getElem_cons hlt]
   congr 1
   rw [List.getElem?_eq_getElem hlt] at hi
   injection hi
  rw [← h1,List.take_append_drop]
 have hl : (L.take i).length = i := by simp; omega
 conv => lhs; rw [e]
 rw [G8,hl,Nat.zero_add]
 have e2 : sel f i (p :: L.drop (i + 1)) = bif f i then p :: sel f (i + 1) (L.drop (i + 1)) else sel f (i + 1) (L.drop (i + 1)) := rfl
 rw [e2]
 cases f i
 ·simp only [cond_false,List.append_nil]
 ·simp only [cond_true,List.append_assoc,List.singleton_append]
theorem V3 {Q : Exit → Act → World → Prop} (hL : L.map (·.1) = l) (hpr : A7 l pr 0 l = true) (hdr : wS l.toArray L pr 0 L = true) (JV : Chain P C l.toArray L st0)
  (hfin : ∀ R B g a w,St P C (iW L st0).1 (iW L st0).2 R B g a w → Q .normal a w) : ∀ (fuel : Nat) (listed : Array Bool) (R B : Nat → Prop) (g : Nat → GS) (a : Act) (w : World),listed.size = l.length → listed.toList.count false ≤ fuel →
  (∀ i j,i < l.length → listed.getD i true = true → (pr.getD i 0).testBit j = true → listed.getD j false = true) →
  St P C (iW (sel (fun k => listed.getD k true) 0 L) st0).1 (iW (sel (fun k => listed.getD k true) 0 L) st0).2 R B g a w → wpAny P .any l.toArray Q fuel listed a w := by
 have WT : L.length = l.length := by rw [← hL,List.length_map]
 have hget : ∀ (i : Nat) p,L[i]? = some p → l[i]? = some p.1 := fun i p h => by rw [← hL,List.getElem?_map,h]; rfl
 have sZ : ∀ (A : Array Bool) (i : Nat) (d : Bool),i < A.size → A.getD i d = A.getD i true := fun A i d hi => by
  simp only [Array.getD_eq_getD_getElem?,Array.getElem?_eq_getElem hi,Option.getD_some]
 -- nothing is ready: all are listed
 have hdone : ∀ (listed : Array Bool),listed.size = l.length → Region.ready .any l.toArray listed = [] → ∀ i,i < l.length → listed.getD i true = true := fun listed hsz hr i => by
  induction i using Nat.strongRecOn with
  | ind i ih =>
   intro hi
   cases hx : listed.getD i true with
   | true => rfl
   | false =>
    have ho : l[i]? = some l[i] := List.getElem?_eq_getElem hi
    have hm := aAP (ops := l.toArray) (i := i) (o := l[i]) (by simp) hx fun e he hb => by
     have hlt := ((Gm l 0 hpr i l[i] ho).1 e he hb)
     rw [Nat.zero_add] at hlt
     rw [sZ _ _ _ (by omega)]
     exact ih e.on hlt (by omega)
    rw [hr] at hm
    cases hm
 have hend : ∀ (listed : Array Bool),listed.size = l.length → Region.ready .any l.toArray listed = [] → sel (fun k => listed.getD k true) 0 L = L := fun listed hsz hr => Lr fun i hi => by
  rw [Nat.zero_add]
  exact hdone listed hsz hr i (by omega)
 intro fuel
 induction fuel with
 | zero =>
  intro listed R B g a w hsz hcnt hcl hs
  have hr : Region.ready .any l.toArray listed = [] := by
   cases hr : Region.ready .any l.toArray listed with
   | nil => rfl
   | cons i r =>
    have := mem_ready (ops := l.toArray) (listed := listed) (i := i) (by rw [hr]; exact List.mem_cons_self)
    obtain ⟨h1,h2,_⟩ := this
    have hi : i < listed.size := by rw [hsz]; simpa using h1
    have : false ∈ listed.toList := by
     refine List.mem_of_getElem? (i := i) ?_
     rw [Array.getD_eq_getD_getElem?,Array.getElem?_eq_getElem hi] at h2
     simpa [Array.getElem?_eq_getElem hi] using h2
    have := List.count_pos_iff.2 this
    omega
  rw [hend listed hsz hr] at hs
  exact ⟨hr,hfin _ _ _ _ _ hs⟩
 | succ fuel ih =>
  intro listed R B g a w hsz hcnt hcl hs
  refine ⟨fun hr => ?_,fun i hi => ?_⟩
  ·rw [hend listed hsz hr] at hs
   exact hfin _ _ _ _ _ hs
  obtain ⟨h1,h2,o,ho,h3⟩ := mem_ready hi
  have h1' : i < l.length := by simpa using h1
  have hiL : i < L.length := by omega
  have hp : L[i]? = some L[i] := List.getElem?_eq_getElem hiL
  generalize hpe : L[i] = p at hp
  have hop : l[i]? = some p.1 := hget i p hp
  have Xf : o = p.1 := by
   have : l.toArray[i]? = some p.1 := by simpa using hop
   rw [ho] at this
   injection this
  subst Xf
  obtain ⟨hp1,hp2⟩ := Gm l 0 hpr i p.1 hop
  rw [Nat.zero_add] at hp1 hp2
  -- its predecessors are listed
  have hpred : ∀ j,(pr.getD i 0).testBit j = true → listed.getD j false = true := fun j hj => by
   obtain ⟨e,he,hb,JW⟩ := hp2 j hj
   have hel := h3 e he hb
   have hlt := hp1 e he hb
   rcases JW with h | h
   ·rw [← h]; exact hel
   ·exact hcl e.on j (by omega) (by rw [sZ _ _ false (by omega)] at hel; exact hel) h
  have Xg : ∀ (k : Nat),k < l.length → ∀ j,(pr.getD k 0).testBit j = true → j < k := by
   intro k
   induction k using Nat.strongRecOn with
   | ind k ihk =>
    intro hk j hj
    obtain ⟨q1,q2⟩ := Gm l 0 hpr k l[k] (List.getElem?_eq_getElem hk)
    rw [Nat.zero_add] at q1 q2
    obtain ⟨e,he,hb',JW⟩ := q2 j hj
    have hlt := q1 e he hb'
    rcases JW with h | h
    ·omega
    ·have := ihk e.on hlt (by omega) j h
     omega
  obtain ⟨hd1,hd2⟩ := Iu L 0 hdr i p hp
  simp only [Nat.zero_add] at hd1 hd2
  -- those behind it that are listed do not stand in its way
  have O7 : ∀ b ∈ sel (fun k => listed.getD k true) (i + 1) (L.drop (i + 1)),indep l.toArray p b = true := fun b hb => by
   obtain ⟨j,hj1,hj2⟩ := G9 hb
   rw [List.getElem?_drop] at hj1
   have hjl : i + 1 + j < l.length := by rw [← WT]; exact (List.getElem?_eq_some_iff.1 hj1).1
   obtain ⟨q1,_⟩ := Iu L 0 hdr (i + 1 + j) b hj1
   simp only [Nat.zero_add] at q1
   rcases q1 i p (by omega) hp with h | h
   ·have := hcl (i + 1 + j) i hjl hj2 h
    rw [sZ _ _ false (by omega),h2] at this
    cases this
   ·exact h
  have WR : ∀ (j : Nat) q,(L.take i)[j]? = some q → listed.getD j true = false → indep l.toArray q p = true := fun j q hj hf => by
   rw [List.getElem?_take] at hj
   split at hj
   ·rename_i hji
    rcases hd1 j q hji hj with h | h
    ·have := hpred j h
     rw [sZ _ _ false (by omega),hf] at this
     cases this
    ·exact h
   ·cases hj
  have hcut := SX (f := fun k => listed.getD k true) hp
  rw [h2,cond_false,List.append_nil] at hcut
  have PK := JV.at i p hp
  have hone : One P C l.toArray p (iW (sel (fun k => listed.getD k true) 0 L) st0) := by
   rcases hd2 with zH | ⟨hall,hnone⟩
   ·rw [hcut,yX]
    exact One.found PK zH (fun k => listed.getD k true) rfl WR O7
   ·have e1 : sel (fun k => listed.getD k true) 0 (L.take i) = L.take i := Lr fun j hj => by
     rw [Nat.zero_add]
     have hji : j < i := by simp at hj; omega
     have := hpred j (hall j hji)
     rwa [sZ _ _ false (by omega)] at this
    have e2 : sel (fun k => listed.getD k true) (i + 1) (L.drop (i + 1)) = [] := Lu fun j hj => by
     have hjl : i + 1 + j < L.length := by simp at hj; omega
     cases hx : listed.getD (i + 1 + j) true with
     | false => rfl
     | true =>
      have := hcl (i + 1 + j) i (by omega) hx (hnone (i + 1 + j) (by omega) hjl)
      rw [sZ _ _ false (by omega),h2] at this
      cases this
    rw [hcut,e1,e2,List.append_nil]
    exact PK
  refine hone.wp hs ho fun R' B' g' a' w' hs' => ?_
  have hnew : ∀ k,k < l.length → (listed.setIfInBounds i true).getD k true = if k = i then true else listed.getD k true := fun k hk => by
   simp only [Array.getD_eq_getD_getElem?,Array.getElem?_setIfInBounds]
   by_cases hki : i = k
   ·rw [if_pos hki,if_pos hki.symm,if_pos (by omega)]; rfl
   ·rw [if_neg hki,if_neg (Ne.symm hki)]
  refine ih (listed.setIfInBounds i true) R' B' g' a' w' (by simpa using hsz) ?_ ?_ ?_
  ·have hi' : i < listed.toList.length := by simpa [hsz] using h1'
   have hcs := List.count_set (b := false) (a := true) (l := listed.toList) hi'
   have hv : listed.toList[i] = false := by
    rw [Array.getD_eq_getD_getElem?,Array.getElem?_eq_getElem (by omega)] at h2
    simpa using h2
   rw [Array.toList_setIfInBounds,hcs,hv]
   have e1 : (if (true == false) = true then 1 else 0) = 0 := rfl
   have e2 : (if (false == false) = true then 1 else 0) = 1 := rfl
   rw [e1,e2]
   omega
  ·intro k j hk hx hb
   have hjk := Xg k hk j hb
   rw [sZ _ _ false (by simp; omega),hnew j (by omega)]
   rw [hnew k hk] at hx
   by_cases hki : k = i
   ·subst hki
    have := hpred j hb
    rw [sZ _ _ false (by omega)] at this
    rw [this]; simp
   ·rw [if_neg hki] at hx
    have := hcl k j hk hx hb
    rw [sZ _ _ false (by omega)] at this
    rw [this]; simp
  ·have hcut' := SX (f := fun k => (listed.setIfInBounds i true).getD k true) hp
   have hfi : (listed.setIfInBounds i true).getD i true = true := by rw [hnew i h1',if_pos rfl]
   rw [hfi,cond_true] at hcut'
   have e1 : sel (fun k => (listed.setIfInBounds i true).getD k true) 0 (L.take i) = sel (fun k => listed.getD k true) 0 (L.take i) := Ls fun j hj => by
    have : j < i := by simp at hj; omega
    rw [Nat.zero_add,hnew j (by omega),if_neg (by omega)]
   have e2 : sel (fun k => (listed.setIfInBounds i true).getD k true) (i + 1) (L.drop (i + 1)) = sel (fun k => listed.getD k true) (i + 1) (L.drop (i + 1)) := Ls fun j hj => by
    have : i + 1 + j < L.length := by simp at hj; omega
    rw [hnew _ (by omega),if_neg (by omega)]
   rw [hcut',e1,e2,yX,SL]
   rw [hcut,yX] at hs'
   exact hs'.eqs (push _ _ O7)
end
theorem Vu (l : List Oper) (cs : List Ct) (h : cs.length = l.length) : (l.zip cs).map (·.1) = l := by
 induction l generalizing cs with
 | nil => rfl
 | cons x r ih =>
  cases cs with
  | nil => cases h
  | cons c cs => simp only [List.zip_cons_cons,List.map_cons,ih cs (by simpa using h)]
theorem V4 {P : Program} {C : Ctx} {l : List Oper} {cs : List Ct} {st0 : Slots × Mem} {id : Nat} {is : List It} {Q : Post} (hm : P.follows .mixedOrders = true) (hd : Ba l cs = true) (JV : Chain P C l.toArray (l.zip cs) st0)
  (h : gG P C is (iW (l.zip cs) st0).1 (iW (l.zip cs) st0).2 Q) : gG P C (.code (.region id l.toArray true) :: is) st0.1 st0.2 Q := fun R B g a w hs => by
 unfold Ba at hd
 simp only [Bool.and_eq_true] at hd
 obtain ⟨⟨h1,h2⟩,h3⟩ := hd
 have hz := Vu l cs (Nat.eq_of_beq_eq_true h1)
 refine wp_region_any hm ?_
 refine V3 (L := l.zip cs) hz h2 h3 JV (fun R B g a w hs => h R B g a w hs) _ _ R B g a w.drew (by simp) ?_ (fun i j hi hx _ => ?_) ?_
 ·simp
 ·rw [Array.getD_eq_getD_getElem?,Array.getElem?_replicate,if_pos (by simpa using hi)] at hx
  cases hx
 ·have e : sel (fun k => (Array.replicate l.toArray.size false).getD k true) 0 (l.zip cs) = [] := Lu fun i hi => by
   have : i < l.length := by simp at hi; omega
   rw [Nat.zero_add,Array.getD_eq_getD_getElem?,Array.getElem?_replicate,if_pos (by simpa using this)]
   rfl
  rw [e]
  exact hs.drew
def aT {τ : Type} (P : Program) (C : Ctx) (l : List Oper) (done : List Ct) (rest : List Oper) (is : List It) (σ : Slots) (m : Mem) (M : Option τ) (K : τ → Post) : Prop :=
 ∀ t,M = some t → ∃ cs : List Ct,cs.length = rest.length ∧ Chain P C l.toArray (rest.zip cs) (σ,m) ∧ Ba l (done.reverse ++ cs) = true ∧ gG P C is (iW (rest.zip cs) (σ,m)).1 (iW (rest.zip cs) (σ,m)).2 (K t)
section
variable {P : Program} {C : Ctx} {σ : Slots} {m : Mem} {is : List It} {l rest : List Oper} {done : List Ct} {τ υ : Type} {M : Option τ} {K : τ → Post}
theorem aB.draw {id : Nat} (hm : P.follows .mixedOrders = true) (h : aT P C l [] l is σ m M K) : aB P C (.code (.region id l.toArray true) :: is) σ m M K := fun t ht => by
 obtain ⟨cs,_,h2,h3,h4⟩ := h t ht
 exact V4 (st0 := (σ,m)) hm (by simpa using h3) h2 h4
theorem Kw (x : CV) : iE [] x = true := by
 cases x <;> simp [iE]
theorem RD (x : SV) : Ar [] x = true := by
 cases x with
 | c x => exact Kw x
 | agg cs => exact List.all_eq_true.2 fun x _ => Kw x
theorem Q8 (x : AV) : oV [] x = true := by
 cases x with
 | s x => exact RD x
 | dI cs => exact List.all_eq_true.2 fun x _ => RD x
theorem Q9 (o : Ob) : mG [] o = true := by
 cases o with
 | row e els => exact List.all_eq_true.2 fun cs _ => List.all_eq_true.2 fun x _ => Kw x
 | _ => first | rfl | simp [mG]
def FX (ops : Array Oper) (a b : OC) : Bool :=
 (match a.1.dst with | some d => !(wC ops b).elem d && b.1.dst != some d | none => true) && kH (uX a) (EK b) && (a.2.X.isEmpty || (oV a.2.X b.2.v && b.2.ins.all (fun q => oV a.2.X q.2) && b.2.us.all (fun q => mG a.2.X q.2) && b.2.df.all (fun q => mG a.2.X q.2)))
theorem PD {ops : Array Oper} {a b : OC} (h : FX ops a b = true) : half ops a b = true := by
 unfold FX at h
 unfold half
 rw [Bool.and_eq_true,Bool.or_eq_true] at h
 obtain ⟨h1,h2⟩ := h
 simp only [Bool.and_assoc] at h1 ⊢
 rw [Bool.and_eq_true] at h1
 rw [Bool.and_eq_true,Bool.and_eq_true]
 refine ⟨h1.1,h1.2,?_⟩
 rcases h2 with h2 | h2
 ·have : a.2.X = [] := by simpa using h2
  rw [this,Q8,List.all_eq_true.2 fun q _ => Q8 q.2,List.all_eq_true.2 fun q _ => Q9 q.2,List.all_eq_true.2 fun q _ => Q9 q.2]
  rfl
 ·simpa only [Bool.and_assoc] using h2
def Gi (ops : Array Oper) (nS : Nat) (b : OC) : Nat → List OC → Bool
 | _,[] => true
 | j,a :: r => (nS.testBit j || (FX ops a b && FX ops b a)) && Gi ops nS b (j + 1) r
theorem RV {ops : Array Oper} {nS : Nat} {b : OC} : ∀ (L : List OC) (j : Nat),Gi ops nS b j L = true → Aw ops nS b j L = true
 | [],_,_ => rfl
 | a :: r,j,h => by
  unfold Gi at h
  unfold Aw
  simp only [Bool.and_eq_true,Bool.or_eq_true] at h ⊢
  refine ⟨h.1.imp id fun h => ?_,RV r (j + 1) h.2⟩
  unfold indep
  rw [PD h.1,PD h.2]; rfl
def FM (ops : Array Oper) (L : List OC) (pr : List Nat) : Nat → List OC → Bool
 | _,[] => true
 | k,b :: r => Gi ops (pr.getD k 0) b 0 (L.take k) && ((BP (pr.getD k 0) k && (r.zipIdx (k + 1)).all fun q => (pr.getD q.2 0).testBit k) || EJ b) && FM ops L pr (k + 1) r
theorem Om {ops : Array Oper} {L : List OC} {pr : List Nat} : ∀ (r : List OC) (k : Nat),FM ops L pr k r = true → wS ops L pr k r = true
 | [],_,_ => rfl
 | b :: r,k,h => by
  unfold FM at h
  unfold wS
  rw [Bool.and_eq_true,Bool.and_eq_true] at h ⊢
  refine ⟨⟨RV _ _ h.1.1,?_⟩,Om r (k + 1) h.2⟩
  rw [Bool.or_comm]
  exact h.1.2
def Ir (l : List Oper) (cs : List Ct) : Bool :=
 let pr := (Region.before l.toArray).toList
 Nat.beq cs.length l.length && A7 l pr 0 l && FM l.toArray (l.zip cs) pr 0 (l.zip cs)
theorem Vt {l : List Oper} {cs : List Ct} (h : Ir l cs = true) : Ba l cs = true := by
 unfold Ir at h
 unfold Ba
 simp only [Bool.and_eq_true] at h ⊢
 exact ⟨h.1,Om _ _ h.2⟩
theorem aT.nil (hd : Ir l done.reverse = true) (h : aB P C is σ m M K) : aT P C l done [] is σ m M K := fun t ht => ⟨[],rfl,trivial,by simpa using Vt hd,h t ht⟩
theorem aT.bind {x : Option υ} {f : υ → Option τ} (h : ∀ u,x = some u → aT P C l done rest is σ m (f u) K) : aT P C l done rest is σ m (x.bind f) K := fun t ht => by
 obtain ⟨u,hu,hf⟩ := Option.bind_eq_some_iff.1 ht
 exact h u hu t hf
theorem aT.split {b : Bool} {M1 M2 : Option τ} (ht : b = true → aT P C l done rest is σ m M1 K) (hf : b = false → aT P C l done rest is σ m M2 K) : aT P C l done rest is σ m (bif b then M1 else M2) K := fun t h => by
 cases hb : b with
 | true => rw [hb] at h; exact ht hb t h
 | false => rw [hb] at h; exact hf hb t h
theorem aT.none : aT P C l done rest is σ m (none : Option τ) K := fun t h => by cases h
theorem aT.step {o : Oper} {ins : List (Operand × AV)} {us df : Mem} {v : AV} {W X : List Nat} (hlt : LT P o ins us v df W X) (hi : EvL σ ins) (hu : lK m us) (hg : eu l.toArray σ o true)
  (hside : (eX C.N o.dst && eP W (X ++ keys df) && eP W (keys us) && eP (keys df) (X ++ W) && kH X C.pn) = true) (h : aT P C l (⟨ins,us,v,df,W,X,true⟩ :: done) rest is (dX (jw X σ) o.dst v) (df ++ iF X m) M K) :
  aT P C l done (o :: rest) is σ m M K := fun t ht => by
 obtain ⟨cs,h1,h2,h3,h4⟩ := h t ht
 exact ⟨⟨ins,us,v,df,W,X,true⟩ :: cs,by simp [h1],⟨⟨hlt,hi,hu,hg,hside⟩,h2⟩,by simpa using h3,h4⟩
theorem aT.pure {o : Oper} {ins : List (Operand × AV)} {us : Mem} {v : AV} (hlt : LT P o ins us v [] [] []) (hi : EvL σ ins) (hu : lK m us) (hg : eu l.toArray σ o true)
  (hd : eX C.N o.dst = true) (h : aT P C l (⟨ins,us,v,[],[],[],true⟩ :: done) rest is (dX σ o.dst v) m M K) : aT P C l done (o :: rest) is σ m M K :=
 aT.step hlt hi hu hg (by rw [hd]; rfl) (by rw [DF,zL]; exact h)
theorem aT.skip {o : Oper} (hg : eu l.toArray σ o false) (hd : eX C.N o.dst = true) (h : aT P C l (⟨[],[],.dI [],[],[],[],false⟩ :: done) rest is (dX σ o.dst (.dI [])) m M K) : aT P C l done (o :: rest) is σ m M K := fun t ht => by
 obtain ⟨cs,h1,h2,h3,h4⟩ := h t ht
 have e : jM (o,(⟨[],[],.dI [],[],[],[],false⟩ : Ct)) (σ,m) = (dX σ o.dst (.dI []),m) := by
  unfold jM
  rw [DF,zL]
  rfl
 refine ⟨⟨[],[],.dI [],[],[],[],false⟩ :: cs,by simp [h1],⟨⟨hg,hd,rfl,rfl,rfl,rfl,rfl⟩,?_⟩,by simpa using h3,?_⟩
 ·rw [e]; exact h2
 ·rw [List.zip_cons_cons]
  show gG P C is (iW (rest.zip cs) (jM _ _)).1 (iW (rest.zip cs) (jM _ _)).2 (K t)
  rw [e]
  exact h4
end
end Go.Fw
end
