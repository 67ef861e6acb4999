/- The framework, part 1: abstract values, what they say of the machine's values and memory, and that they stay true while other memory turns. -/
import Derived.WalkKit
import Derived.Orders
import Derived.Deep.Slices
set_option linter.unusedVariables false
set_option linter.unusedSimpArgs false
set_option linter.unnecessarySimpa false
namespace Go.Fw

/-- A pure value: a value of one cell without an address, or a slice that is only read, with its elements (each a list of cells). q: the slice's memory is kept for good; else it is only borrowed. -/
inductive PV where
  | sc (v : Value)
  | xs (q : Bool) (els : List (List PV))

/-- What one cell or slot holds: a pure value, a pointer to memory that is only read, a slice of an own row, a pointer into an own object, a function value, an own map, a slice of the k-th row of an own pool, a pointer into it, or anything. -/
inductive CV where
  | pv (p : PV)
  | px (q : Bool) (cells : List PV)
  | loc (n off len : Nat)
  | pl (n off : Nat)
  | fn (f : FuncId) (caps : List Nat)
  | mref (n : Nat)
  | tl (p k off len : Nat)
  | tpl (p k off : Nat)
  | junk

inductive SV where
  | c (x : CV)
  | agg (cells : List CV)

inductive AV where
  | s (x : SV)
  | tup (vs : List SV)

/-- An own object: a row of elements of one type (a variable is a row of one element), a map from ints to ints, a pool: as many rows of pure elements of one type as there are, or a row of slices: the k-th is the pool's k-th row. Or nothing is known of it. -/
inductive Ob where
  | row (e : TypeId) (els : List (List CV))
  | prow (e : TypeId) (els : List (List PV))
  | mp (es : List (Int × Int))
  | pool (e : TypeId) (rows : List (List (List PV)))
  | trow (e : TypeId) (p : Nat) (lens : List Nat)
  | unk

inductive GS where
  | dead
  | nil
  | blk (b : Nat)
  | pool (bs : List (Option Nat))
/-- the block is one of the object's -/
def GS.has : GS → Nat → Prop
  | .blk b, x => x = b
  | .pool bs, x => some x ∈ bs
  | _, _ => False
/-- where the k-th row of a pool stands -/
def GS.at (s : GS) (k : Nat) : GS := match s with
  | .pool bs => match bs[k]? with
    | some (some b) => .blk b
    | some none => .nil
    | none => .dead
  | _ => .dead
theorem GS.has_blk {s : GS} {b : Nat} (h : s = .blk b) : s.has b := by rw [h]; rfl
theorem GS.has_blk_eq {s : GS} {b x : Nat} (h : s = .blk b) (hx : s.has x) : x = b := by rw [h] at hx; exact hx
theorem GS.has_at {s : GS} {k b : Nat} (h : s.at k = .blk b) : s.has b := by
  cases s with
  | pool bs =>
    simp only [GS.at] at h
    cases hb : bs[k]? with
    | none => rw [hb] at h; cases h
    | some o =>
      cases o with
      | none => rw [hb] at h; cases h
      | some c =>
        rw [hb] at h
        injection h with h
        subst h
        exact List.mem_of_getElem? hb
  | _ => cases h

abbrev Slots := List (Nat × AV)
abbrev Mem := List (Nat × Ob)

def szP (P : Program) (e : TypeId) : Nat := ((P.info? e).map (·.size)).getD 0

/-- The set that a read-only address lies in. -/
def pick2 (R B : Nat → Prop) (q : Bool) : Nat → Prop := match q with
  | true => R
  | false => B

inductive RPV (w : World) (R B : Nat → Prop) : PV → Value → Prop
  | sc {v : Value} (h : v.oneCell' = true) : RPV w R B (.sc v) v
  | emp {q : Bool} {a : Option Addr} {c : Nat} : RPV w R B (.xs q []) (.slice a 0 c)
  | xs {q : Bool} {els : List (List PV)} {a : Addr} {c s n : Nat} (val : Nat → Nat → Value) (hn : n = els.length) (hb : pick2 R B q a.block) (hc : els.length ≤ c) (hs : ∀ cs ∈ els, cs.length = s)
      (hv : ∀ j k cs p, els[j]? = some cs → cs[k]? = some p → w.cell? (a.add (j * s + k)) = some (val j k))
      (hr : ∀ j k cs p, els[j]? = some cs → cs[k]? = some p → RPV w R B p (val j k)) : RPV w R B (.xs q els) (.slice (some a) n c)

/-- How a slot of a machine stands to its abstract value. -/
def RC0 (P : Program) (w : World) (R B : Nat → Prop) (g : Nat → GS) : CV → Value → Prop
  | .pv p, v => RPV w R B p v
  | .px q cells, v => ∃ a, v = .pointer (some a) ∧ pick2 R B q a.block ∧ ∀ k p, cells[k]? = some p → ∃ u, w.cell? (a.add k) = some u ∧ RPV w R B p u
  | .loc n off len, v =>
    (g n = .nil ∧ off = 0 ∧ len = 0 ∧ v = .slice none 0 0) ∨ (len = 0 ∧ off ≠ 0 ∧ ∃ a c, v = .slice a 0 c) ∨
    ∃ b cap cur e, g n = .blk b ∧ w.heap[b]? = some (.cells cur e (0, 0)) ∧ len ≤ cap ∧ off + cap ≤ maxLen ∧ (off + cap) * szP P e = cur.size ∧ v = .slice (some ⟨b, off * szP P e, none⟩) len cap
  | .pl n off, v => ∃ b, g n = .blk b ∧ v = .pointer (some ⟨b, off, none⟩)
  | .fn f caps, v => ∃ vs : List Value, v = .func (.func f) #[] vs.toArray ∧ vs.length = caps.length ∧ ∀ (k n : Nat), caps[k]? = some n → ∃ b, g n = .blk b ∧ vs[k]? = some (Value.pointer (some ⟨b, 0, none⟩))
  | .mref n, v => ∃ b, g n = .blk b ∧ v = .map (some b)
  | .tl p k off len, v =>
    ((g p).at k = .nil ∧ off = 0 ∧ len = 0 ∧ v = .slice none 0 0) ∨ (len = 0 ∧ off ≠ 0 ∧ ∃ a c, v = .slice a 0 c) ∨
    ∃ b cap cur e, (g p).at k = .blk b ∧ w.heap[b]? = some (.cells cur e (0, 0)) ∧ len ≤ cap ∧ off + cap ≤ maxLen ∧ (off + cap) * szP P e = cur.size ∧ v = .slice (some ⟨b, off * szP P e, none⟩) len cap
  | .tpl p k off, v => ∃ b, (g p).at k = .blk b ∧ v = .pointer (some ⟨b, off, none⟩)
  | .junk, _ => True

def RC (P : Program) (w : World) (R B : Nat → Prop) (g : Nat → GS) (x : CV) (v : Value) : Prop := v.oneCell' = true ∧ RC0 P w R B g x v

def RS (P : Program) (w : World) (R B : Nat → Prop) (g : Nat → GS) : SV → Value → Prop
  | .c x, v => RC P w R B g x v
  | .agg cells, v => ∃ vs : List Value, v = .agg vs.toArray ∧ vs.length = cells.length ∧ ∀ (k : Nat) x, cells[k]? = some x → ∃ u, vs[k]? = some u ∧ RC P w R B g x u

def RA (P : Program) (w : World) (R B : Nat → Prop) (g : Nat → GS) : AV → Value → Prop
  | .s x, v => RS P w R B g x v
  | .tup xs, v => ∃ vs : List Value, v = .tuple vs.toArray ∧ vs.length = xs.length ∧ ∀ (k : Nat) x, xs[k]? = some x → ∃ u, vs[k]? = some u ∧ RS P w R B g x u

/-- How an own object stands in the machine's memory. -/
def ROw (P : Program) (w : World) (R B : Nat → Prop) (g : Nat → GS) (n : Nat) (e : TypeId) (els : List (List CV)) : Prop :=
    (g n = .nil ∧ els = []) ∨
    ∃ b cur, g n = .blk b ∧ w.heap[b]? = some (.cells cur e (0, 0)) ∧ (∀ cs ∈ els, cs.length = szP P e) ∧ els.length * szP P e ≤ cur.size ∧
      ∀ (j k : Nat) cs x, els[j]? = some cs → cs[k]? = some x → ∃ u, cur[j * szP P e + k]? = some u ∧ RC P w R B g x u

/-- pure cells as cells -/
def pvs (els : List (List PV)) : List (List CV) := els.map (·.map .pv)

/-- the cells of a row of slices -/
def tcells (p : Nat) (lens : List Nat) : List (List CV) := lens.mapIdx fun j l => [.tl p j 0 l]

/-- How a row of pure elements stands in memory. -/
def PRow (P : Program) (w : World) (R B : Nat → Prop) (s : GS) (e : TypeId) (els : List (List PV)) : Prop :=
    (s = .nil ∧ els = []) ∨
    ∃ b cur, s = .blk b ∧ w.heap[b]? = some (.cells cur e (0, 0)) ∧ (∀ cs ∈ els, cs.length = szP P e) ∧ els.length * szP P e ≤ cur.size ∧
      ∀ (j k : Nat) cs x, els[j]? = some cs → cs[k]? = some x → ∃ u, cur[j * szP P e + k]? = some u ∧ RPV w R B x u

def RO (P : Program) (w : World) (R B : Nat → Prop) (g : Nat → GS) (n : Nat) : Ob → Prop
  | .row e els => ROw P w R B g n e els
  | .prow e els => ROw P w R B g n e (pvs els)
  | .mp es => ∃ b ents clock, g n = .blk b ∧ w.heap[b]? = some (.map ents clock) ∧ ents.toList.map (fun e => (e.key, e.val)) = es.map fun e => (Value.int .i64 e.1, Value.int .i64 e.2)
  | .pool e rows => (∃ bs, g n = .pool bs ∧ bs.length = rows.length) ∧ ∀ (k : Nat) els, rows[k]? = some els → PRow P w R B ((g n).at k) e els
  | .trow e p lens => ROw P w R B g n e (tcells p lens)
  | .unk => True

/-- The ground rules of a state. -/
structure WF (R B : Nat → Prop) (g : Nat → GS) (w : World) : Prop where
  rb : ∀ b, R b → B b
  lt : ∀ b, B b → b < w.heap.size
  ownH : ∀ n b, (g n).has b → ¬ B b ∧ b < w.heap.size
  injH : ∀ n m b, (g n).has b → (g m).has b → n = m
  nd : ∀ n j k b, (g n).at j = .blk b → (g n).at k = .blk b → j = k
theorem WF.own {R B : Nat → Prop} {g : Nat → GS} {w : World} (h : WF R B g w) (n b : Nat) (hg : g n = .blk b) : ¬ B b ∧ b < w.heap.size := h.ownH n b (GS.has_blk hg)
theorem WF.inj {R B : Nat → Prop} {g : Nat → GS} {w : World} (h : WF R B g w) (n m b : Nat) (hn : g n = .blk b) (hm : g m = .blk b) : n = m := h.injH n m b (GS.has_blk hn) (GS.has_blk hm)

/-- One step: W: the objects that may have been written; X: the names that have a new meaning. -/
structure Adv (R B : Nat → Prop) (g : Nat → GS) (w : World) (W X : List Nat) (R' B' : Nat → Prop) (g' : Nat → GS) (w' : World) : Prop where
  wf : WF R' B' g' w'
  r : ∀ b, R b → R' b
  b : ∀ b, B b → B' b
  os : w'.os = w.os
  tape : w'.tape = w.tape
  output : w'.output = w.output
  size : w.heap.size ≤ w'.heap.size
  heap : ∀ b, b < w.heap.size → (∀ n ∈ W, ¬ (g n).has b) → w'.heap[b]? = w.heap[b]?
  names : ∀ n, n ∉ X → g' n = g n
  fresh : ∀ n ∈ X, ∀ b, (g' n).has b → w.heap.size ≤ b ∨ ∃ m ∈ W, (g m).has b
  shape : ∀ n ∈ W, n ∉ X → ∀ b cur e, (g n).has b → w.heap[b]? = some (.cells cur e (0, 0)) → ∃ cur', w'.heap[b]? = some (.cells cur' e (0, 0)) ∧ cur'.size = cur.size

/-- What is still known of a value when the names of X have a new meaning. -/
def junkC (X : List Nat) : CV → CV
  | .loc n o l => bif X.elem n then .junk else .loc n o l
  | .pl n o => bif X.elem n then .junk else .pl n o
  | .fn f caps => bif caps.any X.elem then .junk else .fn f caps
  | .mref n => bif X.elem n then .junk else .mref n
  | .tl p k o l => bif X.elem p then .junk else .tl p k o l
  | .tpl p k o => bif X.elem p then .junk else .tpl p k o
  | x => x
def junkS (X : List Nat) : SV → SV
  | .c x => .c (junkC X x)
  | .agg cs => .agg (cs.map (junkC X))
def junkA (X : List Nat) : AV → AV
  | .s x => .s (junkS X x)
  | .tup xs => .tup (xs.map (junkS X))
def junkO (X : List Nat) : Ob → Ob
  | .row e els => .row e (els.map (·.map (junkC X)))
  | .prow e els => .prow e els
  | .mp es => .mp es
  | .pool e rows => .pool e rows
  | .trow e p lens => bif X.elem p then .unk else .trow e p lens
  | .unk => .unk
def junkSl (X : List Nat) (σ : Slots) : Slots := σ.map fun p => (p.1, junkA X p.2)
def junkM (X : List Nat) : Mem → Mem
  | [] => []
  | (n, o) :: r => bif X.elem n then junkM X r else (n, junkO X o) :: junkM X r

/-! ### What is kept -/
section
variable {P : Program} {w w' : World} {R B R' B' : Nat → Prop} {g g' : Nat → GS} {W X : List Nat}

theorem pick2_mono (hr : ∀ b, R b → R' b) (hb : ∀ b, B b → B' b) {q : Bool} {b : Nat} (h : pick2 R B q b) : pick2 R' B' q b := by
  cases q
  · exact hb _ h
  · exact hr _ h
theorem pick2_b (hrb : ∀ b, R b → B b) {q : Bool} {b : Nat} (h : pick2 R B q b) : B b := by
  cases q
  · exact h
  · exact hrb _ h

theorem add_block (a : Addr) (n : Nat) : (a.add n).block = a.block := by unfold Addr.add; split <;> rfl

theorem RPV.keep (hr : ∀ b, R b → R' b) (hb : ∀ b, B b → B' b) (hrb : ∀ b, R b → B b) (hh : ∀ b, B b → w'.heap[b]? = w.heap[b]?) {p : PV} {v : Value} (h : RPV w R B p v) : RPV w' R' B' p v := by
  induction h with
  | sc h => exact .sc h
  | emp => exact .emp
  | xs val hn hq hc hs hv _ ih =>
    refine .xs val hn (pick2_mono hr hb hq) hc hs (fun j k cs p h1 h2 => ?_) ih
    rw [World.cell?_of_block (w := w) (by rw [add_block]; exact hh _ (pick2_b hrb hq))]
    exact hv j k cs p h1 h2

theorem RPV.oneCell {p : PV} {v : Value} (h : RPV w R B p v) : v.oneCell' = true := by
  cases h <;> first | assumption | rfl

theorem Adv.keepB (h : Adv R B g w W X R' B' g' w') (hw : WF R B g w) : ∀ b, B b → w'.heap[b]? = w.heap[b]? :=
  fun b hb => h.heap b (hw.lt b hb) fun n _ he => (hw.ownH n b he).1 hb

theorem Adv.pv (h : Adv R B g w W X R' B' g' w') (hw : WF R B g w) {p : PV} {v : Value} (hp : RPV w R B p v) : RPV w' R' B' p v :=
  hp.keep h.r h.b hw.rb (h.keepB hw)

theorem Adv.ownH (h : Adv R B g w W X R' B' g' w') (hw : WF R B g w) {n b : Nat} (hnW : n ∉ W) (hg : (g n).has b) : w'.heap[b]? = w.heap[b]? :=
  h.heap b (hw.ownH n b hg).2 fun m hm he => hnW (hw.injH m n b he hg ▸ hm)
theorem Adv.own (h : Adv R B g w W X R' B' g' w') (hw : WF R B g w) {n b : Nat} (hn : n ∉ X) (hnW : n ∉ W) (hg : g n = .blk b) : g' n = .blk b ∧ w'.heap[b]? = w.heap[b]? :=
  ⟨(h.names n hn).trans hg, h.ownH hw hnW (GS.has_blk hg)⟩
theorem Adv.ownH' (h : Adv R B g w W X R' B' g' w') (hw : WF R B g w) {n b : Nat} (hn : n ∉ X) (hg : (g n).has b) {cur : Array Value} {e : TypeId} (hh : w.heap[b]? = some (.cells cur e (0, 0))) :
    ∃ cur', w'.heap[b]? = some (.cells cur' e (0, 0)) ∧ cur'.size = cur.size := by
  by_cases hW : n ∈ W
  · exact h.shape n hW hn b cur e hg hh
  · exact ⟨cur, (h.ownH hw hW hg).trans hh, rfl⟩

theorem Adv.own' (h : Adv R B g w W X R' B' g' w') (hw : WF R B g w) {n b : Nat} (hn : n ∉ X) (hg : g n = .blk b) {cur : Array Value} {e : TypeId} (hh : w.heap[b]? = some (.cells cur e (0, 0))) :
    ∃ cur', w'.heap[b]? = some (.cells cur' e (0, 0)) ∧ cur'.size = cur.size := by
  exact h.ownH' hw hn (GS.has_blk hg) hh

theorem notin_of_elem {n : Nat} (h : X.elem n = false) : n ∉ X := by
  intro hm
  rw [List.elem_eq_true_of_mem hm] at h
  cases h

theorem Adv.rc0 (h : Adv R B g w W X R' B' g' w') (hw : WF R B g w) {x : CV} {v : Value} (hp : RC0 P w R B g x v) : RC0 P w' R' B' g' (junkC X x) v := by
  cases x with
  | pv p => exact h.pv hw hp
  | px q cells =>
    obtain ⟨a, rfl, hq, hc⟩ := hp
    refine ⟨a, rfl, pick2_mono h.r h.b hq, fun k p hk => ?_⟩
    obtain ⟨u, hu, hr⟩ := hc k p hk
    exact ⟨u, (World.cell?_of_block (w := w) (by rw [add_block]; exact h.keepB hw _ (pick2_b hw.rb hq))).trans hu, h.pv hw hr⟩
  | loc n off len =>
    cases hx : X.elem n with
    | true => simp only [junkC, hx, cond_true]; trivial
    | false =>
      have hn := notin_of_elem hx
      simp only [junkC, hx, cond_false]
      rcases hp with ⟨h1, h2, h3, h4⟩ | hz | ⟨b, cap, cur, e, h1, h2, h3, h4, h5, h6⟩
      · exact .inl ⟨(h.names n hn).trans h1, h2, h3, h4⟩
      · exact .inr (.inl hz)
      · obtain ⟨cur', k2, k3⟩ := h.own' hw hn h1 h2
        exact .inr (.inr ⟨b, cap, cur', e, (h.names n hn).trans h1, k2, h3, h4, h5.trans k3.symm, h6⟩)
  | pl n off =>
    cases hx : X.elem n with
    | true => simp only [junkC, hx, cond_true]; trivial
    | false =>
      have hn := notin_of_elem hx
      simp only [junkC, hx, cond_false]
      obtain ⟨b, h1, h2⟩ := hp
      exact ⟨b, (h.names n hn).trans h1, h2⟩
  | fn f caps =>
    cases hx : caps.any X.elem with
    | true => simp only [junkC, hx, cond_true]; trivial
    | false =>
      simp only [junkC, hx, cond_false]
      obtain ⟨vs, h1, h2, h3⟩ := hp
      refine ⟨vs, h1, h2, fun k n hk => ?_⟩
      obtain ⟨b, k1, k2⟩ := h3 k n hk
      have hn : n ∉ X := notin_of_elem (by
        have := List.any_eq_false.1 hx n (List.mem_of_getElem? hk)
        simpa using this)
      exact ⟨b, (h.names n hn).trans k1, k2⟩
  | mref n =>
    cases hx : X.elem n with
    | true => simp only [junkC, hx, cond_true]; trivial
    | false =>
      have hn := notin_of_elem hx
      simp only [junkC, hx, cond_false]
      obtain ⟨b, h1, h2⟩ := hp
      exact ⟨b, (h.names n hn).trans h1, h2⟩
  | tl p k off len =>
    cases hx : X.elem p with
    | true => simp only [junkC, hx, cond_true]; trivial
    | false =>
      have hn := notin_of_elem hx
      simp only [junkC, hx, cond_false]
      rcases hp with ⟨h1, h2, h3, h4⟩ | hz | ⟨b, cap, cur, e, h1, h2, h3, h4, h5, h6⟩
      · exact .inl ⟨by rw [h.names p hn]; exact h1, h2, h3, h4⟩
      · exact .inr (.inl hz)
      · obtain ⟨cur', k2, k3⟩ := h.ownH' hw hn (GS.has_at h1) h2
        exact .inr (.inr ⟨b, cap, cur', e, by rw [h.names p hn]; exact h1, k2, h3, h4, h5.trans k3.symm, h6⟩)
  | tpl p k off =>
    cases hx : X.elem p with
    | true => simp only [junkC, hx, cond_true]; trivial
    | false =>
      have hn := notin_of_elem hx
      simp only [junkC, hx, cond_false]
      obtain ⟨b, h1, h2⟩ := hp
      exact ⟨b, by rw [h.names p hn]; exact h1, h2⟩
  | junk => trivial

theorem Adv.rc (h : Adv R B g w W X R' B' g' w') (hw : WF R B g w) {x : CV} {v : Value} (hp : RC P w R B g x v) : RC P w' R' B' g' (junkC X x) v := ⟨hp.1, h.rc0 hw hp.2⟩

theorem Adv.rs (h : Adv R B g w W X R' B' g' w') (hw : WF R B g w) {x : SV} {v : Value} (hp : RS P w R B g x v) : RS P w' R' B' g' (junkS X x) v := by
  cases x with
  | c x => exact h.rc hw hp
  | agg cells =>
    obtain ⟨vs, rfl, hl, hc⟩ := hp
    refine ⟨vs, rfl, by simpa using hl, fun k x hk => ?_⟩
    rw [List.getElem?_map] at hk
    cases hx : cells[k]? with
    | none => rw [hx] at hk; cases hk
    | some y =>
      rw [hx] at hk
      injection hk with hk
      subst hk
      obtain ⟨u, hu, hr⟩ := hc k y hx
      exact ⟨u, hu, h.rc hw hr⟩

theorem Adv.ra (h : Adv R B g w W X R' B' g' w') (hw : WF R B g w) {x : AV} {v : Value} (hp : RA P w R B g x v) : RA P w' R' B' g' (junkA X x) v := by
  cases x with
  | s x => exact h.rs hw hp
  | tup xs =>
    obtain ⟨vs, rfl, hl, hc⟩ := hp
    refine ⟨vs, rfl, by simpa using hl, fun k x hk => ?_⟩
    rw [List.getElem?_map] at hk
    cases hx : xs[k]? with
    | none => rw [hx] at hk; cases hk
    | some y =>
      rw [hx] at hk
      injection hk with hk
      subst hk
      obtain ⟨u, hu, hr⟩ := hc k y hx
      exact ⟨u, hu, h.rs hw hr⟩

theorem Adv.row (h : Adv R B g w W X R' B' g' w') (hw : WF R B g w) {n : Nat} (hn : n ∉ X) (hnW : n ∉ W) {e : TypeId} {els : List (List CV)} (hp : ROw P w R B g n e els) : ROw P w' R' B' g' n e (els.map (·.map (junkC X))) := by
  rcases hp with ⟨h1, h2⟩ | ⟨b, cur, h1, h2, h3, h4, h5⟩
  · exact .inl ⟨(h.names n hn).trans h1, by simp [h2]⟩
  · obtain ⟨k1, k2⟩ := h.own hw hn hnW h1
    refine .inr ⟨b, cur, k1, k2.trans h2, fun cs hcs => ?_, by simpa using h4, fun j k cs x hj hk => ?_⟩
    · obtain ⟨cs0, hm, rfl⟩ := List.mem_map.1 hcs
      simpa using h3 cs0 hm
    · rw [List.getElem?_map] at hj
      cases hx : els[j]? with
      | none => rw [hx] at hj; cases hj
      | some y =>
        rw [hx] at hj
        injection hj with hj
        subst hj
        rw [List.getElem?_map] at hk
        cases hz : y[k]? with
        | none => rw [hz] at hk; cases hk
        | some z =>
          rw [hz] at hk
          injection hk with hk
          subst hk
          obtain ⟨u, hu, hr⟩ := h5 j k y z hx hz
          exact ⟨u, hu, h.rc hw hr⟩

theorem pvs_junk (X : List Nat) (els : List (List PV)) : (pvs els).map (·.map (junkC X)) = pvs els := by
  simp [pvs, junkC, Function.comp_def]

theorem tcells_junk {X : List Nat} {p : Nat} (hx : X.elem p = false) (lens : List Nat) : (tcells p lens).map (·.map (junkC X)) = tcells p lens := by
  refine List.ext_getElem? fun j => ?_
  simp only [tcells, List.getElem?_map, List.getElem?_mapIdx, Option.map_map]
  cases lens[j]? with
  | none => rfl
  | some l => simp only [Option.map_some, Function.comp, List.map_cons, List.map_nil, junkC, hx, cond_false]

theorem Adv.ro (h : Adv R B g w W X R' B' g' w') (hw : WF R B g w) {n : Nat} (hn : n ∉ X) (hnW : n ∉ W) {o : Ob} (hp : RO P w R B g n o) : RO P w' R' B' g' n (junkO X o) := by
  cases o with
  | row e els => exact h.row hw hn hnW hp
  | prow e els =>
    have := h.row hw hn hnW (els := pvs els) hp
    rwa [pvs_junk] at this
  | mp es =>
    obtain ⟨b, ents, clock, h1, h2, h3⟩ := hp
    obtain ⟨k1, k2⟩ := h.own hw hn hnW h1
    exact ⟨b, ents, clock, k1, k2.trans h2, h3⟩
  | pool e rows =>
    obtain ⟨⟨bs, h1, h2⟩, h3⟩ := hp
    refine ⟨⟨bs, (h.names n hn).trans h1, h2⟩, fun k els hk => ?_⟩
    rw [h.names n hn]
    rcases h3 k els hk with hnil | ⟨b, cur, k1, k2, k3, k4, k5⟩
    · exact .inl hnil
    · refine .inr ⟨b, cur, k1, (h.ownH hw hnW (GS.has_at k1)).trans k2, k3, k4, fun j i cs x hj hi => ?_⟩
      obtain ⟨u, hu, hr⟩ := k5 j i cs x hj hi
      exact ⟨u, hu, h.pv hw hr⟩
  | trow e p lens =>
    have := h.row hw hn hnW (els := tcells p lens) hp
    show RO P w' R' B' g' n (bif X.elem p then .unk else .trow e p lens)
    cases hx : X.elem p with
    | true => trivial
    | false =>
      rw [tcells_junk hx] at this
      exact this
  | unk => trivial
end

end Go.Fw
