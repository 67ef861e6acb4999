/- The framework, part 6: contracts of functions; how a body proves one; how a call uses one. -/
import Derived.Test.YtfiiebikkimjbaaFw5
set_option linter.unusedVariables false
set_option linter.unusedSimpArgs false
set_option linter.unnecessarySimpa false
namespace Go.Fw

/-- Nothing in it is only borrowed. -/
inductive PermP : PV → Prop
  | sc {v : Value} : PermP (.sc v)
  | xs {els : List (List PV)} (h : ∀ cs ∈ els, ∀ p ∈ cs, PermP p) : PermP (.xs true els)
def PermC : CV → Prop
  | .pv p => PermP p
  | .px q cells => q = true ∧ ∀ p ∈ cells, PermP p
  | _ => True
def PermS : SV → Prop
  | .c x => PermC x
  | .agg cs => ∀ x ∈ cs, PermC x
def PermA : AV → Prop
  | .s x => PermS x
  | .tup xs => ∀ x ∈ xs, PermS x
def PermO : Ob → Prop
  | .row _ els => ∀ cs ∈ els, ∀ x ∈ cs, PermC x
  | .prow _ els => ∀ cs ∈ els, ∀ p ∈ cs, PermP p
  | .mp _ => True
  | .pool _ rows => ∀ els ∈ rows, ∀ cs ∈ els, ∀ p ∈ cs, PermP p
  | .trow _ _ _ => True
  | .unk => True

section
variable {P : Program} {w : World} {R B B' : Nat → Prop} {g g' : Nat → GS}

theorem RPV.perm {p : PV} {v : Value} (hp : PermP p) (h : RPV w R B p v) : RPV w R B' p v := by
  induction h with
  | sc h => exact .sc h
  | emp => exact .emp
  | @xs q els ad c s n val hn hq hc hs hv hr ih =>
    cases hp with
    | xs hp => exact .xs val hn hq hc hs hv fun j k cs p h1 h2 => ih j k cs p h1 h2 (hp cs (List.mem_of_getElem? h1) p (List.mem_of_getElem? h2))
theorem RC.perm {x : CV} {v : Value} (hp : PermC x) (h : RC P w R B g x v) : RC P w R B' g x v := by
  refine ⟨h.1, ?_⟩
  have h2 := h.2
  cases x with
  | pv p => exact RPV.perm hp h2
  | px q cells =>
    obtain ⟨rfl, hp⟩ := hp
    obtain ⟨a, h3, h4, h5⟩ := h2
    exact ⟨a, h3, h4, fun k p hk => by
      obtain ⟨u, h6, h7⟩ := h5 k p hk
      exact ⟨u, h6, h7.perm (hp p (List.mem_of_getElem? hk))⟩⟩
  | _ => exact h2
theorem RS.perm {x : SV} {v : Value} (hp : PermS x) (h : RS P w R B g x v) : RS P w R B' g x v := by
  cases x with
  | c x => exact RC.perm hp h
  | agg cs =>
    obtain ⟨vs, h1, h2, h3⟩ := h
    exact ⟨vs, h1, h2, fun k x hk => by
      obtain ⟨u, h4, h5⟩ := h3 k x hk
      exact ⟨u, h4, h5.perm (hp x (List.mem_of_getElem? hk))⟩⟩
theorem RA.perm {x : AV} {v : Value} (hp : PermA x) (h : RA P w R B g x v) : RA P w R B' g x v := by
  cases x with
  | s x => exact RS.perm hp h
  | tup xs =>
    obtain ⟨vs, h1, h2, h3⟩ := h
    exact ⟨vs, h1, h2, fun k x hk => by
      obtain ⟨u, h4, h5⟩ := h3 k x hk
      exact ⟨u, h4, h5.perm (hp x (List.mem_of_getElem? hk))⟩⟩
theorem mem_tcells {p : Nat} {lens : List Nat} {cs : List CV} (h : cs ∈ tcells p lens) : ∃ j l, cs = [.tl p j 0 l] := by
  obtain ⟨i, hi⟩ := List.mem_iff_getElem?.1 h
  unfold tcells at hi
  rw [List.getElem?_mapIdx] at hi
  cases hl : lens[i]? with
  | none => rw [hl] at hi; cases hi
  | some l => rw [hl] at hi; injection hi with hi; exact ⟨i, l, hi.symm⟩
theorem ROw.perm {n : Nat} {e : TypeId} {els : List (List CV)} (hp : ∀ cs ∈ els, ∀ x ∈ cs, PermC x) (h : ROw P w R B g n e els) : ROw P w R B' g n e els := by
  rcases h with h | ⟨b, cur, h1, h2, h3, h4, h5⟩
  · exact .inl h
  · exact .inr ⟨b, cur, h1, h2, h3, h4, fun j k cs x hj hk => by
      obtain ⟨u, h6, h7⟩ := h5 j k cs x hj hk
      exact ⟨u, h6, h7.perm (hp cs (List.mem_of_getElem? hj) x (List.mem_of_getElem? hk))⟩⟩
theorem RO.perm {n : Nat} {o : Ob} (hp : PermO o) (h : RO P w R B g n o) : RO P w R B' g n o := by
  cases o with
  | row e els => exact ROw.perm hp h
  | prow e els => exact ROw.perm (fun cs hcs x hx => by
      obtain ⟨c0, hc0, rfl⟩ := List.mem_map.1 hcs
      obtain ⟨p, hp0, rfl⟩ := List.mem_map.1 hx
      exact hp c0 hc0 p hp0) h
  | mp es => exact h
  | pool e rows => exact ⟨h.1, fun k els hk => by
      rcases h.2 k els hk with h1 | ⟨b, cur, h1, h2, h3, h4, h5⟩
      · exact .inl h1
      · exact .inr ⟨b, cur, h1, h2, h3, h4, fun j i cs x hj hi => by
          obtain ⟨u, h6, h7⟩ := h5 j i cs x hj hi
          exact ⟨u, h6, h7.perm (hp els (List.mem_of_getElem? hk) cs (List.mem_of_getElem? hj) x (List.mem_of_getElem? hi))⟩⟩⟩
  | trow e p lens => exact ROw.perm (fun cs hcs x hx => by
      obtain ⟨j, l, rfl⟩ := mem_tcells hcs
      have : x = .tl p j 0 l := by simpa using hx
      subst this; trivial) h
  | unk => trivial

/-- what is named otherwise, the world unchanged: names keep what they mean where it matters -/
theorem RC.names {x : CV} {v : Value} (h : RC P w R B g x v) (hg : ∀ n, g n ≠ .dead → g' n = g n) : RC P w R B g' x v := by
  have hgb : ∀ n b, g n = .blk b → g' n = .blk b := fun n b h => (hg n (by rw [h]; simp)).trans h
  have hgn : ∀ n, g n = .nil → g' n = .nil := fun n h => (hg n (by rw [h]; simp)).trans h
  have hga : ∀ n k s, (g n).at k = s → s ≠ .dead → (g' n).at k = s := fun n k s h hs => by
    rw [hg n fun hd => hs (by rw [← h, hd]; rfl)]
    exact h
  refine ⟨h.1, ?_⟩
  have h2 := h.2
  cases x with
  | pv p => exact h2
  | px q cells => exact h2
  | loc n off len =>
    rcases h2 with ⟨h3, h4⟩ | h3 | ⟨b, cap, cur, e, h3, h4⟩
    · exact .inl ⟨hgn n h3, h4⟩
    · exact .inr (.inl h3)
    · exact .inr (.inr ⟨b, cap, cur, e, hgb n b h3, h4⟩)
  | pl n off =>
    obtain ⟨b, h3, h4⟩ := h2
    exact ⟨b, hgb n b h3, h4⟩
  | fn f caps =>
    obtain ⟨vs, h3, h4, h5⟩ := h2
    exact ⟨vs, h3, h4, fun k n hk => by
      obtain ⟨b, h6, h7⟩ := h5 k n hk
      exact ⟨b, hgb n b h6, h7⟩⟩
  | mref n =>
    obtain ⟨b, h3, h4⟩ := h2
    exact ⟨b, hgb n b h3, h4⟩
  | tl p k off len =>
    rcases h2 with ⟨h3, h4⟩ | h3 | ⟨b, cap, cur, e, h3, h4⟩
    · exact .inl ⟨hga p k _ h3 (by simp), h4⟩
    · exact .inr (.inl h3)
    · exact .inr (.inr ⟨b, cap, cur, e, hga p k _ h3 (by simp), h4⟩)
  | tpl p k off =>
    obtain ⟨b, h3, h4⟩ := h2
    exact ⟨b, hga p k _ h3 (by simp), h4⟩
  | junk => trivial
theorem RS.names {x : SV} {v : Value} (h : RS P w R B g x v) (hg : ∀ n, g n ≠ .dead → g' n = g n) : RS P w R B g' x v := by
  cases x with
  | c x => exact RC.names h hg
  | agg cs =>
    obtain ⟨vs, h1, h2, h3⟩ := h
    exact ⟨vs, h1, h2, fun k x hk => by
      obtain ⟨u, h4, h5⟩ := h3 k x hk
      exact ⟨u, h4, h5.names hg⟩⟩
theorem RA.names {x : AV} {v : Value} (h : RA P w R B g x v) (hg : ∀ n, g n ≠ .dead → g' n = g n) : RA P w R B g' x v := by
  cases x with
  | s x => exact RS.names h hg
  | tup xs =>
    obtain ⟨vs, h1, h2, h3⟩ := h
    exact ⟨vs, h1, h2, fun k x hk => by
      obtain ⟨u, h4, h5⟩ := h3 k x hk
      exact ⟨u, h4, h5.names hg⟩⟩
theorem ROw.names {n : Nat} {e : TypeId} {els : List (List CV)} (h : ROw P w R B g n e els) (hg : ∀ n, g n ≠ .dead → g' n = g n) : ROw P w R B g' n e els := by
  rcases h with ⟨h1, h2⟩ | ⟨b, cur, h1, h2, h3, h4, h5⟩
  · exact .inl ⟨(hg n (by rw [h1]; simp)).trans h1, h2⟩
  · exact .inr ⟨b, cur, (hg n (by rw [h1]; simp)).trans h1, h2, h3, h4, fun j k cs x hj hk => by
      obtain ⟨u, h6, h7⟩ := h5 j k cs x hj hk
      exact ⟨u, h6, h7.names hg⟩⟩
theorem RO.names {n : Nat} {o : Ob} (h : RO P w R B g n o) (hg : ∀ n, g n ≠ .dead → g' n = g n) : RO P w R B g' n o := by
  cases o with
  | row e els => exact ROw.names h hg
  | prow e els => exact ROw.names h hg
  | mp es =>
    obtain ⟨b, ents, clock, h1, h2⟩ := h
    exact ⟨b, ents, clock, (hg n (by rw [h1]; simp)).trans h1, h2⟩
  | pool e rows =>
    obtain ⟨⟨bs, h1, h2⟩, h3⟩ := h
    have e1 := hg n (by rw [h1]; simp)
    exact ⟨⟨bs, e1.trans h1, h2⟩, by rw [e1]; exact h3⟩
  | trow e p lens => exact ROw.names h hg
  | unk => trivial

/-- its names are among these -/
def okC (zs : List Nat) : CV → Bool
  | .loc n _ _ => zs.elem n
  | .pl n _ => zs.elem n
  | .fn _ caps => caps.all zs.elem
  | .mref n => zs.elem n
  | .tl p _ _ _ => zs.elem p
  | .tpl p _ _ => zs.elem p
  | _ => true
def okS (zs : List Nat) : SV → Bool
  | .c x => okC zs x
  | .agg cs => cs.all (okC zs)
def okA (zs : List Nat) : AV → Bool
  | .s x => okS zs x
  | .tup xs => xs.all (okS zs)
def okO (zs : List Nat) : Ob → Bool
  | .row _ els => els.all (·.all (okC zs))
  | .trow _ p _ => zs.elem p
  | _ => true
theorem RC.ok {zs : List Nat} {x : CV} {v : Value} (hz : okC zs x = true) (hg : ∀ n ∈ zs, g' n = g n) (h : RC P w R B g x v) : RC P w R B g' x v := by
  refine ⟨h.1, ?_⟩
  have h2 := h.2
  cases x with
  | pv p => exact h2
  | px q cells => exact h2
  | loc n off len =>
    have hn := hg n (List.mem_of_elem_eq_true hz)
    rcases h2 with ⟨h3, h4⟩ | h3 | ⟨b, cap, cur, e, h3, h4⟩
    · exact .inl ⟨hn.trans h3, h4⟩
    · exact .inr (.inl h3)
    · exact .inr (.inr ⟨b, cap, cur, e, hn.trans h3, h4⟩)
  | pl n off =>
    obtain ⟨b, h3, h4⟩ := h2
    exact ⟨b, (hg n (List.mem_of_elem_eq_true hz)).trans h3, h4⟩
  | fn f caps =>
    obtain ⟨vs, h3, h4, h5⟩ := h2
    exact ⟨vs, h3, h4, fun k n hk => by
      obtain ⟨b, h6, h7⟩ := h5 k n hk
      exact ⟨b, (hg n (List.mem_of_elem_eq_true (List.all_eq_true.1 hz n (List.mem_of_getElem? hk)))).trans h6, h7⟩⟩
  | mref n =>
    obtain ⟨b, h3, h4⟩ := h2
    exact ⟨b, (hg n (List.mem_of_elem_eq_true hz)).trans h3, h4⟩
  | tl p k off len =>
    have hn := hg p (List.mem_of_elem_eq_true hz)
    rcases h2 with ⟨h3, h4⟩ | h3 | ⟨b, cap, cur, e, h3, h4⟩
    · exact .inl ⟨by rw [hn]; exact h3, h4⟩
    · exact .inr (.inl h3)
    · exact .inr (.inr ⟨b, cap, cur, e, by rw [hn]; exact h3, h4⟩)
  | tpl p k off =>
    obtain ⟨b, h3, h4⟩ := h2
    exact ⟨b, by rw [hg p (List.mem_of_elem_eq_true hz)]; exact h3, h4⟩
  | junk => trivial
theorem RS.ok {zs : List Nat} {x : SV} {v : Value} (hz : okS zs x = true) (hg : ∀ n ∈ zs, g' n = g n) (h : RS P w R B g x v) : RS P w R B g' x v := by
  cases x with
  | c x => exact RC.ok hz hg h
  | agg cs =>
    obtain ⟨vs, h1, h2, h3⟩ := h
    exact ⟨vs, h1, h2, fun k x hk => by
      obtain ⟨u, h4, h5⟩ := h3 k x hk
      exact ⟨u, h4, h5.ok (List.all_eq_true.1 hz x (List.mem_of_getElem? hk)) hg⟩⟩
theorem RA.ok {zs : List Nat} {x : AV} {v : Value} (hz : okA zs x = true) (hg : ∀ n ∈ zs, g' n = g n) (h : RA P w R B g x v) : RA P w R B g' x v := by
  cases x with
  | s x => exact RS.ok hz hg h
  | tup xs =>
    obtain ⟨vs, h1, h2, h3⟩ := h
    exact ⟨vs, h1, h2, fun k x hk => by
      obtain ⟨u, h4, h5⟩ := h3 k x hk
      exact ⟨u, h4, h5.ok (List.all_eq_true.1 hz x (List.mem_of_getElem? hk)) hg⟩⟩
theorem ROw.ok {zs : List Nat} {n : Nat} {e : TypeId} {els : List (List CV)} (hn : n ∈ zs) (hz : els.all (·.all (okC zs)) = true) (hg : ∀ n ∈ zs, g' n = g n) (h : ROw P w R B g n e els) : ROw P w R B g' n e els := by
  rcases h with ⟨h1, h2⟩ | ⟨b, cur, h1, h2, h3, h4, h5⟩
  · exact .inl ⟨(hg n hn).trans h1, h2⟩
  · exact .inr ⟨b, cur, (hg n hn).trans h1, h2, h3, h4, fun j k cs x hj hk => by
      obtain ⟨u, h6, h7⟩ := h5 j k cs x hj hk
      exact ⟨u, h6, h7.ok (List.all_eq_true.1 (List.all_eq_true.1 hz cs (List.mem_of_getElem? hj)) x (List.mem_of_getElem? hk)) hg⟩⟩
theorem RO.ok {zs : List Nat} {n : Nat} {o : Ob} (hn : n ∈ zs) (hz : okO zs o = true) (hg : ∀ n ∈ zs, g' n = g n) (h : RO P w R B g n o) : RO P w R B g' n o := by
  cases o with
  | row e els => exact ROw.ok hn hz hg h
  | prow e els => exact ROw.ok hn (by simp [pvs, List.all_eq_true, okC]) hg h
  | mp es =>
    obtain ⟨b, ents, clock, h1, h2⟩ := h
    exact ⟨b, ents, clock, (hg n hn).trans h1, h2⟩
  | pool e rows =>
    obtain ⟨⟨bs, h1, h2⟩, h3⟩ := h
    exact ⟨⟨bs, (hg n hn).trans h1, h2⟩, by rw [hg n hn]; exact h3⟩
  | trow e p lens => exact ROw.ok hn (List.all_eq_true.2 fun cs hcs => by
      obtain ⟨j, l, rfl⟩ := mem_tcells hcs
      simpa [okC, okO] using hz) hg h
  | unk => trivial

/-- a larger set of what may be read -/
theorem RPV.more (hb : ∀ b, B b → B' b) {p : PV} {v : Value} (h : RPV w R B p v) : RPV w R B' p v := by
  induction h with
  | sc h => exact .sc h
  | emp => exact .emp
  | xs val hn hq hc hs hv _ ih => exact .xs val hn (pick2_mono (fun _ h => h) hb hq) hc hs hv ih
theorem RC.more (hb : ∀ b, B b → B' b) {x : CV} {v : Value} (h : RC P w R B g x v) : RC P w R B' g x v := by
  refine ⟨h.1, ?_⟩
  have h2 := h.2
  cases x with
  | pv p => exact RPV.more hb h2
  | px q cells =>
    obtain ⟨a, h3, h4, h5⟩ := h2
    exact ⟨a, h3, pick2_mono (fun _ h => h) hb h4, fun k p hk => by
      obtain ⟨u, h6, h7⟩ := h5 k p hk
      exact ⟨u, h6, h7.more hb⟩⟩
  | _ => exact h2
theorem RS.more (hb : ∀ b, B b → B' b) {x : SV} {v : Value} (h : RS P w R B g x v) : RS P w R B' g x v := by
  cases x with
  | c x => exact RC.more hb h
  | agg cs =>
    obtain ⟨vs, h1, h2, h3⟩ := h
    exact ⟨vs, h1, h2, fun k x hk => by
      obtain ⟨u, h4, h5⟩ := h3 k x hk
      exact ⟨u, h4, h5.more hb⟩⟩
theorem RA.more (hb : ∀ b, B b → B' b) {x : AV} {v : Value} (h : RA P w R B g x v) : RA P w R B' g x v := by
  cases x with
  | s x => exact RS.more hb h
  | tup xs =>
    obtain ⟨vs, h1, h2, h3⟩ := h
    exact ⟨vs, h1, h2, fun k x hk => by
      obtain ⟨u, h4, h5⟩ := h3 k x hk
      exact ⟨u, h4, h5.more hb⟩⟩
theorem ROw.more (hb : ∀ b, B b → B' b) {n : Nat} {e : TypeId} {els : List (List CV)} (h : ROw P w R B g n e els) : ROw P w R B' g n e els := by
  rcases h with h | ⟨b, cur, h1, h2, h3, h4, h5⟩
  · exact .inl h
  · exact .inr ⟨b, cur, h1, h2, h3, h4, fun j k cs x hj hk => by
      obtain ⟨u, h6, h7⟩ := h5 j k cs x hj hk
      exact ⟨u, h6, h7.more hb⟩⟩
theorem RO.more (hb : ∀ b, B b → B' b) {n : Nat} {o : Ob} (h : RO P w R B g n o) : RO P w R B' g n o := by
  cases o with
  | row e els => exact ROw.more hb h
  | prow e els => exact ROw.more hb h
  | mp es => exact h
  | pool e rows => exact ⟨h.1, fun k els hk => by
      rcases h.2 k els hk with h1 | ⟨b, cur, h1, h2, h3, h4, h5⟩
      · exact .inl h1
      · exact .inr ⟨b, cur, h1, h2, h3, h4, fun j i cs x hj hi => by
          obtain ⟨u, h6, h7⟩ := h5 j i cs x hj hi
          exact ⟨u, h6, h7.more hb⟩⟩⟩
  | trow e p lens => exact ROw.more hb h
  | unk => trivial
end

/-- The contract of a function: called with such arguments, own objects as told, it returns such a value and leaves objects as told. What it returns is new, or own. -/
def Fn (P : Program) (f : FuncId) (args : List SV) (us : Mem) (v : AV) (df : Mem) (W X : List Nat) : Prop :=
  ∀ (R B : Nat → Prop) (g : Nat → GS) (w : World) (vs : List Value), WF R B g w → vs.length = args.length → (∀ (k : Nat) x, args[k]? = some x → ∃ u, vs[k]? = some u ∧ RS P w R B g x u) → (∀ p ∈ us, RO P w R B g p.1 p.2) →
    Calls P f vs.toArray w fun e w' => ∃ u R' B' g', e = .returned u ∧ Adv R B g w W X R' B' g' w' ∧ (∀ b, R' b → R b ∨ w.heap.size ≤ b) ∧ RA P w' R' R' g' v u ∧ ∀ p ∈ df, RO P w' R' R' g' p.1 p.2

/-- how a result is kept in the state -/
def RvOk (P : Program) (σ : Slots) (m : Mem) : ResultVar → SV → Prop
  | .tmp t, x => lk σ t = some (.s x)
  | .cell t T, x => ∃ n e cells, lk σ t = some (Cc (.pl n 0)) ∧ lk m n = some (.row e [cells]) ∧ x = .agg cells ∧ agB P T = some true ∧ szP P T = cells.length ∧ ∃ i, P.info? T = some i
def RvL (P : Program) (σ : Slots) (m : Mem) : List ResultVar → List SV → Prop
  | [], [] => True
  | r :: rs, x :: xs => RvOk P σ m r x ∧ RvL P σ m rs xs
  | _, _ => False
/-- The result value, of some results. -/
def resA : List SV → AV
  | [x] => .s x
  | xs => .tup xs

section
variable {P : Program} {C : Ctx} {σ : Slots} {m : Mem} {R B : Nat → Prop} {g : Nat → GS} {a : Act} {w : World}

def resOne (tmps : Array Value) : ResultVar → Sem Value
  | .tmp t => pure (tmps.getD t undef)
  | .cell c t => do loadVar t (← asAddr (tmps.getD c undef))
theorem results_eq (fn : Func) (tmps : Array Value) : results fn tmps = (do let vs ← fn.results.mapM (resOne tmps); pure (if h : vs.size = 1 then vs[0] else .tuple vs)) := by
  have : (fun | .tmp t => pure (tmps.getD t undef) | .cell c t => do loadVar t (← asAddr (tmps.getD c undef)) : ResultVar → Sem Value) = resOne tmps := by
    funext x
    cases x <;> rfl
  rw [← this]
  rfl

theorem RvOk.run (hs : St P C σ m R B g a w) {r : ResultVar} {x : SV} (h : RvOk P σ m r x) :
    ∃ u, (resOne a.tmps r).run P w = .ok u w ∧ RS P w R B g x u := by
  cases r with
  | tmp t => exact ⟨a.tmps.getD t undef, rfl, hs.sl t _ h⟩
  | cell t T =>
    obtain ⟨n, e, cells, h1, h2, rfl, h3, h4, i, hi⟩ := h
    obtain ⟨_, b, k1, k2⟩ := hs.sl t _ h1
    have hro := hs.ob n _ h2
    have hcell := (own_cells hro k1 (j := 0) rfl).2
    obtain ⟨us, k3, k4, k5⟩ := cells_list (T := fun u k => w.cell? ⟨b, k, none⟩ = some u) (Rl := fun p u => RC P w R B g p u) cells 0 (fun k x hk => by
      obtain ⟨u, h5, h6⟩ := hcell k x hk
      rw [Nat.zero_mul] at h5
      exact ⟨u, h5, h6⟩)
    refine ⟨.agg us.toArray, ?_, us, rfl, k3, k5⟩
    have hl := run_loadCells_list (P := P) w ⟨b, 0, none⟩ us (fun j v hj => by rw [add_lit]; simpa using k4 j v hj)
    simp [resOne, k2, asAddr, loadVar, run_isAgg h3, run_sizeOf hi, h4, ← k3, hl]

theorem RvL.run (hs : St P C σ m R B g a w) : ∀ {rs : List ResultVar} {xs : List SV}, RvL P σ m rs xs →
    ∃ us : List Value, (rs.mapM (resOne a.tmps)).run P w = .ok us w ∧ us.length = xs.length ∧ ∀ (k : Nat) x, xs[k]? = some x → ∃ u, us[k]? = some u ∧ RS P w R B g x u
  | [], [], _ => ⟨[], rfl, rfl, fun k x hk => by simp at hk⟩
  | [], _ :: _, h => h.elim
  | _ :: _, [], h => h.elim
  | r :: rs, x :: xs, h => by
    obtain ⟨u, h1, h2⟩ := RvOk.run hs h.1
    obtain ⟨us, h3, h4, h5⟩ := RvL.run hs h.2
    refine ⟨u :: us, ?_, by simp [h4], fun k y hk => ?_⟩
    · simp only [List.mapM_cons, Sem.run_bind]
      rw [h1]
      simp only [Result.andThen_ok, h3, Sem.run_pure]
    · cases k with
      | zero => simp at hk; subst hk; exact ⟨u, rfl, h2⟩
      | succ k => exact h5 k y (by simpa using hk)

theorem RvL.results (hs : St P C σ m R B g a w) {fn : Func} {xs : List SV} (h : RvL P σ m fn.results.toList xs) : ∃ u, (results fn a.tmps).run P w = .ok u w ∧ RA P w R B g (resA xs) u := by
  obtain ⟨us, h1, h2, h3⟩ := RvL.run hs h
  have hm : (fn.results.mapM (resOne a.tmps)).run P w = .ok us.toArray w := by
    rw [Array.mapM_eq_mapM_toList]
    simp only [Sem.run_map, h1, Result.andThen_ok]
  rw [results_eq]
  simp only [Sem.run_bind]
  rw [hm]
  simp only [Result.andThen_ok, Sem.run_pure]
  refine ⟨_, rfl, ?_⟩
  cases xs with
  | nil =>
    have : us = [] := List.eq_nil_of_length_eq_zero (by simpa using h2)
    subst this
    exact ⟨[], by simp, rfl, fun k x hk => by simp at hk⟩
  | cons x xs =>
    cases xs with
    | nil =>
      obtain ⟨u, hu, hr⟩ := h3 0 x rfl
      match us, h2, hu with
      | [u'], _, hu =>
        simp at hu
        subst hu
        show RS P w R B g x _
        simpa using hr
    | cons y ys =>
      have hne : ¬ us.toArray.size = 1 := by simp only [List.size_toArray, h2, List.length_cons]; omega
      rw [dif_neg hne]
      exact ⟨us, rfl, h2, h3⟩
end

def LkA (m : Mem) (df : Mem) : Prop := ∀ p ∈ df, lk m p.1 = some p.2
theorem LkL.all {m : Mem} : ∀ {df : Mem}, LkL m df → LkA m df
  | [], _ => fun p hp => by cases hp
  | (n, o) :: r, h => fun p hp => by
    cases hp with
    | head => exact h.1
    | tail _ hp => exact LkL.all h.2 p hp

/-- the slots that hold the arguments -/
def argSl : Nat → List SV → Slots
  | _, [] => []
  | k, x :: xs => (k, .s x) :: argSl (k + 1) xs
theorem lk_argSl : ∀ (xs : List SV) (k t : Nat) (v : AV), lk (argSl k xs) t = some v → ∃ x, v = .s x ∧ k ≤ t ∧ xs[t - k]? = some x
  | [], _, _, _, h => by cases h
  | x :: xs, k, t, v, h => by
    change (bif Nat.beq k t then some (AV.s x) else lk (argSl (k + 1) xs) t) = some v at h
    cases hb : Nat.beq k t with
    | true =>
      rw [hb, cond_true] at h
      injection h with h
      have := Nat.eq_of_beq_eq_true hb
      subst this
      exact ⟨x, h.symm, Nat.le_refl _, by simp⟩
    | false =>
      rw [hb, cond_false] at h
      obtain ⟨y, h1, h2, h3⟩ := lk_argSl xs (k + 1) t v h
      refine ⟨y, h1, by omega, ?_⟩
      rw [show t - k = (t - (k + 1)) + 1 by omega, List.getElem?_cons_succ]
      exact h3

/-- A body proves a contract. W: the own objects that came in; P: those of them that stay where they are. -/
theorem Fn.of_body {P : Program} {f : FuncId} {fn : Func} {c : Code} {args : List SV} {us df : Mem} {pn X : List Nat} {N : Nat} {τ : Type} {M : Option τ} {rs : τ → List SV} {dfs : τ → Mem} (hf : P.funcs[f]? = some fn) (hb : fn.body = some c) (hN : fn.ntmps = N)
    (hargs : args.length ≤ N) (hside : (subL (keys us) (pn ++ X) && disL X pn && subL pn (keys us)) = true)
    (h : ∀ w0 U0 R0 g0, (∀ b, U0 b → ∃ n ∈ keys us, (g0 n).has b) → AWR P ⟨w0, U0, R0, g0, N, pn⟩ [.code c] (argSl 0 args) us M fun t e σ m => (e = .normal ∨ e = .ret) ∧ RvL P σ m fn.results.toList (rs t) ∧ LkL m (dfs t) ∧ subL (keys us) (keys (dfs t)) = true ∧ subL X (keys (dfs t)) = true ∧ PermA (resA (rs t)) ∧ (∀ p ∈ dfs t, PermO p.2) ∧ okA (keys us ++ X) (resA (rs t)) = true ∧ (dfs t).all (fun p => (keys us ++ X).elem p.1 && okO (keys us ++ X) p.2) = true) :
    ∀ t, M = some t → Fn P f args us (resA (rs t)) (dfs t) (keys us) X := by
  intro t ht R B g w vs hw hlen hvs hus
  simp only [Bool.and_eq_true] at hside
  obtain ⟨⟨hs1, hs2⟩, hs3⟩ := hside
  let U0 : Nat → Prop := fun b => ∃ n ∈ keys us, (g n).has b
  let C : Ctx := ⟨w, U0, R, g, N, pn⟩
  have hvsl : vs.length ≤ N := by rw [hlen]; exact hargs
  refine calls_of_wp hf hb ?_
  have hSt : St P C (argSl 0 args) us R B g { tmps := vs.toArray ++ Array.replicate (fn.ntmps - vs.toArray.size) undef, defers := [] } w := by
    refine ⟨hw, rfl, by simp [C, hN]; omega, fun t v hl => ?_, fun n o hl => ?_, fun n o b hl hg => ?_, fun b hb => .inl hb, fun _ h => h, rfl, rfl, rfl, Nat.le_refl _, fun _ _ _ => rfl, fun _ _ => rfl, fun _ _ _ cur e _ hh => ⟨cur, hh, rfl⟩⟩
    · obtain ⟨x, rfl, _, h3⟩ := lk_argSl args 0 t v hl
      obtain ⟨u, hu, hr⟩ := hvs _ x h3
      have hlt : t < vs.length := by rw [hlen]; exact (List.getElem?_eq_some_iff.1 h3).1
      have : (vs.toArray ++ Array.replicate (fn.ntmps - vs.toArray.size) undef).getD t undef = u := by
        rw [Array.getD_eq_getD_getElem?, Array.getElem?_append_left (by simpa using hlt)]
        simp only [Nat.sub_zero] at hu
        simp [hu]
      rw [this]
      exact hr
    · have hm : ∀ (us : Mem), (∀ p ∈ us, RO P w R B g p.1 p.2) → lk us n = some o → RO P w R B g n o := by
        intro us
        induction us with
        | nil => intro _ h; cases h
        | cons q r ih =>
          intro hq h
          obtain ⟨k, v⟩ := q
          change (bif Nat.beq k n then some v else lk r n) = some o at h
          cases hb : Nat.beq k n with
          | true =>
            rw [hb, cond_true] at h
            injection h with h
            have := Nat.eq_of_beq_eq_true hb
            subst this
            subst h
            exact hq (k, v) List.mem_cons_self
          | false =>
            rw [hb, cond_false] at h
            exact ih (fun p hp => hq p (List.mem_cons_of_mem _ hp)) h
      exact hm us hus hl
    · right
      have hm : ∀ (us : Mem), lk us n = some o → n ∈ keys us := by
        intro us
        induction us with
        | nil => intro h; cases h
        | cons q r ih =>
          intro h
          obtain ⟨k, v⟩ := q
          change (bif Nat.beq k n then some v else lk r n) = some o at h
          cases hb : Nat.beq k n with
          | true => have := Nat.eq_of_beq_eq_true hb; subst this; exact List.mem_cons_self
          | false =>
            rw [hb, cond_false] at h
            exact List.mem_cons_of_mem _ (ih h)
      exact ⟨n, hm us hl, hg⟩
  refine wp_mono (h w U0 R g (fun b hb => hb) t ht R B g _ w hSt) fun e a' w' hp => ?_
  obtain ⟨σ', m', R', B', g', hs', he, hrv, hdf, hk1, hk2, hpa, hpo, hoa, hoo⟩ := hp
  obtain ⟨u, hu1, hu2⟩ := RvL.results hs' hrv
  have hdfa := hdf.all
  -- the names that come out
  let Z : Nat → Prop := fun n => n ∈ keys us ∨ n ∈ X
  have hZdf : ∀ n, Z n → n ∈ keys (dfs t) := fun n hn => hn.elim (subL_spec hk1 n) (subL_spec hk2 n)
  classical
  let g2 : Nat → GS := fun n => if Z n then g' n else g n
  have hg2Z : ∀ n, Z n → g2 n = g' n := fun n hn => if_pos hn
  have hg2N : ∀ n, ¬ Z n → g2 n = g n := fun n hn => if_neg hn
  have hZow : ∀ n, Z n → ∀ b, (g' n).has b → w.heap.size ≤ b ∨ ∃ k ∈ keys us, (g k).has b := fun n hn b hb => by
    obtain ⟨o, ho⟩ := mem_keys (hZdf n hn)
    exact hs'.ow n o b (hdfa (n, o) ho) hb
  have hRB : ∀ b, R' b → R b ∨ w.heap.size ≤ b := hs'.perm
  have hRR : ∀ b, R b → R' b := hs'.r0
  have hRlt : ∀ b, R' b → b < w'.heap.size := fun b hb => hs'.wf.lt b (hs'.wf.rb b hb)
  have hwf : WF R' (fun b => B b ∨ R' b) g2 w' := by
    refine ⟨fun b hb => .inr hb, fun b hb => hb.elim (fun hb => Nat.lt_of_lt_of_le (hw.lt b hb) hs'.size) (hRlt b), fun n b hg => ?_, fun n k b hn hk => ?_, fun n j k b hj hk => ?_⟩
    · by_cases hn : Z n
      · rw [hg2Z n hn] at hg
        have h1 := hs'.wf.ownH n b hg
        refine ⟨fun hB => ?_, h1.2⟩
        rcases hB with hB | hB
        · rcases hZow n hn b hg with h2 | ⟨k, _, h2⟩
          · exact absurd (hw.lt b hB) (by omega)
          · exact (hw.ownH k b h2).1 hB
        · exact h1.1 (hs'.wf.rb b hB)
      · rw [hg2N n hn] at hg
        have h1 := hw.ownH n b hg
        refine ⟨fun hB => ?_, Nat.lt_of_lt_of_le h1.2 hs'.size⟩
        rcases hB with hB | hB
        · exact h1.1 hB
        · rcases hRB b hB with h2 | h2
          · exact h1.1 (hw.rb b h2)
          · exact absurd h1.2 (by omega)
    · have cross : ∀ n k b, Z n → ¬ Z k → (g' n).has b → (g k).has b → False := fun n k b hn hk h1 h2 => by
        rcases hZow n hn b h1 with h3 | ⟨j, hj, h3⟩
        · exact absurd (hw.ownH k b h2).2 (by omega)
        · exact hk (.inl (hw.injH j k b h3 h2 ▸ hj))
      by_cases hnZ : Z n <;> by_cases hkZ : Z k
      · rw [hg2Z n hnZ] at hn
        rw [hg2Z k hkZ] at hk
        exact hs'.wf.injH n k b hn hk
      · rw [hg2Z n hnZ] at hn
        rw [hg2N k hkZ] at hk
        exact (cross n k b hnZ hkZ hn hk).elim
      · rw [hg2N n hnZ] at hn
        rw [hg2Z k hkZ] at hk
        exact (cross k n b hkZ hnZ hk hn).elim
      · rw [hg2N n hnZ] at hn
        rw [hg2N k hkZ] at hk
        exact hw.injH n k b hn hk
    · by_cases hn : Z n
      · rw [hg2Z n hn] at hj hk
        exact hs'.wf.nd n j k b hj hk
      · rw [hg2N n hn] at hj hk
        exact hw.nd n j k b hj hk
  have hpn : ∀ n ∈ pn, n ∈ keys us := subL_spec hs3
  have hadv : Adv R B g w (keys us) X R' (fun b => B b ∨ R' b) g2 w' := by
    refine ⟨hwf, hRR, fun b hb => .inl hb, hs'.os, hs'.tape, hs'.output, hs'.size, fun b hb hnW => hs'.heap b hb fun hU => ?_, fun n hn => ?_, fun n hn b hb => ?_, fun n hnW hnX b cur e' hg hh => ?_⟩
    · obtain ⟨n, hn, hg⟩ := hU
      exact hnW n hn hg
    · by_cases hnZ : Z n
      · rw [hg2Z n hnZ]
        have hnu : n ∈ keys us := hnZ.resolve_right hn
        exact hs'.pin n ((List.mem_append.1 (subL_spec hs1 n hnu)).resolve_right hn)
      · exact hg2N n hnZ
    · rw [hg2Z n (.inr hn)] at hb
      exact hZow n (.inr hn) b hb
    · have hnp : n ∈ pn := (List.mem_append.1 (subL_spec hs1 n hnW)).resolve_right hnX
      exact hs'.shp n hnp b cur e' hg hh
  have hgz : ∀ n ∈ keys us ++ X, g2 n = g' n := fun n hn => hg2Z n (List.mem_append.1 hn)
  have hres : bodyPost P fn (fun e w' => ∃ u R' B' g', e = .returned u ∧ Adv R B g w (keys us) X R' B' g' w' ∧ (∀ b, R' b → R b ∨ w.heap.size ≤ b) ∧ RA P w' R' R' g' (resA (rs t)) u ∧ ∀ p ∈ dfs t, RO P w' R' R' g' p.1 p.2) .ret a' w' := by
    refine ⟨hs'.nd, u, hu1, u, R', _, g2, rfl, hadv, hRB, ?_, ?_⟩
    · exact (hu2.perm hpa).ok hoa hgz
    · intro p hp
      have hz := List.all_eq_true.1 hoo p hp
      simp only [Bool.and_eq_true] at hz
      exact ((hs'.ob p.1 p.2 (hdfa p hp)).perm (hpo p hp)).ok (List.mem_of_elem_eq_true hz.1) hz.2 hgz
  rcases he with rfl | rfl
  · exact hres
  · exact hres

/-! ### calls -/
/-- told of less lasting memory -/
inductive QW : PV → PV → Prop
  | sc {v : Value} : QW (.sc v) (.sc v)
  | xs {q q' : Bool} {els els' : List (List PV)} (hq : q' = true → q = true) (hl : els'.length = els.length) (hc : ∀ (j : Nat) cs cs', els[j]? = some cs → els'[j]? = some cs' → cs'.length = cs.length) (h : ∀ (j k : Nat) cs cs' p p', els[j]? = some cs → els'[j]? = some cs' → cs[k]? = some p → cs'[k]? = some p' → QW p p') : QW (.xs q els) (.xs q' els')
theorem pick2_weak {R B : Nat → Prop} {q q' : Bool} {b : Nat} (hRB : ∀ b, R b → B b) (hq : q' = true → q = true) (h : pick2 R B q b) : pick2 R B q' b := by
  cases q' with
  | true => rw [hq rfl] at h; exact h
  | false =>
    cases q with
    | true => exact hRB b h
    | false => exact h
theorem RPV.weakQ {w : World} {R B : Nat → Prop} (hRB : ∀ b, R b → B b) {p : PV} {v : Value} (h : RPV w R B p v) : ∀ {p' : PV}, QW p p' → RPV w R B p' v := by
  induction h with
  | sc h => intro p' hq; cases hq; exact .sc h
  | emp =>
    intro p' hq
    cases hq with
    | xs hq hl hc h =>
      have := List.eq_nil_of_length_eq_zero hl
      subst this
      exact .emp
  | @xs q els a c s n val hn hb hc hs hv hr ih =>
    intro p' hq
    cases hq with
    | @xs _ q' _ els' hqq hl hcc hh =>
      refine .xs (s := s) val (hn.trans hl.symm) (pick2_weak hRB hqq hb) (by omega) (fun cs' hcs' => ?_) (fun j k cs' p' hj hk => ?_) (fun j k cs' p' hj hk => ?_)
      · obtain ⟨j, hj, rfl⟩ := List.mem_iff_getElem.1 hcs'
        have h1 : els[j]? = some (els[j]'(by omega)) := List.getElem?_eq_getElem (by omega)
        rw [hcc j _ _ h1 (List.getElem?_eq_getElem hj)]
        exact hs _ (List.mem_of_getElem? h1)
      · have hjl := (List.getElem?_eq_some_iff.1 hj).1
        have h1 : els[j]? = some (els[j]'(by omega)) := List.getElem?_eq_getElem (by omega)
        have hkl := (List.getElem?_eq_some_iff.1 hk).1
        have h2 := hcc j _ _ h1 hj
        have h3 : (els[j]'(by omega))[k]? = some ((els[j]'(by omega))[k]'(by omega)) := List.getElem?_eq_getElem (by omega)
        exact hv _ _ _ _ h1 h3
      · have hjl := (List.getElem?_eq_some_iff.1 hj).1
        have h1 : els[j]? = some (els[j]'(by omega)) := List.getElem?_eq_getElem (by omega)
        have hkl := (List.getElem?_eq_some_iff.1 hk).1
        have h2 := hcc j _ _ h1 hj
        have h3 : (els[j]'(by omega))[k]? = some ((els[j]'(by omega))[k]'(by omega)) := List.getElem?_eq_getElem (by omega)
        exact ih _ _ _ _ h1 h3 (hh _ _ _ _ _ _ h1 hj h3 hk)
/-- How an argument is seen by the function called: the objects of sh are lent. -/
inductive ShC (sh : Mem) : CV → CV → Prop
  | same {x : CV} (h : junkC (keys sh) x = x) : ShC sh x x
  | weak {x : CV} {p p' : PV} (h : ShC sh x (.pv p)) (hq : QW p p') : ShC sh x (.pv p')
  | loc {n : Nat} {e : TypeId} {els : List (List PV)} (h : lk sh n = some (.prow e els)) : ShC sh (.loc n 0 els.length) (.pv (.xs false els))
  | nil {q : Bool} : ShC sh (.pv (.sc (.slice none 0 0))) (.pv (.xs q []))
  | trow {n p : Nat} {e e2 : TypeId} {rows : List (List (List PV))} {lens : List Nat} (h1 : lk sh n = some (.trow e p lens)) (h2 : lk sh p = some (.pool e2 rows)) (hl : lens = rows.map List.length) : ShC sh (.loc n 0 lens.length) (.pv (.xs false (rows.map fun r => [.xs false r])))
  | tl {p k : Nat} {e2 : TypeId} {rows : List (List (List PV))} {r : List (List PV)} (h2 : lk sh p = some (.pool e2 rows)) (hk : rows[k]? = some r) : ShC sh (.tl p k 0 r.length) (.pv (.xs false r))
inductive ShL (sh : Mem) : List CV → List CV → Prop
  | nil : ShL sh [] []
  | cons {x y : CV} {xs ys : List CV} (h : ShC sh x y) (t : ShL sh xs ys) : ShL sh (x :: xs) (y :: ys)
inductive ShS (sh : Mem) : SV → SV → Prop
  | c {x y : CV} (h : ShC sh x y) : ShS sh (.c x) (.c y)
  | agg {xs ys : List CV} (h : ShL sh xs ys) : ShS sh (.agg xs) (.agg ys)
inductive ShA (sh : Mem) : List SV → List SV → Prop
  | nil : ShA sh [] []
  | cons {x y : SV} {xs ys : List SV} (h : ShS sh x y) (t : ShA sh xs ys) : ShA sh (x :: xs) (y :: ys)

section
variable {P : Program} {w : World} {R B : Nat → Prop} {g : Nat → GS}

/-- the state as the function called sees it: what is lent is only read -/
def lentB (sh : Mem) (B : Nat → Prop) (g : Nat → GS) : Nat → Prop := fun b => B b ∨ ∃ n ∈ keys sh, (g n).has b
def lentG (sh : Mem) (g : Nat → GS) : Nat → GS := fun n => if n ∈ keys sh then .dead else g n
theorem lentG_in {sh : Mem} {n : Nat} (h : n ∈ keys sh) : lentG sh g n = .dead := by unfold lentG; exact if_pos h
theorem lentG_out {sh : Mem} {n : Nat} (h : n ∉ keys sh) : lentG sh g n = g n := by unfold lentG; exact if_neg h

theorem lent_wf (hw : WF R B g w) (sh : Mem) : WF R (lentB sh B g) (lentG sh g) w := by
  refine ⟨fun b hb => .inl (hw.rb b hb), fun b hb => hb.elim (hw.lt b) fun ⟨n, _, hg⟩ => (hw.ownH n b hg).2, fun n b hg => ?_, fun n k b hn hk => ?_, fun n j k b hj hk => ?_⟩
  · by_cases hn : n ∈ keys sh
    · rw [lentG_in hn] at hg; exact hg.elim
    · rw [lentG_out hn] at hg
      refine ⟨fun hB => ?_, (hw.ownH n b hg).2⟩
      rcases hB with hB | ⟨k, hk, hg'⟩
      · exact (hw.ownH n b hg).1 hB
      · exact hn (hw.injH k n b hg' hg ▸ hk)
  · by_cases hn1 : n ∈ keys sh
    · rw [lentG_in hn1] at hn; exact hn.elim
    · by_cases hk1 : k ∈ keys sh
      · rw [lentG_in hk1] at hk; exact hk.elim
      · rw [lentG_out hn1] at hn
        rw [lentG_out hk1] at hk
        exact hw.injH n k b hn hk
  · by_cases hn : n ∈ keys sh
    · rw [lentG_in hn] at hj; cases hj
    · rw [lentG_out hn] at hj hk
      exact hw.nd n j k b hj hk
theorem lent_adv (hw : WF R B g w) (sh : Mem) : Adv R B g w [] (keys sh) R (lentB sh B g) (lentG sh g) w :=
  ⟨lent_wf hw sh, fun _ h => h, fun _ h => .inl h, rfl, rfl, rfl, Nat.le_refl _, fun _ _ _ => rfl, fun n hn => lentG_out hn, fun n hn b hb => (by rw [lentG_in hn] at hb; exact hb.elim), fun n hn => (by cases hn)⟩

theorem lk_mem {α : Type} : ∀ {l : List (Nat × α)} {n : Nat} {o : α}, lk l n = some o → (n, o) ∈ l
  | [], _, _, h => by cases h
  | (k, v) :: r, n, o, h => by
    change (bif Nat.beq k n then some v else lk r n) = some o at h
    cases hb : Nat.beq k n with
    | true =>
      rw [hb, cond_true] at h
      injection h with h
      have := Nat.eq_of_beq_eq_true hb
      subst this
      subst h
      exact List.mem_cons_self
    | false =>
      rw [hb, cond_false] at h
      exact List.mem_cons_of_mem _ (lk_mem h)

/-- a pool's row, read -/
theorem PRow.rpv {B2 : Nat → Prop} (hb : ∀ b, B b → B2 b) {p k : Nat} {e : TypeId} {els : List (List PV)} {v : Value} (hx : RC P w R B g (.tl p k 0 els.length) v) (hr : PRow P w R B ((g p).at k) e els) (hB : ∀ b, (g p).has b → B2 b) : RPV w R B2 (.xs false els) v := by
  rcases hx.2 with ⟨h1, _, h3, h4⟩ | ⟨_, h2, _⟩ | ⟨b, cap, cur, e', k1, k2, k3, k4, k5, k6⟩
  · have : els = [] := List.eq_nil_of_length_eq_zero h3
    subst this
    subst h4
    exact .emp
  · exact absurd rfl h2
  · rcases hr with ⟨h1, _⟩ | ⟨b', cur', h1, h2, h3, h4, h5⟩
    · rw [k1] at h1; cases h1
    · rw [k1] at h1
      injection h1 with h1
      subst h1
      rw [k2] at h2
      injection h2 with h2
      injection h2 with h2 h6 h7
      subst h2
      subst h6
      subst k6
      refine .xs (s := szP P e') (fun j i => cur.getD (j * szP P e' + i) undef) rfl (hB b (GS.has_at k1)) k3 h3 (fun j i cs q hj hi => ?_) (fun j i cs q hj hi => ?_)
      · obtain ⟨u, hu, _⟩ := h5 j i cs q hj hi
        rw [Nat.zero_mul, add_lit, Nat.zero_add, row_cell k2, hu]
        simp [Array.getD_eq_getD_getElem?, hu]
      · obtain ⟨u, hu, hr⟩ := h5 j i cs q hj hi
        have : cur.getD (j * szP P e' + i) undef = u := by simp [Array.getD_eq_getD_getElem?, hu]
        rw [this]
        exact RPV.more hb hr
theorem ShC.rc {sh : Mem} (hw : WF R B g w) (hsh : ∀ p ∈ sh, RO P w R B g p.1 p.2) {x y : CV} {v : Value} (h : ShC sh x y) (hx : RC P w R B g x v) : RC P w R (lentB sh B g) (lentG sh g) y v := by
  induction h with
  | weak h hq ih => exact ⟨(ih hx).1, RPV.weakQ (lent_wf hw sh).rb (ih hx).2 hq⟩
  | same h =>
    have := (lent_adv hw sh).rc hw hx
    rwa [h] at this
  | nil =>
    obtain ⟨_, h2⟩ := hx
    cases h2
    exact ⟨rfl, .emp⟩
  | @loc n e els h =>
    have hm := lk_mem h
    have hro : ROw P w R B g n e (pvs els) := hsh (n, .prow e els) hm
    have hnk : n ∈ keys sh := List.mem_map.2 ⟨_, hm, rfl⟩
    refine ⟨hx.1, ?_⟩
    rcases hx.2 with ⟨h1, _, h3, h4⟩ | ⟨_, h2, _⟩ | ⟨b, cap, cur, e', k1, k2, k3, k4, k5, k6⟩
    · have : els = [] := List.eq_nil_of_length_eq_zero h3
      subst this
      subst h4
      exact .emp
    · exact absurd rfl h2
    · rcases hro with ⟨h1, _⟩ | ⟨b', cur', h1, h2, h3, h4, h5⟩
      · rw [k1] at h1; cases h1
      · rw [k1] at h1
        injection h1 with h1
        subst h1
        rw [k2] at h2
        injection h2 with h2
        injection h2 with h2 h6 h7
        subst h2
        subst h6
        subst k6
        have hval : ∀ j k cs p, els[j]? = some cs → cs[k]? = some p → ∃ u, cur[j * szP P e' + k]? = some u ∧ RC P w R B g (.pv p) u := fun j k cs p hj hk => by
          have := h5 j k (cs.map .pv) (.pv p) (by simp [pvs, hj]) (by simp [hk])
          exact this
        refine .xs (s := szP P e') (fun j k => cur.getD (j * szP P e' + k) undef) rfl (.inr ⟨n, hnk, GS.has_blk k1⟩) k3 (fun cs hcs => ?_) (fun j k cs p hj hk => ?_) (fun j k cs p hj hk => ?_)
        · have := h3 (cs.map .pv) (List.mem_map.2 ⟨cs, hcs, rfl⟩)
          simpa using this
        · obtain ⟨u, hu, _⟩ := hval j k cs p hj hk
          rw [Nat.zero_mul, add_lit, Nat.zero_add, row_cell k2, hu]
          simp [Array.getD_eq_getD_getElem?, hu]
        · obtain ⟨u, hu, hr⟩ := hval j k cs p hj hk
          have : cur.getD (j * szP P e' + k) undef = u := by simp [Array.getD_eq_getD_getElem?, hu]
          rw [this]
          exact RPV.more (fun _ h => .inl h) hr.2
  | @tl p k e2 rows r h2 hk =>
    have hm := lk_mem h2
    obtain ⟨_, hrows⟩ := hsh (p, .pool e2 rows) hm
    exact ⟨hx.1, PRow.rpv (fun _ h => .inl h) hx (hrows k r hk) fun b hb => .inr ⟨p, List.mem_map.2 ⟨_, hm, rfl⟩, hb⟩⟩
  | @trow n p e e2 rows lens h1 h2 hl =>
    have hm1 := lk_mem h1
    have hm2 := lk_mem h2
    have hro : ROw P w R B g n e (tcells p lens) := hsh (n, .trow e p lens) hm1
    obtain ⟨_, hrows⟩ := hsh (p, .pool e2 rows) hm2
    have hnk : n ∈ keys sh := List.mem_map.2 ⟨_, hm1, rfl⟩
    have hpk : p ∈ keys sh := List.mem_map.2 ⟨_, hm2, rfl⟩
    refine ⟨hx.1, ?_⟩
    rcases hx.2 with ⟨h1, _, h3, h4⟩ | ⟨_, h2, _⟩ | ⟨b, cap, cur, e', k1, k2, k3, k4, k5, k6⟩
    · have : rows = [] := List.eq_nil_of_length_eq_zero (by rw [hl] at h3; simpa using h3)
      subst this
      subst h4
      exact .emp
    · exact absurd rfl h2
    · rcases hro with ⟨h1, _⟩ | ⟨b', cur', h1, h2, h3, h4, h5⟩
      · rw [k1] at h1; cases h1
      · rw [k1] at h1
        injection h1 with h1
        subst h1
        rw [k2] at h2
        injection h2 with h2
        injection h2 with h2 h6 h7
        subst h2
        subst h6
        subst k6
        have hcell : ∀ j r, rows[j]? = some r → (tcells p lens)[j]? = some [CV.tl p j 0 r.length] := fun j r hj => by
          unfold tcells
          rw [List.getElem?_mapIdx, hl, List.getElem?_map, hj]
          rfl
        have hval : ∀ j r, rows[j]? = some r → ∃ u, cur[j * szP P e' + 0]? = some u ∧ RC P w R B g (.tl p j 0 r.length) u := fun j r hj => h5 j 0 _ _ (hcell j r hj) rfl
        have hone : ∀ (j i : Nat) cs q, (rows.map fun r => [PV.xs false r])[j]? = some cs → cs[i]? = some q → ∃ r, rows[j]? = some r ∧ i = 0 ∧ q = .xs false r := fun j i cs q hj hi => by
          rw [List.getElem?_map] at hj
          cases hr : rows[j]? with
          | none => rw [hr] at hj; cases hj
          | some r =>
            rw [hr] at hj
            injection hj with hj
            subst hj
            cases i with
            | zero => simp at hi; exact ⟨r, rfl, rfl, hi.symm⟩
            | succ i => simp at hi
        refine .xs (s := szP P e') (fun j i => cur.getD (j * szP P e' + i) undef) (by rw [hl]; simp) (.inr ⟨n, hnk, GS.has_blk k1⟩) (by rw [hl] at k3; simpa using k3) (fun cs hcs => ?_) (fun j i cs q hj hi => ?_) (fun j i cs q hj hi => ?_)
        · obtain ⟨j, hj⟩ := List.mem_iff_getElem?.1 hcs
          rw [List.getElem?_map] at hj
          cases hr : rows[j]? with
          | none => rw [hr] at hj; cases hj
          | some r =>
            rw [hr] at hj
            injection hj with hj
            subst hj
            exact h3 _ (List.mem_of_getElem? (hcell j r hr))
        · obtain ⟨r, hr, rfl, rfl⟩ := hone j i cs q hj hi
          obtain ⟨u, hu, _⟩ := hval j r hr
          have hu' : cur[j * szP P e']? = some u := hu
          rw [Nat.zero_mul, add_lit, Nat.zero_add, row_cell k2, hu]
          simp [Array.getD_eq_getD_getElem?, hu']
        · obtain ⟨r, hr, rfl, rfl⟩ := hone j i cs q hj hi
          obtain ⟨u, hu, hru⟩ := hval j r hr
          have hu' : cur[j * szP P e']? = some u := hu
          have : cur.getD (j * szP P e' + 0) undef = u := by simp [Array.getD_eq_getD_getElem?, hu']
          rw [this]
          exact PRow.rpv (fun _ h => .inl h) hru (hrows j r hr) fun b hb => .inr ⟨p, hpk, hb⟩
theorem ShL.get {sh : Mem} {xs ys : List CV} (h : ShL sh xs ys) : xs.length = ys.length ∧ ∀ (k : Nat) y, ys[k]? = some y → ∃ x, xs[k]? = some x ∧ ShC sh x y := by
  induction h with
  | nil => exact ⟨rfl, fun k y h => by simp at h⟩
  | cons h _ ih =>
    refine ⟨by simp [ih.1], fun k y hk => ?_⟩
    cases k with
    | zero => simp at hk; subst hk; exact ⟨_, rfl, h⟩
    | succ k => exact ih.2 k y (by simpa using hk)
theorem ShS.rs {sh : Mem} (hw : WF R B g w) (hsh : ∀ p ∈ sh, RO P w R B g p.1 p.2) {x y : SV} {v : Value} (h : ShS sh x y) (hx : RS P w R B g x v) : RS P w R (lentB sh B g) (lentG sh g) y v := by
  cases h with
  | c h => exact ShC.rc hw hsh h hx
  | agg h =>
    obtain ⟨h1, h2⟩ := h.get
    obtain ⟨vs, h3, h4, h5⟩ := hx
    refine ⟨vs, h3, h4.trans h1, fun k y hk => ?_⟩
    obtain ⟨x, h6, h7⟩ := h2 k y hk
    obtain ⟨u, h8, h9⟩ := h5 k x h6
    exact ⟨u, h8, h7.rc hw hsh h9⟩
theorem ShA.get {sh : Mem} {xs ys : List SV} (h : ShA sh xs ys) : xs.length = ys.length ∧ ∀ (k : Nat) y, ys[k]? = some y → ∃ x, xs[k]? = some x ∧ ShS sh x y := by
  induction h with
  | nil => exact ⟨rfl, fun k y h => by simp at h⟩
  | cons h _ ih =>
    refine ⟨by simp [ih.1], fun k y hk => ?_⟩
    cases k with
    | zero => simp at hk; subst hk; exact ⟨_, rfl, h⟩
    | succ k => exact ih.2 k y (by simpa using hk)
end

/-- Is this a function with a body, and no function of the runtime's? -/
def callB (P : Program) (f : FuncId) : Bool := match P.funcs[f]? with
  | some fn => !(fn.name == "runtime.NumGoroutine") && fn.body.isSome
  | none => false
theorem run_callFunc {P : Program} {f : FuncId} (h : callB P f = true) (args : Array Value) (w : World) : (callFunc f args).run P w = .ok (.enter f args) w := by
  unfold callB at h
  split at h
  · rename_i fn hf
    simp only [Bool.and_eq_true, Bool.not_eq_true'] at h
    have hn : fn.name ≠ "runtime.NumGoroutine" := by simpa using h.1
    have hb : fn.body ≠ none := by cases hbody : fn.body <;> simp_all
    simp [callFunc, hf, hn, hb]
  · cases h

def zipOps (ops : List Operand) (xs : List SV) : List (Operand × AV) := (ops.zip xs).map fun q => (q.1, .s q.2)
def plS (n : Nat) : SV := .c (.pl n 0)

theorem LT.call {P : Program} {o : Oper} {cf : Operand} {f : FuncId} {ops : Array Operand} {ts : Array TypeId} {caps : List Nat} {xs ys : List SV} {us sh df : Mem} {v : AV} {W X : List Nat} (hf : Fn P f (ys ++ caps.map plS) us v df W X)
    (ho : o.op = .call { callee := .value cf, args := ops, argTypes := ts }) (hb : callB P f = true) (hlen : ops.size = xs.length) (hsh : ShA sh xs ys)
    (hside : (disL (keys sh) (W ++ X ++ keys us ++ keys df ++ caps) && subL W (keys us)) = true) (hus : ∀ p ∈ us, junkO (keys sh) p.2 = p.2) : LT P o ((cf, Cc (.fn f caps)) :: zipOps ops.toList xs) (us ++ sh) v df W X := by
  intro R B g w a hw hin hu K Q hK
  simp only [Bool.and_eq_true] at hside
  obtain ⟨hdis, hWus⟩ := hside
  have hd := disL_spec hdis
  have hshro : ∀ p ∈ sh, RO P w R B g p.1 p.2 := fun p hp => hu p (List.mem_append_right _ hp)
  have hadv0 := lent_adv hw sh
  obtain ⟨_, cv, hcf, hcl, hcaps⟩ := in1 hin
  obtain ⟨hl1, hget⟩ := hsh.get
  have hvl : (ops.toList.map a.eval).length = ys.length := by rw [List.length_map, Array.length_toList, hlen, hl1]
  have hcall := hf R (lentB sh B g) (lentG sh g) w (ops.toList.map a.eval ++ cv) (lent_wf hw sh) (by rw [List.length_append, List.length_append, hvl, hcl, List.length_map]) (fun k y hk => by
    rw [List.getElem?_append] at hk ⊢
    rw [hvl]
    split at hk
    · rename_i hlt
      rw [if_pos hlt]
      obtain ⟨x, hx, hs⟩ := hget k y hk
      have hkl : k < ops.toList.length := by rw [Array.length_toList, hlen, hl1]; exact hlt
      refine ⟨a.eval ops.toList[k], by rw [List.getElem?_map, List.getElem?_eq_getElem hkl]; rfl, ?_⟩
      refine hs.rs hw hshro ?_
      have hm : (ops.toList[k], AV.s x) ∈ zipOps ops.toList xs := by
        refine List.mem_map.2 ⟨(ops.toList[k], x), ?_, rfl⟩
        refine List.mem_of_getElem? (i := k) ?_
        rw [List.getElem?_zip_eq_some]
        exact ⟨List.getElem?_eq_getElem hkl, hx⟩
      exact hin _ (List.mem_cons_of_mem _ hm)
    · rename_i hlt
      rw [if_neg hlt]
      rw [List.getElem?_map] at hk
      cases hc : caps[k - ys.length]? with
      | none => rw [hc] at hk; cases hk
      | some n =>
        rw [hc] at hk
        injection hk with hk
        subst hk
        obtain ⟨b, h1, h2⟩ := hcaps _ n hc
        have hn : n ∉ keys sh := fun hm => hd n hm (List.mem_append_right _ (List.mem_of_getElem? hc))
        exact ⟨_, h2, rfl, b, (lentG_out hn).trans h1, rfl⟩)
    (fun p hp => by
      have hn : p.1 ∉ keys sh := fun hm => hd p.1 hm (List.mem_append_left _ (List.mem_append_left _ (List.mem_append_right _ (List.mem_map.2 ⟨p, hp, rfl⟩))))
      have := hadv0.ro hw hn (by simp) (hu p (List.mem_append_left _ hp))
      rwa [hus p hp] at this)
  have hrun : (execOp a.eval o).run P w = .ok (.enter f (ops.toList.map a.eval ++ cv).toArray) w := by
    have e1 : (ops.map a.eval ++ cv.toArray) = (ops.toList.map a.eval ++ cv).toArray := by
      apply Array.ext'
      simp
    simp only [execOp, ho, resolve, hcf, Deferred.ofValue, Sem.run_bind, Sem.run_pure, Result.andThen_ok, invoke]
    first
      | (simp only [Array.empty_append, run_callFunc hb, e1]; done)
      | (simp only [Array.empty_append]; rw [← e1]; exact run_callFunc hb _ w)
  unfold Oper.wp
  rw [hrun]
  rw [Oper.upon_enter]
  refine hcall.mono fun e w' hp => ?_
  obtain ⟨u, R', B', g', rfl, had, hR, hv, hdf⟩ := hp
  -- back in the caller: what was lent is its own again
  have hshX : ∀ n ∈ keys sh, n ∉ X := fun n hn hx => hd n hn (List.mem_append_left _ (List.mem_append_left _ (List.mem_append_left _ (List.mem_append_right _ hx))))
  have hshW : ∀ n ∈ keys sh, n ∉ W := fun n hn hx => hd n hn (List.mem_append_left _ (List.mem_append_left _ (List.mem_append_left _ (List.mem_append_left _ hx))))
  have hg'sh : ∀ n ∈ keys sh, g' n = .dead := fun n hn => (had.names n (hshX n hn)).trans (lentG_in hn)
  classical
  let g2 : Nat → GS := fun n => if n ∈ keys sh then g n else g' n
  have hin2 : ∀ n, n ∈ keys sh → g2 n = g n := fun n hn => if_pos hn
  have hout2 : ∀ n, n ∉ keys sh → g2 n = g' n := fun n hn => if_neg hn
  let B2 : Nat → Prop := fun b => B b ∨ R' b
  have hold : ∀ n b, n ∈ keys sh → (g n).has b → ¬ B2 b ∧ b < w'.heap.size := fun n b hn hg => by
    have h1 := hw.ownH n b hg
    refine ⟨fun hB => ?_, Nat.lt_of_lt_of_le h1.2 had.size⟩
    rcases hB with hB | hB
    · exact h1.1 hB
    · rcases hR b hB with h2 | h2
      · exact h1.1 (hw.rb b h2)
      · exact absurd h1.2 (by omega)
  have hcross : ∀ n k b, n ∈ keys sh → k ∉ keys sh → (g n).has b → (g' k).has b → False := fun n k b hn hk h1 h2 => by
    by_cases hkX : k ∈ X
    · rcases had.fresh k hkX b h2 with h3 | ⟨j, hj, h3⟩
      · exact absurd (hw.ownH n b h1).2 (by omega)
      · have hjs : j ∉ keys sh := fun hm => hshW j hm hj
        rw [lentG_out hjs] at h3
        exact hjs (hw.injH n j b h1 h3 ▸ hn)
    · rw [had.names k hkX, lentG_out hk] at h2
      exact hk (hw.injH n k b h1 h2 ▸ hn)
  have hwf2 : WF R' B2 g2 w' := by
    refine ⟨fun b hb => .inr hb, fun b hb => hb.elim (fun hb => Nat.lt_of_lt_of_le (hw.lt b hb) had.size) fun hb => had.wf.lt b (had.wf.rb b hb), fun n b hg => ?_, fun n k b hn hk => ?_, fun n j k b hj hk => ?_⟩
    · by_cases hn : n ∈ keys sh
      · rw [hin2 n hn] at hg
        exact hold n b hn hg
      · rw [hout2 n hn] at hg
        have h1 := had.wf.ownH n b hg
        exact ⟨fun hB => h1.1 (hB.elim (fun h => had.b b (.inl h)) (had.wf.rb b)), h1.2⟩
    · by_cases h1 : n ∈ keys sh <;> by_cases h2 : k ∈ keys sh
      · rw [hin2 n h1] at hn
        rw [hin2 k h2] at hk
        exact hw.injH n k b hn hk
      · rw [hin2 n h1] at hn
        rw [hout2 k h2] at hk
        exact (hcross n k b h1 h2 hn hk).elim
      · rw [hout2 n h1] at hn
        rw [hin2 k h2] at hk
        exact (hcross k n b h2 h1 hk hn).elim
      · rw [hout2 n h1] at hn
        rw [hout2 k h2] at hk
        exact had.wf.injH n k b hn hk
    · by_cases hn : n ∈ keys sh
      · rw [hin2 n hn] at hj hk
        exact hw.nd n j k b hj hk
      · rw [hout2 n hn] at hj hk
        exact had.wf.nd n j k b hj hk
  have hWsh : ∀ n ∈ W, lentG sh g n = g n := fun n hn => lentG_out fun hm => hshW n hm hn
  have hadv2 : Adv R B g w W X R' B2 g2 w' := by
    refine ⟨hwf2, had.r, fun b hb => .inl hb, had.os, had.tape, had.output, had.size, fun b hb hW => had.heap b hb fun n hn => by rw [hWsh n hn]; exact hW n hn, fun n hn => ?_, fun n hn b hb => ?_, fun n hnW hnX b cur e hg hh => ?_⟩
    · by_cases h1 : n ∈ keys sh
      · exact hin2 n h1
      · rw [hout2 n h1, had.names n hn, lentG_out h1]
    · have h1 : n ∉ keys sh := fun hm => hshX n hm hn
      rw [hout2 n h1] at hb
      rcases had.fresh n hn b hb with h2 | ⟨k, hk, h2⟩
      · exact .inl h2
      · rw [hWsh k hk] at h2
        exact .inr ⟨k, hk, h2⟩
    · exact had.shape n hnW hnX b cur e (by rw [hWsh n hnW]; exact hg) hh
  have hgd : ∀ n, g' n ≠ .dead → g2 n = g' n := fun n hg => by
    by_cases h1 : n ∈ keys sh
    · exact absurd (hg'sh n h1) hg
    · exact hout2 n h1
  exact hK u R' B2 g2 w' hadv2 hR (fun _ => (hv.more fun b hb => .inr hb).names hgd) fun p hp => ((hdf p hp).more fun b hb => .inr hb).names hgd
end Go.Fw
