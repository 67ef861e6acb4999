/- The framework, part 4: the operations that make memory or write it. -/
import Derived.Test.YtfiiebikkimjbaaFw3
import Derived.Laws.MakeOwn
import Derived.Laws.AppendOwn
set_option linter.unusedVariables false
set_option linter.unusedSimpArgs false
set_option linter.unnecessarySimpa false
namespace Go.Fw

def upd (g : Nat → GS) (n : Nat) (s : GS) : Nat → GS := fun k => if k = n then s else g k
theorem upd_same (g : Nat → GS) (n : Nat) (s : GS) : upd g n s n = s := by simp [upd]
theorem upd_ne (g : Nat → GS) {n k : Nat} (s : GS) (h : k ≠ n) : upd g n s k = g k := by simp [upd, h]

def TI (P : Program) (e : TypeId) (z : Value) (s b : Nat) : Prop := (P.info? e).map (fun i => (i.zero, i.size, i.bytes)) = some (some z, s, b)
theorem TI.parts {P : Program} {e : TypeId} {z : Value} {s b : Nat} (h : TI P e z s b) : ∃ i, P.info? e = some i ∧ i.zero = some z ∧ i.size = s ∧ i.bytes = b := by
  unfold TI at h
  cases hi : P.info? e with
  | none => rw [hi] at h; cases h
  | some i =>
    rw [hi] at h
    injection h with h
    injection h with h1 h2
    injection h2 with h2 h3
    exact ⟨i, rfl, h1, h2, h3⟩
theorem TI.sz {P : Program} {e : TypeId} {z : Value} {s b : Nat} (h : TI P e z s b) : szP P e = s := by
  obtain ⟨i, h1, _, h3, _⟩ := h.parts
  rw [szP_of h1, h3]

/-- the most elements that a slice is let have -/
def LIM : Nat := 2147483648

def svCells : SV → List CV
  | .c x => [x]
  | .agg cs => cs
/-- ys in the place of l's elements from k on -/
def ow {α : Type} (l : List α) (k : Nat) (ys : List α) : List α := l.take k ++ ys ++ l.drop (k + ys.length)

theorem ow_length {α : Type} (l : List α) (k : Nat) (ys : List α) (h : k + ys.length ≤ l.length) : (ow l k ys).length = l.length := by
  simp [ow]; omega
theorem ow_in {α : Type} (l : List α) (k : Nat) (ys : List α) (h : k + ys.length ≤ l.length) (i : Nat) (h1 : k ≤ i) (h2 : i < k + ys.length) : (ow l k ys)[i]? = ys[i - k]? := by
  have hk : (l.take k).length = k := by simp; omega
  unfold ow
  rw [List.append_assoc, List.getElem?_append_right (by omega), hk, List.getElem?_append_left (by omega)]
theorem ow_out {α : Type} (l : List α) (k : Nat) (ys : List α) (h : k + ys.length ≤ l.length) (i : Nat) (h1 : i < k ∨ k + ys.length ≤ i) : (ow l k ys)[i]? = l[i]? := by
  have hk : (l.take k).length = k := by simp; omega
  unfold ow
  rcases h1 with h1 | h1
  · rw [List.append_assoc, List.getElem?_append_left (by omega), List.getElem?_take, if_pos h1]
  · rw [List.getElem?_append_right (by simp; omega), List.getElem?_drop]
    congr 1
    simp
    omega

theorem mul_gap {j j' s k k' : Nat} (hk : k < s) (hk' : k' < s) (h : j ≠ j') : j * s + k ≠ j' * s + k' := by
  rcases Nat.lt_or_gt_of_ne h with h1 | h1
  · have := Nat.mul_le_mul_right s h1
    rw [Nat.succ_mul] at this
    omega
  · have := Nat.mul_le_mul_right s h1
    rw [Nat.succ_mul] at this
    omega

section
variable {P : Program} {w : World} {R B : Nat → Prop} {g : Nat → GS}

theorem WF.mono {w' : World} (h : WF R B g w) (hs : w.heap.size ≤ w'.heap.size) : WF R B g w' :=
  ⟨h.rb, fun b hb => Nat.lt_of_lt_of_le (h.lt b hb) hs, fun n b hb => ⟨(h.ownH n b hb).1, Nat.lt_of_lt_of_le (h.ownH n b hb).2 hs⟩, h.injH, h.nd⟩
/-- a name gets a new meaning -/
theorem WF.upd {w' : World} (h : WF R B g w) (n : Nat) (s : GS) (hsz : w.heap.size ≤ w'.heap.size) (hs : ∀ b, s.has b → ¬ B b ∧ b < w'.heap.size ∧ ∀ m, m ≠ n → ¬ (g m).has b)
    (hnd : ∀ j k b, s.at j = .blk b → s.at k = .blk b → j = k) : WF R B (upd g n s) w' where
  rb := h.rb
  lt b hb := Nat.lt_of_lt_of_le (h.lt b hb) hsz
  ownH k b hk := by
    by_cases hkn : k = n
    · subst hkn
      rw [upd_same] at hk
      exact ⟨(hs b hk).1, (hs b hk).2.1⟩
    · rw [upd_ne g _ hkn] at hk
      have := h.ownH k b hk
      exact ⟨this.1, by omega⟩
  injH k m b hk hm := by
    by_cases hkn : k = n <;> by_cases hmn : m = n
    · rw [hkn, hmn]
    · subst hkn
      rw [upd_same] at hk
      rw [upd_ne g _ hmn] at hm
      exact absurd hm ((hs b hk).2.2 m hmn)
    · subst hmn
      rw [upd_same] at hm
      rw [upd_ne g _ hkn] at hk
      exact absurd hk ((hs b hm).2.2 k hkn)
    · rw [upd_ne g _ hkn] at hk
      rw [upd_ne g _ hmn] at hm
      exact h.injH k m b hk hm
  nd k i j b hi hj := by
    by_cases hkn : k = n
    · subst hkn
      rw [upd_same] at hi hj
      exact hnd i j b hi hj
    · rw [upd_ne g _ hkn] at hi hj
      exact h.nd k i j b hi hj
theorem GS.nd_blk {c : Nat} : ∀ j k b, (GS.blk c).at j = .blk b → (GS.blk c).at k = .blk b → j = k := fun j k b h => by cases h
theorem WF.alloc (h : WF R B g w) (n : Nat) (o : Obj) : WF R B (Go.Fw.upd g n (.blk w.heap.size)) (w.alloc o) :=
  h.upd n _ (by simp) (fun b hb => by
    have hb : b = w.heap.size := hb
    subst hb
    exact ⟨fun hB => Nat.lt_irrefl _ (h.lt _ hB), by simp, fun m _ hm => Nat.lt_irrefl _ (h.ownH m _ hm).2⟩) GS.nd_blk

theorem Adv.alloc (h : WF R B g w) (n : Nat) (o : Obj) : Adv R B g w [] [n] R B (upd g n (.blk w.heap.size)) (w.alloc o) where
  wf := h.alloc n o
  r _ h := h
  b _ h := h
  os := rfl
  tape := rfl
  output := rfl
  size := by simp
  heap b hb _ := Go.RowKit.Below.heap_alloc w o b hb
  names k hk := upd_ne g _ (by simpa using hk)
  fresh k hk b hb := by
    have : k = n := by simpa using hk
    subst this
    rw [upd_same] at hb
    have hb : b = w.heap.size := hb
    exact .inl (by omega)
  shape k hk := by cases hk

theorem Adv.alloc_drew (h : WF R B g w) (n : Nat) (o : Obj) : Adv R B g w [] [n] R B (upd g n (.blk w.heap.size)) (w.drew.alloc o) :=
  { Adv.alloc (w := w.drew) ⟨h.rb, h.lt, h.ownH, h.injH, h.nd⟩ n o with }

/-- cells and values -/
def RelC (P : Program) (w : World) (R B : Nat → Prop) (g : Nat → GS) (cs : List CV) (vs : List Value) : Prop := vs.length = cs.length ∧ ∀ (k : Nat) x, cs[k]? = some x → ∃ u, vs[k]? = some u ∧ RC P w R B g x u
theorem RelC.one {cs : List CV} {vs : List Value} (h : RelC P w R B g cs vs) : ∀ v ∈ vs, v.oneCell' = true := fun v hv => by
  obtain ⟨k, hk⟩ := List.getElem?_of_mem hv
  have hlt : k < cs.length := by rw [← h.1]; exact (List.getElem?_eq_some_iff.1 hk).1
  obtain ⟨u, hu, hr⟩ := h.2 k cs[k] (List.getElem?_eq_getElem hlt)
  rw [hk] at hu
  injection hu with hu
  subst hu
  exact hr.1
theorem RS.cells {x : SV} {v : Value} (h : RS P w R B g x v) : RelC P w R B g (svCells x) v.cells.toList := by
  cases x with
  | c x =>
    have h1 := h.1
    have : v.cells = #[v] := by cases v <;> first | rfl | cases h1
    rw [this]
    exact ⟨rfl, fun k y hk => by
      cases k with
      | zero => simp [svCells] at hk; subst hk; exact ⟨v, rfl, h⟩
      | succ k => simp [svCells] at hk⟩
  | agg cs =>
    obtain ⟨vs, rfl, h1, h2⟩ := h
    exact ⟨by simpa [Value.cells, svCells] using h1, fun k y hk => by simpa [Value.cells] using h2 k y hk⟩
theorem scs_rel {vs : List Value} (h : vs.all (·.oneCell') = true) : RelC P w R B g (vs.map sC) vs := ⟨by simp, fun k x hk => by
  rw [List.getElem?_map] at hk
  cases hv : vs[k]? with
  | none => rw [hv] at hk; cases hk
  | some v =>
    rw [hv] at hk
    injection hk with hk
    subst hk
    have := List.all_eq_true.1 h v (List.mem_of_getElem? hv)
    exact ⟨v, rfl, this, .sc this⟩⟩

theorem RelC.keep {cs : List CV} {vs : List Value} (h : RelC P w R B g cs vs) {R' B' : Nat → Prop} {g' : Nat → GS} {w' : World} {W X : List Nat} (had : Adv R B g w W X R' B' g' w') (hw : WF R B g w) : RelC P w' R' B' g' (cs.map (junkC X)) vs :=
  ⟨by simpa using h.1, fun k x hk => by
    rw [List.getElem?_map] at hk
    cases hc : cs[k]? with
    | none => rw [hc] at hk; cases hk
    | some y =>
      rw [hc] at hk
      injection hk with hk
      subst hk
      obtain ⟨u, hu, hr⟩ := h.2 k y hc
      exact ⟨u, hu, had.rc hw hr⟩⟩

/-- A new variable, its cells known. -/
theorem LT.newVar {o : Oper} {ins : List (Operand × AV)} {us : Mem} {t : TypeId} {n : Nat} {cs : List CV} (hl : cs.length = szP P t)
    (h : ∀ R B g w (a : Act), WF R B g w → (∀ p ∈ ins, RA P w R B g p.2 (a.eval p.1)) → (∀ p ∈ us, RO P w R B g p.1 p.2) → ∃ vs : List Value, RelC P w R B g cs vs ∧ (execOp a.eval o).run P w = .ok (.value (.pointer (some ⟨w.heap.size, 0, none⟩))) (w.alloc (.cells vs.toArray t))) :
    LT P o ins us (Cc (.pl n 0)) [(n, .row t [cs.map (junkC [n])])] [] [n] := by
  intro R B g w a hw hi hu K Q hK
  obtain ⟨vs, hrel, hr⟩ := h R B g w a hw hi hu
  unfold Oper.wp
  rw [hr]
  have had := Adv.alloc hw n (.cells vs.toArray t)
  have hk := hrel.keep had hw
  refine hK _ _ _ _ _ had (fun b hb => .inl hb) (fun _ => ⟨rfl, w.heap.size, upd_same .., rfl⟩) (fun p hp => ?_)
  have : p = (n, .row t [cs.map (junkC [n])]) := by simpa using hp
  subst this
  refine .inr ⟨w.heap.size, vs.toArray, upd_same .., heap_alloc_new w _, fun c hc => ?_, ?_, fun j k c x hj hx => ?_⟩
  · have : c = cs.map (junkC [n]) := by simpa using hc
    subst this
    simpa using hl
  · simp only [List.length_singleton, Nat.one_mul, List.size_toArray, hrel.1]
    omega
  · cases j with
    | zero =>
      simp at hj
      subst hj
      obtain ⟨u, hu, hr⟩ := hk.2 k x hx
      exact ⟨u, by simpa using hu, hr⟩
    | succ j => simp at hj

theorem LT.alloc {o : Oper} {t : TypeId} {n s b : Nat} {z : Value} {cells : List CV} (ho : o.op = .alloc t) (ht : TI P t z s b) (hc : z.cells.toList.map sC = cells) (h1 : z.cells.toList.all (·.oneCell') = true) (hl : cells.length = s) :
    LT P o [] [] (Cc (.pl n 0)) [(n, .row t [cells.map (junkC [n])])] [] [n] :=
  .newVar (by rw [ht.sz]; exact hl) fun R B g w a _ _ _ => by
    obtain ⟨i, hi, hz, _⟩ := ht.parts
    refine ⟨z.cells.toList, by rw [← hc]; exact scs_rel h1, ?_⟩
    simp [execOp, ho, Instr.alloc, zeroValue, typeInfo, hi, hz, Go.newVar, newRow]

theorem LT.box {o : Oper} {t : TypeId} {n s : Nat} {x : Operand} {v : SV} (ho : o.op = .box t x) (hs : szP P t = s) (hl : (svCells v).length = s) : LT P o [(x, .s v)] [] (Cc (.pl n 0)) [(n, .row t [(svCells v).map (junkC [n])])] [] [n] :=
  .newVar (by rw [hs]; exact hl) fun R B g w a _ hi _ => by
    have h := in1 hi
    refine ⟨(a.eval x).cells.toList, RS.cells h, ?_⟩
    simp [execOp, ho, Instr.box, Go.newVar, newRow]

/-! ### build -/
/-- Parts laid over cells. -/
def fillC (place : Nat → Option (Nat × Nat)) (cells : List CV) : List (Nat × SV) → Option (List CV)
  | [] => some cells
  | (i, v) :: rest => match place i with
    | none => none
    | some (off, size) => if (svCells v).length ≠ size ∨ off + (svCells v).length > cells.length then none else fillC place (ow cells off (svCells v)) rest

theorem foldl_set (l : List Value) : ∀ (cells : Array Value) (off i : Nat), off + i + l.length ≤ cells.size → (l.zipIdx i).foldl (fun cs (q : Value × Nat) => cs.setIfInBounds (off + q.2) q.1) cells = (ow cells.toList (off + i) l).toArray := by
  induction l with
  | nil =>
    intro cells off i _
    simp [ow]
  | cons v r ih =>
    intro cells off i h
    simp only [List.zipIdx_cons, List.foldl_cons]
    rw [ih (cells.setIfInBounds (off + i) v) off (i + 1) (by simp at h ⊢; omega)]
    congr 1
    have e := list_seg_step cells.toList (off + i) v r (by simp at h ⊢; omega)
    simpa [ow, Array.toList_setIfInBounds, Nat.add_assoc] using e

theorem run_fill {place : Nat → Option (Nat × Nat)} : ∀ (ps : List (Nat × SV)) (vps : List (Nat × Value)) (cells : List CV) (vs : List Value) (out : List CV), RelC P w R B g cells vs →
    (vps.length = ps.length ∧ ∀ (k : Nat) q, ps[k]? = some q → ∃ u, vps[k]? = some (q.1, u) ∧ RS P w R B g q.2 u) → fillC place cells ps = some out → ∃ vout : List Value, Instr.fill place vs.toArray vps = some vout.toArray ∧ RelC P w R B g out vout
  | [], [], cells, vs, out, hrel, _, h => by
    injection h with h
    subst h
    exact ⟨vs, rfl, hrel⟩
  | [], _ :: _, _, _, _, _, hp, _ => by simp at hp
  | (i, v) :: rest, vps, cells, vs, out, hrel, hp, h => by
    obtain ⟨u, hu, hr⟩ := hp.2 0 (i, v) rfl
    cases vps with
    | nil => simp at hu
    | cons vp vrest =>
      simp at hu
      subst hu
      unfold fillC at h
      unfold Instr.fill
      cases hpl : place i with
      | none => rw [hpl] at h; cases h
      | some q =>
        obtain ⟨off, size⟩ := q
        rw [hpl] at h
        simp only at h ⊢
        split at h
        · cases h
        · rename_i hn
          have hcell := RS.cells hr
          have hlen : u.cells.size = (svCells v).length := by simpa using hcell.1
          have hfit : off + (svCells v).length ≤ cells.length := by omega
          rw [if_neg (by simpa [hlen, hrel.1] using hn)]
          have hf := foldl_set u.cells.toList vs.toArray off 0 (by simp [hrel.1, hlen]; omega)
          have hf' : u.cells.zipIdx.foldl (fun cs (x : Value × Nat) => cs.setIfInBounds (off + x.2) x.1) vs.toArray = (ow vs off u.cells.toList).toArray := by
            rw [← Array.foldl_toList, Array.toList_zipIdx]
            simpa using hf
          rw [hf']
          refine run_fill rest vrest (ow cells off (svCells v)) (ow vs off u.cells.toList) out ⟨?_, fun k x hk => ?_⟩ ⟨by simpa using hp.1, fun k q hk => by simpa using hp.2 (k + 1) q (by simpa using hk)⟩ h
          · rw [ow_length _ _ _ hfit, ow_length _ _ _ (by rw [hrel.1, hcell.1]; exact hfit)]; exact hrel.1
          · by_cases hin : off ≤ k ∧ k < off + (svCells v).length
            · rw [ow_in _ _ _ hfit k hin.1 hin.2] at hk
              obtain ⟨y, hy, hry⟩ := hcell.2 _ x hk
              exact ⟨y, by rw [ow_in _ _ _ (by rw [hrel.1, hcell.1]; exact hfit) k hin.1 (by rw [hcell.1]; exact hin.2)]; exact hy, hry⟩
            · have hout : k < off ∨ off + (svCells v).length ≤ k := by omega
              rw [ow_out _ _ _ hfit k hout] at hk
              obtain ⟨y, hy, hry⟩ := hrel.2 k x hk
              exact ⟨y, by rw [ow_out _ _ _ (by rw [hrel.1, hcell.1]; exact hfit) k (by rw [hcell.1]; exact hout)]; exact hy, hry⟩

/-- The places of a struct type's fields: offsets and sizes, in cells. -/
def plB (P : Program) (t : TypeId) : Option (List (Nat × Nat)) :=
  match P.underlying t with
  | some (.struct fs) => fs.toList.mapM fun f => (P.info? f.type).map fun i => (f.offset, i.size)
  | _ => none
theorem run_places : ∀ (fs : List Field) (pls : List (Nat × Nat)), fs.mapM (fun f => (P.info? f.type).map fun i => (f.offset, i.size)) = some pls →
    (fs.mapM (fun f => do pure (f.offset, ← sizeOf f.type) : Field → Sem (Nat × Nat))).run P w = .ok pls w
  | [], pls, h => by
    injection h with h
    subst h
    rfl
  | f :: fs, pls, h => by
    rw [List.mapM_cons] at h
    obtain ⟨p, hp, h2⟩ := Option.bind_eq_some_iff.1 h
    obtain ⟨r, hr, h3⟩ := Option.bind_eq_some_iff.1 h2
    injection h3 with h3
    subst h3
    obtain ⟨i, hi, hpi⟩ := Option.map_eq_some_iff.1 hp
    subst hpi
    have ih := run_places fs r hr
    have hs : (sizeOf f.type).run P w = .ok i.size w := by simp [sizeOf, typeInfo, hi]
    simp only [List.mapM_cons, Sem.run_bind, hs, Result.andThen_ok, Sem.run_pure, ih]

/-- parts: the place's number, the operand, its value -/
abbrev Parts := List (Nat × Operand × SV)
def Parts.ins (ps : Parts) : List (Operand × AV) := ps.map fun q => (q.2.1, .s q.2.2)
def Parts.vals (ps : Parts) : List (Nat × SV) := ps.map fun q => (q.1, q.2.2)
def Parts.ops (ps : Parts) : List (Nat × Operand) := ps.map fun q => (q.1, q.2.1)

theorem parts_rel {a : Act} {ps : Parts} (h : ∀ p ∈ Parts.ins ps, RA P w R B g p.2 (a.eval p.1)) :
    ((Parts.ops ps).map fun q => (q.1, a.eval q.2)).length = (Parts.vals ps).length ∧ ∀ (k : Nat) q, (Parts.vals ps)[k]? = some q → ∃ u, ((Parts.ops ps).map fun q => (q.1, a.eval q.2))[k]? = some (q.1, u) ∧ RS P w R B g q.2 u := by
  refine ⟨by simp [Parts.ops, Parts.vals], fun k q hk => ?_⟩
  unfold Parts.vals at hk
  rw [List.getElem?_map] at hk
  cases hx : ps[k]? with
  | none => rw [hx] at hk; cases hk
  | some y =>
    rw [hx] at hk
    injection hk with hk
    subst hk
    refine ⟨a.eval y.2.1, by simp [Parts.ops, hx], ?_⟩
    exact h (y.2.1, .s y.2.2) (List.mem_map.2 ⟨y, List.mem_of_getElem? hx, rfl⟩)

theorem LT.build {o : Oper} {t : TypeId} {parts : Array (Nat × Operand)} (ps : Parts) {pls : List (Nat × Nat)} {z : Value} {s b : Nat} {zc out : List CV} (ho : o.op = .build t parts) (hps : parts.toList = Parts.ops ps) (hp : plB P t = some pls) (hz : TI P t z s b)
    (hzc : z.cells.toList.map sC = zc) (h1 : z.cells.toList.all (·.oneCell') = true) (hf : fillC (fun i => pls[i]?) zc (Parts.vals ps) = some out) : LT P o (Parts.ins ps) [] (Ag out) [] [] [] := .calm fun R B g w a _ hi _ => by
  obtain ⟨i, hi1, hi2, _⟩ := hz.parts
  unfold plB at hp
  split at hp
  · rename_i fs hfs
    have hrel : RelC P w R B g zc z.cells.toList := by rw [← hzc]; exact scs_rel h1
    obtain ⟨vout, k1, k2⟩ := run_fill (place := fun i => pls[i]?) (Parts.vals ps) _ zc z.cells.toList out hrel (parts_rel hi) hf
    refine ⟨.agg vout.toArray, ?_, vout, rfl, k2.1, k2.2⟩
    have hpl : (fs.mapM (fun f => do pure (f.offset, ← sizeOf f.type) : Field → Sem (Nat × Nat))).run P w = .ok pls.toArray w := by
      rw [Array.mapM_eq_mapM_toList]
      simp only [Sem.run_map, run_places fs.toList pls hp, Result.andThen_ok]
    have hpa : (parts.map fun x => (x.1, a.eval x.2)).toList = (Parts.ops ps).map fun q => (q.1, a.eval q.2) := by rw [Array.toList_map, hps]
    have hk1 : Instr.fill (fun x => pls.toArray[x]?) z.cells (parts.map fun x => (x.1, a.eval x.2)).toList = some vout.toArray := by
      rw [hpa]
      simpa using k1
    simp only [execOp, ho, Instr.build, Sem.run_bind, zeroValue, typeInfo, run_program, Result.andThen_ok, hi1, Sem.run_pure, hi2, run_underlying hfs, hpl, hk1]
  · cases hp

/-! ### new rows -/
theorem flat_index {α : Type} {s : Nat} : ∀ (els : List (List α)), (∀ cs ∈ els, cs.length = s) → ∀ (j k : Nat) cs x, els[j]? = some cs → cs[k]? = some x → els.flatten[j * s + k]? = some x
  | [], _, j, _, _, _, hj, _ => by simp at hj
  | c :: els, h, 0, k, cs, x, hj, hk => by
    simp at hj
    subst hj
    rw [List.flatten_cons, Nat.zero_mul, Nat.zero_add, List.getElem?_append_left (List.getElem?_eq_some_iff.1 hk).1]
    exact hk
  | c :: els, h, j + 1, k, cs, x, hj, hk => by
    have hc : c.length = s := h c List.mem_cons_self
    have ih := flat_index els (fun cs hcs => h cs (List.mem_cons_of_mem _ hcs)) j k cs x (by simpa using hj) hk
    rw [List.flatten_cons, List.getElem?_append_right (by rw [hc, Nat.succ_mul]; omega), hc, show (j + 1) * s + k - s = j * s + k by rw [Nat.succ_mul]; omega]
    exact ih
theorem flat_length {α : Type} {s : Nat} : ∀ (els : List (List α)), (∀ cs ∈ els, cs.length = s) → els.flatten.length = els.length * s
  | [], _ => by simp
  | c :: els, h => by
    rw [List.flatten_cons, List.length_append, h c List.mem_cons_self, flat_length els (fun cs hcs => h cs (List.mem_cons_of_mem _ hcs)), List.length_cons, Nat.succ_mul]
    omega

/-- A new row, its cells known. -/
theorem LT.newRow {o : Oper} {ins : List (Operand × AV)} {us : Mem} {e : TypeId} {n : Nat} {els : List (List CV)} (hl : ∀ cs ∈ els, cs.length = szP P e) (hm : els.length ≤ maxLen)
    (h : ∀ R B g w (a : Act), WF R B g w → (∀ p ∈ ins, RA P w R B g p.2 (a.eval p.1)) → (∀ p ∈ us, RO P w R B g p.1 p.2) →
      ∃ vs : List Value, RelC P w R B g els.flatten vs ∧ (execOp a.eval o).run P w = .ok (.value (.slice (some ⟨w.heap.size, 0, none⟩) els.length els.length)) (w.alloc (.cells vs.toArray e))) :
    LT P o ins us (Cc (.loc n 0 els.length)) [(n, .row e (els.map (·.map (junkC [n]))))] [] [n] := by
  intro R B g w a hw hi hu K Q hK
  obtain ⟨vs, hrel, hr⟩ := h R B g w a hw hi hu
  unfold Oper.wp
  rw [hr]
  have had := Adv.alloc hw n (.cells vs.toArray e)
  have hk := hrel.keep had hw
  have hvl : vs.length = els.length * szP P e := by rw [hrel.1, flat_length els hl]
  refine hK _ _ _ _ _ had (fun b hb => .inl hb) (fun _ => ⟨rfl, .inr (.inr ⟨w.heap.size, els.length, vs.toArray, e, upd_same .., heap_alloc_new w _, Nat.le_refl _, by omega, by simp [hvl], by simp⟩)⟩) (fun p hp => ?_)
  have : p = (n, .row e (els.map (·.map (junkC [n])))) := by simpa using hp
  subst this
  have hl' : ∀ cs ∈ els.map (·.map (junkC [n])), cs.length = szP P e := fun cs hcs => by
    obtain ⟨c0, hc0, rfl⟩ := List.mem_map.1 hcs
    simpa using hl c0 hc0
  refine .inr ⟨w.heap.size, vs.toArray, upd_same .., heap_alloc_new w _, hl', by simp [hvl], fun j k c x hj hx => ?_⟩
  have hf := flat_index _ hl' j k c x hj hx
  rw [← List.map_flatten] at hf
  obtain ⟨u, hu, hr⟩ := hk.2 _ x hf
  exact ⟨u, by simpa using hu, hr⟩

theorem LT.buildSlice {o : Oper} {t e : TypeId} {len n : Nat} {parts : Array (Nat × Operand)} (ps : Parts) {z : Value} {s b : Nat} {zc : List CV} {els : List (List CV)} (ho : o.op = .buildSlice t len parts) (hps : parts.toList = Parts.ops ps) (he : P.underlying t = some (.slice e)) (hz : TI P e z s b)
    (hzc : z.cells.toList.map sC = zc) (h1 : z.cells.toList.all (·.oneCell') = true) (hsz : zc.length = s) (hlen : els.length = len) (hmax : len * s ≤ 16777216 ∧ 0 < s) (hel : els.all (fun cs => Nat.beq cs.length s) = true)
    (hf : fillC (fun i => some (i * s, s)) ((List.range (len * s)).map fun i => zc.getD (i % s) .junk) (Parts.vals ps) = some els.flatten) :
    LT P o (Parts.ins ps) [] (Cc (.loc n 0 els.length)) [(n, .row e (els.map (·.map (junkC [n]))))] [] [n] := by
  have hel' : ∀ cs ∈ els, cs.length = szP P e := fun cs hcs => by
    rw [hz.sz]
    exact Nat.eq_of_beq_eq_true (List.all_eq_true.1 hel cs hcs)
  have hlm : len ≤ 16777216 := Nat.le_trans (Nat.le_mul_of_pos_right len hmax.2) hmax.1
  refine .newRow hel' (by simp only [maxLen]; omega) fun R B g w a _ hi _ => ?_
  obtain ⟨i, hi1, hi2, hi3, _⟩ := hz.parts
  have hzs : z.cells.size = s := by rw [← hsz, ← hzc]; simp
  have hrel : RelC P w R B g ((List.range (len * s)).map fun i => zc.getD (i % s) .junk) ((List.range (len * s)).map fun i => z.cells[i % z.cells.size]!) := by
    refine ⟨by simp, fun k x hk => ?_⟩
    rw [List.getElem?_map] at hk ⊢
    cases hr : (List.range (len * s))[k]? with
    | none => rw [hr] at hk; cases hk
    | some m =>
      rw [hr] at hk
      injection hk with hk
      subst hk
      have hms : m % s < s := Nat.mod_lt _ hmax.2
      have hrz : RelC P w R B g zc z.cells.toList := by rw [← hzc]; exact scs_rel h1
      obtain ⟨u, hu, hru⟩ := hrz.2 (m % s) (zc.getD (m % s) .junk) (by rw [List.getD_eq_getElem?_getD, List.getElem?_eq_getElem (by omega)]; rfl)
      refine ⟨u, ?_, hru⟩
      have : z.cells[m % s]? = some u := by simpa using hu
      rw [hzs]
      simp [getElem!_def, this]
  obtain ⟨vout, k1, k2⟩ := run_fill (place := fun i => some (i * s, s)) (Parts.vals ps) _ _ _ els.flatten hrel (parts_rel hi) hf
  refine ⟨vout, k2, ?_⟩
  have hpa : (parts.map fun x => (x.1, a.eval x.2)).toList = (Parts.ops ps).map fun q => (q.1, a.eval q.2) := by rw [Array.toList_map, hps]
  have hno : ¬ (16777216 < len * s) := by omega
  have hk1 : Instr.fill (fun i => some (i * s, s)) ((Array.range (len * s)).map fun x => z.cells[x % z.cells.size]!) (parts.map fun x => (x.1, a.eval x.2)).toList = some vout.toArray := by
    rw [hpa, ← k1]
    congr 1
    apply Array.ext'
    simp
  rw [Array.toList_map] at hk1
  by_cases h0 : len * s = 0
  · simp only [h0, Array.range_zero', Array.map_empty] at hk1
    simp [execOp, ho, Instr.buildSlice, run_underlying he, sizeOf, typeInfo, hi1, hi3, h0, Array.range_zero', hk1, Go.newRow, hlen]
  · simp [execOp, ho, Instr.buildSlice, run_underlying he, sizeOf, typeInfo, hi1, hi3, hno, h0, zeroValue, hi2, hk1, Go.newRow, hlen]

/-- make([]T, n) -/
theorem LT.makeSlice {o : Oper} {t e : TypeId} {n : Nat} {x y : Operand} {len : Int} {z : Value} {s b : Nat} {zc : List CV} (ho : o.op = .makeSlice t x y) (he : P.underlying t = some (.slice e)) (hz : TI P e z s b)
    (hzc : z.cells.toList.map sC = zc) (h1 : z.cells.toList.all (·.oneCell') = true) (hsz : zc.length = s) (hs : 0 < s) (hb : b ≤ 65536) (hl : 0 ≤ len ∧ len ≤ LIM) :
    LT P o [(x, Iv len), (y, Iv len)] [] (Cc (.loc n 0 (List.replicate len.toNat zc).length)) [(n, .row e ((List.replicate len.toNat zc).map (·.map (junkC [n]))))] [] [n] := by
  have hl2 : len ≤ 2147483648 := hl.2
  refine .newRow (fun cs hcs => by rw [List.eq_of_mem_replicate hcs, hz.sz]; exact hsz) (by simp only [List.length_replicate, maxLen]; omega) fun R B g w a _ hi _ => ?_
  obtain ⟨i, hi1, hi2, hi3, hi4⟩ := hz.parts
  have hzs : z.cells.size = s := by rw [← hsz, ← hzc]; simp
  have hbb : (i.bytes : Int) * len ≤ 281474976710656 := by
    rw [hi4]
    have : (b : Int) * len ≤ 65536 * 2147483648 := Int.mul_le_mul (by omega) hl2 hl.1 (by omega)
    omega
  have hr := run_make (P := P) w t e i z he hi1 hi2 .i64 .i64 len len hl.1 (Int.le_refl _) hbb (by omega)
  refine ⟨(madeCells z.cells (len.toNat * i.size)).toList, ⟨?_, fun k c hk => ?_⟩, ?_⟩
  · rw [flat_length (s := s) _ (fun cs hcs => by rw [List.eq_of_mem_replicate hcs]; exact hsz)]
    simp [madeCells, hi3]
  · have hkl : k < len.toNat * s := by
      have := (List.getElem?_eq_some_iff.1 hk).1
      rwa [flat_length (s := s) _ (fun cs hcs => by rw [List.eq_of_mem_replicate hcs]; exact hsz), List.length_replicate] at this
    have hj : k / s < len.toNat := Nat.div_lt_of_lt_mul (by rw [Nat.mul_comm]; exact hkl)
    have hms : k % s < s := Nat.mod_lt _ hs
    have hf := flat_index (s := s) (List.replicate len.toNat zc) (fun cs hcs => by rw [List.eq_of_mem_replicate hcs]; exact hsz) (k / s) (k % s) zc zc[k % s] (by simp [hj]) (List.getElem?_eq_getElem (by omega))
    rw [show k / s * s + k % s = k by rw [Nat.mul_comm]; exact Nat.div_add_mod k s] at hf
    rw [hf] at hk
    injection hk with hk
    subst hk
    have hrz : RelC P w R B g zc z.cells.toList := by rw [← hzc]; exact scs_rel h1
    obtain ⟨u, hu, hru⟩ := hrz.2 (k % s) zc[k % s] (List.getElem?_eq_getElem (by omega))
    refine ⟨u, ?_, hru⟩
    have : z.cells[k % s]? = some u := by simpa using hu
    simp [madeCells, hzs, hi3, hkl, getElem!_def, this]
  · simp only [execOp, ho, sc_inv (in1 hi), sc_inv (in2 hi), Sem.run_bind, hr, Result.andThen_ok, Sem.run_pure, List.length_replicate, Array.toArray_toList]
end

end Go.Fw
