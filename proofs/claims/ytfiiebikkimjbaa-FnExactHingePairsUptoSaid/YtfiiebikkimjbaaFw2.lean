/- The framework, part 2: states, single operations (local triples), straight-line code, control, loops, and refinement of a pure model. -/
import Derived.Test.YtfiiebikkimjbaaFw1
import Derived.LoopN
set_option linter.unusedVariables false
set_option linter.unusedSimpArgs false
set_option linter.unnecessarySimpa false
namespace Go.Fw

def lk {α : Type} : List (Nat × α) → Nat → Option α
  | [], _ => none
  | (k, v) :: r, t => bif Nat.beq k t then some v else lk r t

structure Ctx where
  w0 : World
  U0 : Nat → Prop
  R0 : Nat → Prop
  g0 : Nat → GS
  N : Nat
  pn : List Nat

/-- The machine's state (a, w) is as the abstract state (σ, m) says; since the frame began (C.w0) nothing has turned but what the frame may write. -/
structure St (P : Program) (C : Ctx) (σ : Slots) (m : Mem) (R B : Nat → Prop) (g : Nat → GS) (a : Act) (w : World) : Prop where
  wf : WF R B g w
  nd : a.defers = []
  sz : a.tmps.size = C.N
  sl : ∀ t v, lk σ t = some v → RA P w R B g v (a.tmps.getD t undef)
  ob : ∀ n o, lk m n = some o → RO P w R B g n o
  ow : ∀ n o b, lk m n = some o → (g n).has b → C.w0.heap.size ≤ b ∨ C.U0 b
  perm : ∀ b, R b → C.R0 b ∨ C.w0.heap.size ≤ b
  r0 : ∀ b, C.R0 b → R b
  os : w.os = C.w0.os
  tape : w.tape = C.w0.tape
  output : w.output = C.w0.output
  size : C.w0.heap.size ≤ w.heap.size
  heap : ∀ b, b < C.w0.heap.size → ¬ C.U0 b → w.heap[b]? = C.w0.heap[b]?
  pin : ∀ n ∈ C.pn, g n = C.g0 n
  shp : ∀ n ∈ C.pn, ∀ b cur e, (C.g0 n).has b → C.w0.heap[b]? = some (.cells cur e (0, 0)) → ∃ cur', w.heap[b]? = some (.cells cur' e (0, 0)) ∧ cur'.size = cur.size

/-- One operation, in memory terms: with operands as told and own objects as told it yields a value and leaves objects as told; W: the objects written; X: the names with a new meaning. -/
def LT (P : Program) (o : Oper) (ins : List (Operand × AV)) (us : Mem) (v : AV) (df : Mem) (W X : List Nat) : Prop :=
  ∀ (R B : Nat → Prop) (g : Nat → GS) (w : World) (a : Act), WF R B g w → (∀ p ∈ ins, RA P w R B g p.2 (a.eval p.1)) → (∀ p ∈ us, RO P w R B g p.1 p.2) →
    ∀ (K : Act → World → Prop) (Q : Exit → Act → World → Prop),
      (∀ u R' B' g' w', Adv R B g w W X R' B' g' w' → (∀ b, R' b → R b ∨ w.heap.size ≤ b) → (o.dst.isSome = true → RA P w' R' B' g' v u) → (∀ p ∈ df, RO P w' R' B' g' p.1 p.2) → K (a.put o.dst u) w') → o.wp P a w K Q

def EvO (σ : Slots) : Operand → AV → Prop
  | .tmp t, v => lk σ t = some v
  | .const c, v => v = .s (.c (.pv (.sc c))) ∧ c.oneCell' = true
  | .func f, v => v = .s (.c (.fn f []))
  | .global _, _ => False

def EvL (σ : Slots) : List (Operand × AV) → Prop
  | [] => True
  | (x, v) :: r => EvO σ x v ∧ EvL σ r

def LkL (m : Mem) : Mem → Prop
  | [] => True
  | (n, o) :: r => lk m n = some o ∧ LkL m r

def setD (σ : Slots) (d : Option Tmp) (v : AV) : Slots := match d with
  | some t => (t, v) :: σ
  | none => σ

def dstOk (N : Nat) (d : Option Tmp) : Bool := match d with
  | some t => Nat.blt t N
  | none => true

section
variable {P : Program} {C : Ctx} {σ σ' : Slots} {m m' : Mem} {R B : Nat → Prop} {g : Nat → GS} {a : Act} {w : World}

theorem EvO.ra (hs : St P C σ m R B g a w) {x : Operand} {v : AV} (h : EvO σ x v) : RA P w R B g v (a.eval x) := by
  cases x with
  | tmp t => exact hs.sl t v h
  | const c =>
    obtain ⟨rfl, h1⟩ := h
    exact ⟨h1, .sc h1⟩
  | func f =>
    subst h
    exact ⟨rfl, [], rfl, rfl, fun k n hk => by simp at hk⟩
  | global n => exact h.elim

theorem EvL.ra (hs : St P C σ m R B g a w) : ∀ {ins : List (Operand × AV)}, EvL σ ins → ∀ p ∈ ins, RA P w R B g p.2 (a.eval p.1)
  | [], _, p, hp => by cases hp
  | (x, v) :: r, h, p, hp => by
    cases hp with
    | head => exact EvO.ra hs h.1
    | tail _ hp => exact EvL.ra hs h.2 p hp

theorem LkL.ro (hs : St P C σ m R B g a w) : ∀ {us : Mem}, LkL m us → ∀ p ∈ us, RO P w R B g p.1 p.2 ∧ lk m p.1 = some p.2
  | [], _, p, hp => by cases hp
  | (n, o) :: r, h, p, hp => by
    cases hp with
    | head => exact ⟨hs.ob n o h.1, h.1⟩
    | tail _ hp => exact LkL.ro hs h.2 p hp

theorem lk_junkSl (X : List Nat) : ∀ (σ : Slots) (t : Nat), lk (junkSl X σ) t = (lk σ t).map (junkA X)
  | [], _ => rfl
  | (k, v) :: r, t => by
    show (bif Nat.beq k t then some (junkA X v) else lk (junkSl X r) t) = Option.map (junkA X) (bif Nat.beq k t then some v else lk r t)
    cases Nat.beq k t
    · exact lk_junkSl X r t
    · rfl

theorem lk_junkM (X : List Nat) : ∀ (m : Mem) (n : Nat) (o : Ob), lk (junkM X m) n = some o → n ∉ X ∧ ∃ o0, lk m n = some o0 ∧ o = junkO X o0
  | [], _, _, h => by cases h
  | (k, v) :: r, n, o, h => by
    unfold junkM at h
    cases hk : X.elem k with
    | true =>
      rw [hk, cond_true] at h
      obtain ⟨h1, o0, h2, h3⟩ := lk_junkM X r n o h
      refine ⟨h1, o0, ?_, h3⟩
      show (bif Nat.beq k n then some v else lk r n) = some o0
      cases hb : Nat.beq k n with
      | false => exact h2
      | true =>
        have := Nat.eq_of_beq_eq_true hb
        subst this
        exact absurd (List.mem_of_elem_eq_true hk) h1
    | false =>
      rw [hk, cond_false] at h
      change (bif Nat.beq k n then some (junkO X v) else lk (junkM X r) n) = some o at h
      show n ∉ X ∧ ∃ o0, (bif Nat.beq k n then some v else lk r n) = some o0 ∧ o = junkO X o0
      cases hb : Nat.beq k n with
      | false =>
        rw [hb] at h
        exact lk_junkM X r n o h
      | true =>
        rw [hb, cond_true] at h
        have := Nat.eq_of_beq_eq_true hb
        subst this
        injection h with h
        exact ⟨notin_of_elem hk, v, rfl, h.symm⟩

theorem lk_append {α : Type} : ∀ (x y : List (Nat × α)) (n : Nat) (o : α), lk (x ++ y) n = some o → (∃ p ∈ x, p.1 = n ∧ p.2 = o) ∨ (n ∉ x.map (·.1) ∧ lk y n = some o)
  | [], _, _, _, h => .inr ⟨by simp, h⟩
  | (k, v) :: r, y, n, o, h => by
    change (bif Nat.beq k n then some v else lk (r ++ y) n) = some o at h
    cases hb : Nat.beq k n with
    | true =>
      rw [hb, cond_true] at h
      injection h with h
      exact .inl ⟨(k, v), List.mem_cons_self, Nat.eq_of_beq_eq_true hb, h⟩
    | false =>
      rw [hb, cond_false] at h
      rcases lk_append r y n o h with ⟨p, hp, h1, h2⟩ | ⟨h0, h1⟩
      · exact .inl ⟨p, List.mem_cons_of_mem _ hp, h1, h2⟩
      · refine .inr ⟨fun hm => ?_, h1⟩
        cases hm with
        | head => exact Nat.ne_of_beq_eq_false hb rfl
        | tail _ hm => exact h0 hm

theorem getD_put (a : Act) (d t : Nat) (u : Value) (hd : d < a.tmps.size) : (a.put (some d) u).tmps.getD t undef = if d = t then u else a.tmps.getD t undef := by
  show (a.tmps.setIfInBounds d u).getD t undef = _
  simp only [Array.getD_eq_getD_getElem?, Array.getElem?_setIfInBounds]
  split
  · subst_vars; simp [hd]
  · rfl
theorem put_size (a : Act) (d : Option Tmp) (u : Value) : (a.put d u).tmps.size = a.tmps.size := by cases d <;> simp [Act.put]
theorem put_defers' (a : Act) (d : Option Tmp) (u : Value) : (a.put d u).defers = a.defers := by cases d <;> rfl

/-- The state behind one step. -/
theorem St.step (hs : St P C σ m R B g a w) {us df : Mem} {W X : List Nat} {d : Option Tmp} {v : AV} {u : Value} {R' B' : Nat → Prop} {g' : Nat → GS} {w' : World}
    (hus : LkL m us) (hW : ∀ n ∈ W, (n ∈ X ∨ n ∈ df.map (·.1)) ∧ ∃ o, (n, o) ∈ us) (hdf : ∀ p ∈ df, p.1 ∈ X ∨ p.1 ∈ W) (hd : dstOk C.N d = true) (hpn : ∀ n ∈ X, n ∉ C.pn)
    (had : Adv R B g w W X R' B' g' w') (hR : ∀ b, R' b → R b ∨ w.heap.size ≤ b) (hv : d.isSome = true → RA P w' R' B' g' v u) (hob : ∀ p ∈ df, RO P w' R' B' g' p.1 p.2) :
    St P C (setD (junkSl X σ) d v) (df ++ junkM X m) R' B' g' (a.put d u) w' := by
  have hWb : ∀ n ∈ W, ∀ b, (g n).has b → C.w0.heap.size ≤ b ∨ C.U0 b := fun n hn b hb => by
    obtain ⟨_, o, ho⟩ := hW n hn
    exact hs.ow n o b (LkL.ro hs hus (n, o) ho).2 hb
  refine ⟨had.wf, (put_defers' a d u).trans hs.nd, (put_size a d u).trans hs.sz, fun t v' ht => ?_, fun n o hn => ?_, fun n o b hn hb => ?_, fun b hb => ?_, fun b hb => had.r b (hs.r0 b hb), had.os.trans hs.os, had.tape.trans hs.tape,
    had.output.trans hs.output, Nat.le_trans hs.size had.size, fun b hb hu => ?_, fun n hn => (had.names n fun h => hpn n h hn).trans (hs.pin n hn), fun n hn b cur e hg hh => ?_⟩
  · have base : ∀ t v', lk (junkSl X σ) t = some v' → RA P w' R' B' g' v' (a.tmps.getD t undef) := fun t v' ht => by
      rw [lk_junkSl] at ht
      cases hl : lk σ t with
      | none => rw [hl] at ht; cases ht
      | some v0 =>
        rw [hl] at ht
        injection ht with ht
        subst ht
        exact had.ra hs.wf (hs.sl t v0 hl)
    cases d with
    | none => exact base t v' ht
    | some d =>
      have hlt : d < a.tmps.size := by rw [hs.sz]; exact Nat.le_of_ble_eq_true hd
      rw [getD_put a d t u hlt]
      change (bif Nat.beq d t then some v else lk (junkSl X σ) t) = some v' at ht
      cases hb : Nat.beq d t with
      | true =>
        rw [hb, cond_true] at ht
        injection ht with ht
        subst ht
        rw [if_pos (Nat.eq_of_beq_eq_true hb)]
        exact hv rfl
      | false =>
        rw [hb, cond_false] at ht
        rw [if_neg (Nat.ne_of_beq_eq_false hb)]
        exact base t v' ht
  · rcases lk_append _ _ _ _ hn with ⟨p, hp, h1, h2⟩ | ⟨hnd, h1⟩
    · subst h1; subst h2; exact hob p hp
    · obtain ⟨h2, o0, h3, h4⟩ := lk_junkM X m n o h1
      subst h4
      exact had.ro hs.wf h2 (fun hnW => by
        rcases (hW n hnW).1 with h5 | h5
        · exact h2 h5
        · exact hnd h5) (hs.ob n o0 h3)
  · rcases lk_append _ _ _ _ hn with ⟨p, hp, h1, h2⟩ | ⟨hnd, h1⟩
    · subst h1
      by_cases hX : p.1 ∈ X
      · rcases had.fresh p.1 hX b hb with h3 | ⟨k, hk, h3⟩
        · exact .inl (Nat.le_trans hs.size h3)
        · exact hWb k hk b h3
      · rw [had.names p.1 hX] at hb
        exact hWb p.1 ((hdf p hp).resolve_left hX) b hb
    · obtain ⟨h2, o0, h3, _⟩ := lk_junkM X m n o h1
      rw [had.names n h2] at hb
      exact hs.ow n o0 b h3 hb
  · rcases hR b hb with h1 | h1
    · exact hs.perm b h1
    · exact .inr (Nat.le_trans hs.size h1)
  · rw [had.heap b (Nat.lt_of_lt_of_le hb hs.size) fun n hn he => by
      rcases hWb n hn b he with h1 | h1
      · omega
      · exact hu h1]
    exact hs.heap b hb hu
  · obtain ⟨c1, h1, h2⟩ := hs.shp n hn b cur e hg hh
    obtain ⟨c2, h3, h4⟩ := had.ownH' hs.wf (fun h => hpn n h hn) (by rw [hs.pin n hn]; exact hg) h1
    exact ⟨c2, h3, h4.trans h2⟩

/-- What is known may be forgotten. -/
theorem St.weak (hs : St P C σ m R B g a w) (h1 : ∀ t v, lk σ' t = some v → lk σ t = some v) (h2 : ∀ n o, lk m' n = some o → lk m n = some o) : St P C σ' m' R B g a w :=
  { hs with sl := fun t v h => hs.sl t v (h1 t v h), ob := fun n o h => hs.ob n o (h2 n o h), ow := fun n o b h => hs.ow n o b (h2 n o h) }
end

/-! ### Code, as a list of what is left to do -/
inductive It where
  | code (c : Code)
  | blk (id : Nat)

abbrev Post := Exit → Slots → Mem → Prop

def lift (P : Program) (C : Ctx) (Q : Post) (e : Exit) (a : Act) (w : World) : Prop := ∃ σ m R B g, St P C σ m R B g a w ∧ Q e σ m

def kI (P : Program) (Q : Exit → Act → World → Prop) : List It → Exit → Act → World → Prop
  | [], e, a, w => Q e a w
  | .code c :: is, e, a, w => match e with
    | .normal => c.wp P (kI P Q is) a w
    | e => kI P Q is e a w
  | .blk id :: is, e, a, w => match e with
    | .exit id' => if id' = id then kI P Q is .normal a w else kI P Q is (.exit id') a w
    | e => kI P Q is e a w

def AWE (P : Program) (C : Ctx) (is : List It) (e : Exit) (σ : Slots) (m : Mem) (Q : Post) : Prop :=
  ∀ R B g a w, St P C σ m R B g a w → kI P (lift P C Q) is e a w

abbrev AWI (P : Program) (C : Ctx) (is : List It) (σ : Slots) (m : Mem) (Q : Post) : Prop := AWE P C is .normal σ m Q

def AWO (P : Program) (C : Ctx) (ops : Array Oper) (rest : List Oper) (is : List It) (σ : Slots) (m : Mem) (Q : Post) : Prop :=
  ∀ R B g a w, St P C σ m R B g a w → wpList P ops (kI P (lift P C Q) is) rest a w

def Ent (P : Program) (C : Ctx) (σ : Slots) (m : Mem) (σ' : Slots) (m' : Mem) : Prop :=
  ∀ R B g a w, St P C σ m R B g a w → ∃ R' B' g', St P C σ' m' R' B' g' a w

/-- The same, with a model: if the model ends in t, the post for t is reached. -/
def AWR {τ : Type} (P : Program) (C : Ctx) (is : List It) (σ : Slots) (m : Mem) (M : Option τ) (K : τ → Post) : Prop := ∀ t, M = some t → AWI P C is σ m (K t)
def AWRE {τ : Type} (P : Program) (C : Ctx) (is : List It) (e : Exit) (σ : Slots) (m : Mem) (M : Option τ) (K : τ → Post) : Prop := ∀ t, M = some t → AWE P C is e σ m (K t)
def AOR {τ : Type} (P : Program) (C : Ctx) (ops : Array Oper) (rest : List Oper) (is : List It) (σ : Slots) (m : Mem) (M : Option τ) (K : τ → Post) : Prop := ∀ t, M = some t → AWO P C ops rest is σ m (K t)

def loopM {σ τ : Type} (b : σ → Option (σ ⊕ τ)) : Nat → σ → Option τ
  | 0, _ => none
  | n + 1, s => match b s with
    | none => none
    | some (.inl s') => loopM b n s'
    | some (.inr t) => some t

section
variable {P : Program} {C : Ctx} {σ σ' : Slots} {m m' : Mem} {is : List It} {Q : Post} {ops : Array Oper} {rest : List Oper} {τ υ : Type} {M : Option τ} {K : τ → Post}

theorem AWE.ent {e : Exit} (h : Ent P C σ m σ' m') (k : AWE P C is e σ' m' Q) : AWE P C is e σ m Q := fun R B g a w hs => by
  obtain ⟨R', B', g', hs'⟩ := h R B g a w hs
  exact k _ _ _ _ _ hs'

theorem AWI.nil (h : Q .normal σ m) : AWI P C [] σ m Q := fun R B g a w hs => ⟨σ, m, R, B, g, hs, h⟩
theorem AWI.skip (h : AWI P C is σ m Q) : AWI P C (.code .skip :: is) σ m Q := fun R B g a w hs => wp_skip (h R B g a w hs)
theorem AWI.blk {id : Nat} (h : AWI P C is σ m Q) : AWI P C (.blk id :: is) σ m Q := fun R B g a w hs => h R B g a w hs
theorem AWI.seq {x y : Code} (h : AWI P C (.code x :: .code y :: is) σ m Q) : AWI P C (.code (.seq x y) :: is) σ m Q := fun R B g a w hs =>
  wp_seq (wp_mono (h R B g a w hs) fun e a w he => by cases e <;> exact he)
theorem AWI.block {id : Nat} {c : Code} (h : AWI P C (.code c :: .blk id :: is) σ m Q) : AWI P C (.code (.block id c) :: is) σ m Q := fun R B g a w hs =>
  wp_block (wp_mono (h R B g a w hs) fun e a w he => by
    cases e with
    | exit id' =>
      exact he
    | _ => exact he)
theorem AWI.exit {id : Nat} (h : AWE P C is (.exit id) σ m Q) : AWI P C (.code (.exit id) :: is) σ m Q := fun R B g a w hs => wp_exit (h R B g a w hs)
theorem AWI.ret (h : AWE P C is .ret σ m Q) : AWI P C (.code .ret :: is) σ m Q := fun R B g a w hs => wp_ret (h R B g a w hs)
theorem AWE.nil {e : Exit} (h : Q e σ m) : AWE P C [] e σ m Q := fun R B g a w hs => ⟨σ, m, R, B, g, hs, h⟩
theorem AWE.exit_hit {id : Nat} (h : AWI P C is σ m Q) : AWE P C (.blk id :: is) (.exit id) σ m Q := fun R B g a w hs => by
  show (if id = id then _ else _)
  rw [if_pos rfl]
  exact h R B g a w hs
theorem AWE.exit_miss {id id' : Nat} (hne : id' ≠ id) (h : AWE P C is (.exit id') σ m Q) : AWE P C (.blk id :: is) (.exit id') σ m Q := fun R B g a w hs => by
  show (if id' = id then _ else _)
  rw [if_neg hne]
  exact h R B g a w hs
theorem AWE.exit_code {id : Nat} {c : Code} (h : AWE P C is (.exit id) σ m Q) : AWE P C (.code c :: is) (.exit id) σ m Q := fun R B g a w hs => h R B g a w hs
theorem AWE.ret_blk {id : Nat} (h : AWE P C is .ret σ m Q) : AWE P C (.blk id :: is) .ret σ m Q := fun R B g a w hs => h R B g a w hs
theorem AWE.ret_code {c : Code} (h : AWE P C is .ret σ m Q) : AWE P C (.code c :: is) .ret σ m Q := fun R B g a w hs => h R B g a w hs

def dropTo (id : Nat) : List It → List It
  | [] => []
  | .code _ :: is => dropTo id is
  | .blk i :: is => bif Nat.beq i id then is else dropTo id is
def hasBlk (id : Nat) : List It → Bool
  | [] => false
  | .code _ :: is => hasBlk id is
  | .blk i :: is => Nat.beq i id || hasBlk id is
theorem AWE.exit_to {id : Nat} : ∀ {is : List It}, hasBlk id is = true → AWI P C (dropTo id is) σ m Q → AWE P C is (.exit id) σ m Q
  | [], h, _ => by cases h
  | .code c :: is, h, k => AWE.exit_code (AWE.exit_to (is := is) h k)
  | .blk i :: is, h, k => by
    unfold hasBlk at h
    unfold dropTo at k
    cases hb : Nat.beq i id with
    | true =>
      rw [hb, cond_true] at k
      have := Nat.eq_of_beq_eq_true hb
      subst this
      exact AWE.exit_hit k
    | false =>
      rw [hb, cond_false] at k
      rw [hb, Bool.false_or] at h
      exact AWE.exit_miss (Ne.symm (Nat.ne_of_beq_eq_false hb)) (AWE.exit_to (is := is) h k)
theorem AWE.ret_end : ∀ {is : List It}, Q .ret σ m → AWE P C is .ret σ m Q
  | [], h => AWE.nil h
  | .code _ :: is, h => AWE.ret_code (AWE.ret_end (is := is) h)
  | .blk _ :: is, h => AWE.ret_blk (AWE.ret_end (is := is) h)

theorem AWI.cond {c : Operand} {x y : Code} {b : Bool} (hc : EvO σ c (.s (.c (.pv (.sc (.bool b)))))) (ht : b = true → AWI P C (.code x :: is) σ m Q) (hf : b = false → AWI P C (.code y :: is) σ m Q) :
    AWI P C (.code (.cond c x y) :: is) σ m Q := fun R B g a w hs => by
  have hv := EvO.ra hs hc
  have he : a.eval c = .bool b := by
    obtain ⟨_, h2⟩ := hv
    generalize a.eval c = v at h2
    cases h2
    rfl
  refine wp_cond_split he (fun h => ?_) (fun h => ?_)
  · exact ht h R B g a w hs
  · exact hf h R B g a w hs

theorem AWI.region {id : Nat} {l : List Oper} (h : AWO P C l.toArray l is σ m Q) : AWI P C (.code (.region id l.toArray false) :: is) σ m Q := fun R B g a w hs => wp_region_lit (h R B g a w hs)

theorem AWO.nil (h : AWI P C is σ m Q) : AWO P C ops [] is σ m Q := fun R B g a w hs => wpList_nil (h R B g a w hs)

def subL (W X : List Nat) : Bool := W.all X.elem
def disL (X Y : List Nat) : Bool := X.all fun n => !Y.elem n
theorem disL_spec {X Y : List Nat} (h : disL X Y = true) : ∀ n ∈ X, n ∉ Y := fun n hn => by
  have := List.all_eq_true.1 h n hn
  exact notin_of_elem (by simpa using this)
def keys {α : Type} (l : List (Nat × α)) : List Nat := l.map (·.1)

theorem subL_spec {W X : List Nat} (h : subL W X = true) : ∀ n ∈ W, n ∈ X := fun n hn => List.mem_of_elem_eq_true (List.all_eq_true.1 h n hn)
theorem mem_keys {α : Type} {l : List (Nat × α)} {n : Nat} (h : n ∈ keys l) : ∃ o, (n, o) ∈ l := by
  obtain ⟨p, hp, rfl⟩ := List.mem_map.1 h
  exact ⟨p.2, hp⟩

/-- Whether an operation is wanted: its guard, by what the state knows. -/
def GuardIs (ops : Array Oper) (σ : Slots) (o : Oper) (b : Bool) : Prop := match o.guard with
  | none => b = true
  | some (j, want) => ∃ d, (ops[j]?).bind (·.dst) = some d ∧ ((∃ c, lk σ d = some (.s (.c (.pv (.sc (.bool c))))) ∧ b = (c == want)) ∨ (lk σ d = some (.tup []) ∧ b = false))

theorem GuardIs.wanted {o : Oper} {b : Bool} {R B : Nat → Prop} {g : Nat → GS} {a : Act} {w : World} (hs : St P C σ m R B g a w) (h : GuardIs ops σ o b) : Region.wanted o (yielded ops a.tmps) = b := by
  unfold GuardIs at h
  unfold Region.wanted
  split at h
  · rename_i hg; rw [hg]; exact h.symm
  · rename_i j want hg
    obtain ⟨d, h1, ⟨c, h2, h3⟩ | ⟨h2, h3⟩⟩ := h
    · rw [hg]
      have hv := hs.sl d _ h2
      have he : a.tmps.getD d undef = .bool c := by
        obtain ⟨_, hv⟩ := hv
        generalize a.tmps.getD d undef = v at hv
        cases hv
        rfl
      have he' : a.tmps[d]? = some (.bool c) := by
        rw [Array.getD_eq_getD_getElem?] at he
        cases hx : a.tmps[d]? with
        | none => rw [hx] at he; simp [undef] at he
        | some v => rw [hx] at he; simpa using he
      have hy : yielded ops a.tmps j = some c := by
        unfold yielded
        rw [h1]
        simp [he']
      simp only [hy]
      rw [h3]
      cases c <;> cases want <;> rfl
    · rw [hg]
      obtain ⟨vs, hv, hl, _⟩ := hs.sl d _ h2
      have hvs : vs = [] := List.eq_nil_of_length_eq_zero hl
      subst hvs
      have hy : yielded ops a.tmps j = none := by
        unfold yielded
        rw [h1]
        simp only [Option.bind_some]
        rw [Array.getD_eq_getD_getElem?] at hv
        cases hx : a.tmps[d]? with
        | none => rfl
        | some v =>
          rw [hx] at hv
          have : v = .tuple #[] := by simpa using hv
          subst this
          rfl
      simp only [hy]
      rw [h3]
      rfl

theorem AWO.step {o : Oper} {ins : List (Operand × AV)} {us df : Mem} {v : AV} {W X : List Nat} (hlt : LT P o ins us v df W X) (hi : EvL σ ins) (hu : LkL m us) (hg : GuardIs ops σ o true)
    (hside : (dstOk C.N o.dst && subL W (X ++ keys df) && subL W (keys us) && subL (keys df) (X ++ W) && disL X C.pn) = true) (h : AWO P C ops rest is (setD (junkSl X σ) o.dst v) (df ++ junkM X m) Q) : AWO P C ops (o :: rest) is σ m Q := fun R B g a w hs => by
  simp only [Bool.and_eq_true] at hside
  obtain ⟨⟨⟨⟨h1, h2⟩, h3⟩, h4⟩, h5⟩ := hside
  refine wpList_step fun K' hK' => ?_
  rw [if_pos (hg.wanted hs)]
  refine hlt R B g w a hs.wf (EvL.ra hs hi) (fun p hp => (LkL.ro hs hu p hp).1) K' _ fun u R' B' g' w' had hR hv hob => ?_
  exact hK' _ _ (h _ _ _ _ _ (hs.step hu (fun n hn => ⟨List.mem_append.1 (subL_spec h2 n hn), mem_keys (subL_spec h3 n hn)⟩) (fun p hp => List.mem_append.1 (subL_spec h4 p.1 (List.mem_map.2 ⟨p, hp, rfl⟩))) h1 (disL_spec h5) had hR hv hob))

theorem AWO.skip {o : Oper} (hg : GuardIs ops σ o false) (hd : dstOk C.N o.dst = true) (h : AWO P C ops rest is (setD σ o.dst (.tup [])) m Q) : AWO P C ops (o :: rest) is σ m Q := fun R B g a w hs => by
  refine wpList_step fun K' hK' => ?_
  rw [if_neg (by rw [hg.wanted hs]; exact Bool.false_ne_true)]
  refine hK' _ _ (h R B g _ w ?_)
  refine { hs with nd := (put_defers' a _ _).trans hs.nd, sz := (put_size a _ _).trans hs.sz, sl := fun t v ht => ?_ }
  cases hdst : o.dst with
  | none => rw [hdst] at ht; exact hs.sl t v ht
  | some d =>
    rw [hdst] at ht hd
    have hlt : d < a.tmps.size := by rw [hs.sz]; exact Nat.le_of_ble_eq_true hd
    rw [getD_put a d t undef hlt]
    change (bif Nat.beq d t then some (AV.tup []) else lk σ t) = some v at ht
    cases hb : Nat.beq d t with
    | true =>
      rw [hb, cond_true] at ht
      injection ht with ht
      subst ht
      rw [if_pos (Nat.eq_of_beq_eq_true hb)]
      exact ⟨[], rfl, rfl, fun k x hk => by simp at hk⟩
    | false =>
      rw [hb, cond_false] at ht
      rw [if_neg (Nat.ne_of_beq_eq_false hb)]
      exact hs.sl t v ht

/-! ### With a model -/
theorem AWR.of (h : ∀ t, M = some t → AWI P C is σ m (K t)) : AWR P C is σ m M K := h
theorem AWR.seq {x y : Code} (h : AWR P C (.code x :: .code y :: is) σ m M K) : AWR P C (.code (.seq x y) :: is) σ m M K := fun t ht => AWI.seq (h t ht)
theorem AWR.skip (h : AWR P C is σ m M K) : AWR P C (.code .skip :: is) σ m M K := fun t ht => AWI.skip (h t ht)
theorem AWR.blk {id : Nat} (h : AWR P C is σ m M K) : AWR P C (.blk id :: is) σ m M K := fun t ht => AWI.blk (h t ht)
theorem AWR.block {id : Nat} {c : Code} (h : AWR P C (.code c :: .blk id :: is) σ m M K) : AWR P C (.code (.block id c) :: is) σ m M K := fun t ht => AWI.block (h t ht)
theorem AWR.exit {id : Nat} (hb : hasBlk id is = true) (h : AWR P C (dropTo id is) σ m M K) : AWR P C (.code (.exit id) :: is) σ m M K := fun t ht => AWI.exit (AWE.exit_to hb (h t ht))
theorem AWR.exit_out {id : Nat} {t : τ} (h : AWE P C is (.exit id) σ m (K t)) : AWR P C (.code (.exit id) :: is) σ m (some t) K := fun t' ht => by
  injection ht with ht
  subst ht
  exact AWI.exit h
theorem AWR.ret {t : τ} (h : K t .ret σ m) : AWR P C (.code .ret :: is) σ m (some t) K := fun t' ht => by
  injection ht with ht
  subst ht
  exact AWI.ret (AWE.ret_end h)
theorem AWR.nil {t : τ} (h : K t .normal σ m) : AWR P C [] σ m (some t) K := fun t' ht => by
  injection ht with ht
  subst ht
  exact AWI.nil h
theorem AWR.region {id : Nat} {l : List Oper} (h : AOR P C l.toArray l is σ m M K) : AWR P C (.code (.region id l.toArray false) :: is) σ m M K := fun t ht => AWI.region (h t ht)
theorem AWR.ent (h : Ent P C σ m σ' m') (k : AWR P C is σ' m' M K) : AWR P C is σ m M K := fun t ht => AWE.ent h (k t ht)
theorem AWR.bind {x : Option υ} {f : υ → Option τ} (h : ∀ u, x = some u → AWR P C is σ m (f u) K) : AWR P C is σ m (x.bind f) K := fun t ht => by
  obtain ⟨u, hu, hf⟩ := Option.bind_eq_some_iff.1 ht
  exact h u hu t hf
theorem AWR.cond {c : Operand} {x y : Code} {b : Bool} {M1 M2 : Option τ} (hc : EvO σ c (.s (.c (.pv (.sc (.bool b)))))) (ht : b = true → AWR P C (.code x :: is) σ m M1 K)
    (hf : b = false → AWR P C (.code y :: is) σ m M2 K) : AWR P C (.code (.cond c x y) :: is) σ m (bif b then M1 else M2) K := fun t h => by
  refine AWI.cond hc (fun hb => ?_) (fun hb => ?_)
  · subst hb; exact ht rfl t h
  · subst hb; exact hf rfl t h
theorem AWR.split {b : Bool} {M1 M2 : Option τ} (ht : b = true → AWR P C is σ m M1 K) (hf : b = false → AWR P C is σ m M2 K) : AWR P C is σ m (bif b then M1 else M2) K := fun t h => by
  cases hb : b with
  | true => rw [hb] at h; exact ht hb t h
  | false => rw [hb] at h; exact hf hb t h
theorem AWR.none : AWR P C is σ m (none : Option τ) K := fun t h => by cases h

theorem AOR.nil (h : AWR P C is σ m M K) : AOR P C ops [] is σ m M K := fun t ht => AWO.nil (h t ht)
theorem AOR.bind {x : Option υ} {f : υ → Option τ} (h : ∀ u, x = some u → AOR P C ops rest is σ m (f u) K) : AOR P C ops rest is σ m (x.bind f) K := fun t ht => by
  obtain ⟨u, hu, hf⟩ := Option.bind_eq_some_iff.1 ht
  exact h u hu t hf
theorem AOR.split {b : Bool} {M1 M2 : Option τ} (ht : b = true → AOR P C ops rest is σ m M1 K) (hf : b = false → AOR P C ops rest is σ m M2 K) : AOR P C ops rest is σ m (bif b then M1 else M2) K := fun t h => by
  cases hb : b with
  | true => rw [hb] at h; exact ht hb t h
  | false => rw [hb] at h; exact hf hb t h
theorem AOR.step {o : Oper} {ins : List (Operand × AV)} {us df : Mem} {v : AV} {W X : List Nat} (hlt : LT P o ins us v df W X) (hi : EvL σ ins) (hu : LkL m us) (hg : GuardIs ops σ o true)
    (hside : (dstOk C.N o.dst && subL W (X ++ keys df) && subL W (keys us) && subL (keys df) (X ++ W) && disL X C.pn) = true) (h : AOR P C ops rest is (setD (junkSl X σ) o.dst v) (df ++ junkM X m) M K) : AOR P C ops (o :: rest) is σ m M K :=
  fun t ht => AWO.step hlt hi hu hg hside (h t ht)
theorem AOR.skip {o : Oper} (hg : GuardIs ops σ o false) (hd : dstOk C.N o.dst = true) (h : AOR P C ops rest is (setD σ o.dst (.tup [])) m M K) : AOR P C ops (o :: rest) is σ m M K :=
  fun t ht => AWO.skip hg hd (h t ht)

theorem any_elem_nil : ∀ l : List Nat, l.any (List.elem · []) = false
  | [] => rfl
  | _ :: r => any_elem_nil r
theorem junkC_nil (x : CV) : junkC [] x = x := by
  cases x with
  | fn f caps => show (bif caps.any (List.elem · []) then CV.junk else CV.fn f caps) = _; rw [any_elem_nil]; rfl
  | _ => rfl
theorem junkS_nil (x : SV) : junkS [] x = x := by
  cases x with
  | c x => simp [junkS, junkC_nil]
  | agg cs => simp [junkS, List.map_congr_left (fun x _ => junkC_nil x)]
theorem junkA_nil (x : AV) : junkA [] x = x := by
  cases x with
  | s x => simp [junkA, junkS_nil]
  | tup xs => simp [junkA, List.map_congr_left (fun x _ => junkS_nil x)]
theorem junkO_nil (x : Ob) : junkO [] x = x := by
  cases x with
  | row e els => simp [junkO, List.map_congr_left (fun x _ => junkC_nil x)]
  | prow e els => rfl
  | mp es => rfl
  | pool e rows => rfl
  | trow e p lens => rfl
  | unk => rfl
theorem junkSl_nil (σ : Slots) : junkSl [] σ = σ := by
  unfold junkSl
  rw [List.map_congr_left (g := id) fun p _ => by rw [junkA_nil]; rfl, List.map_id]
theorem junkM_nil : ∀ m : Mem, junkM [] m = m
  | [] => rfl
  | (n, o) :: r => by simp [junkM, List.elem, junkO_nil, junkM_nil r]

/-- An operation that gives no name a new meaning. -/
theorem AOR.pure {o : Oper} {ins : List (Operand × AV)} {us : Mem} {v : AV} (hlt : LT P o ins us v [] [] []) (hi : EvL σ ins) (hu : LkL m us) (hg : GuardIs ops σ o true)
    (hd : dstOk C.N o.dst = true) (h : AOR P C ops rest is (setD σ o.dst v) m M K) : AOR P C ops (o :: rest) is σ m M K :=
  AOR.step hlt hi hu hg (by rw [hd]; rfl) (by rw [junkSl_nil, junkM_nil]; exact h)

/-- A piece of code whose ways out meet again: its model's outcome says in which state. -/
theorem AWR.join {c : Code} {M1 : Option υ} {f : υ → Option τ} (S : υ → Slots × Mem) (h1 : AWR P C [.code c] σ m M1 fun t e σ' m' => e = .normal ∧ Ent P C σ' m' (S t).1 (S t).2)
    (h2 : ∀ t, M1 = some t → AWR P C is (S t).1 (S t).2 (f t) K) : AWR P C (.code c :: is) σ m (M1.bind f) K := fun t ht R B g a w hs => by
  obtain ⟨u, hu, hf⟩ := Option.bind_eq_some_iff.1 ht
  refine wp_mono (h1 u hu R B g a w hs) fun e a w he => ?_
  obtain ⟨σ', m', R', B', g', hs', rfl, hent⟩ := he
  obtain ⟨R2, B2, g2, hs2⟩ := hent _ _ _ _ _ hs'
  exact h2 u hu t hf _ _ _ _ _ hs2

/-- A loop. Lv: how it is left. -/
theorem AWI.loop {σs : Type} {body : Code} (bm : σs → Option (σs ⊕ τ)) (S : σs → Slots × Mem) (Lv : τ → Post)
    (hb : ∀ s, AWR P C [.code body] (S s).1 (S s).2 (bm s) fun o e σ m => match o with
      | .inl s' => e = .normal ∧ Ent P C σ m (S s').1 (S s').2
      | .inr t => e ≠ .normal ∧ Lv t e σ m)
    (t : τ) (hl : ∀ e σ m, Lv t e σ m → AWE P C is e σ m Q) : ∀ (n : Nat) (s : σs), loopM bm n s = some t → AWI P C (.code (.loop body) :: is) (S s).1 (S s).2 Q := by
  intro n s hM R B g a w hs
  refine wp_loop_rounds n ?_
  induction n generalizing s R B g a w with
  | zero => cases hM
  | succ n ih =>
    rw [rounds_succ]
    unfold loopM at hM
    cases hbs : bm s with
    | none => rw [hbs] at hM; cases hM
    | some o =>
      rw [hbs] at hM
      refine wp_mono (hb s o hbs R B g a w hs) fun e a' w' he => ?_
      obtain ⟨σ', m', R', B', g', hs', hp⟩ := he
      cases o with
      | inl s' =>
        obtain ⟨rfl, hent⟩ := hp
        obtain ⟨R2, B2, g2, hs2⟩ := hent _ _ _ _ _ hs'
        exact ih s' hM _ _ _ _ _ hs2
      | inr t' =>
        obtain ⟨hne, hlv⟩ := hp
        change some t' = some t at hM
        injection hM with hM
        subst hM
        have hk := hl e σ' m' hlv _ _ _ _ _ hs'
        cases e with
        | normal => exact absurd rfl hne
        | _ => exact hk

theorem AWR.loop {σs : Type} {body : Code} (bm : σs → Option (σs ⊕ υ)) (S : σs → Slots × Mem) (Lv : υ → Post) {f : υ → Option τ} {n : Nat} {s : σs}
    (hb : ∀ s, AWR P C [.code body] (S s).1 (S s).2 (bm s) fun o e σ m => match o with
      | .inl s' => e = .normal ∧ Ent P C σ m (S s').1 (S s').2
      | .inr t => e ≠ .normal ∧ Lv t e σ m)
    (h0 : Ent P C σ m (S s).1 (S s).2) (hl : ∀ u e σ m, loopM bm n s = some u → Lv u e σ m → AWRE P C is e σ m (f u) K) : AWR P C (.code (.loop body) :: is) σ m ((loopM bm n s).bind f) K := fun t ht => by
  obtain ⟨u, hu, hf⟩ := Option.bind_eq_some_iff.1 ht
  exact AWE.ent h0 (AWI.loop bm S Lv hb u (fun e σ m hlv => hl u e σ m hu hlv t hf) n s hu)
end

end Go.Fw
