/- The framework, part 3: the operations that only compute or read. -/
import Derived.Test.YtfiiebikkimjbaaFw2
import Derived.Laws.StructEq
set_option linter.unusedVariables false
set_option linter.unusedSimpArgs false
set_option linter.unnecessarySimpa false
namespace Go.Fw

abbrev iC (n : Int) : CV := .pv (.sc (.int .i64 n))
abbrev bC (b : Bool) : CV := .pv (.sc (.bool b))
abbrev sC (v : Value) : CV := .pv (.sc v)
abbrev Cc (x : CV) : AV := .s (.c x)
abbrev Ag (cs : List CV) : AV := .s (.agg cs)
abbrev Iv (n : Int) : AV := .s (.c (.pv (.sc (.int .i64 n))))
abbrev Bv (b : Bool) : AV := .s (.c (.pv (.sc (.bool b))))
abbrev Sv (v : Value) : AV := .s (.c (.pv (.sc v)))
abbrev Xs (els : List (List PV)) : AV := .s (.c (.pv (.xs false els)))
abbrev nilV : Value := .slice none 0 0

/-- an int of 64 bits -/
def w64 (n : Int) : Int := IntKind.i64.wrap n
theorem w64_id {n : Int} (h1 : -9223372036854775808 ≤ n) (h2 : n ≤ 9223372036854775807) : w64 n = n := by
  unfold w64; rw [IntKind.wrap_i64]; omega

theorem sc_inv {P : Program} {w : World} {R B : Nat → Prop} {g : Nat → GS} {c v : Value} (h : RA P w R B g (.s (.c (.pv (.sc c)))) v) : v = c := by
  obtain ⟨_, h2⟩ := h
  cases h2
  rfl
theorem sc_mk {P : Program} {w : World} {R B : Nat → Prop} {g : Nat → GS} {c : Value} (h : c.oneCell' = true) : RA P w R B g (.s (.c (.pv (.sc c)))) c := ⟨h, .sc h⟩

theorem Adv.refl {R B : Nat → Prop} {g : Nat → GS} {w : World} (h : WF R B g w) : Adv R B g w [] [] R B g w :=
  ⟨h, fun _ h => h, fun _ h => h, rfl, rfl, rfl, Nat.le_refl _, fun _ _ _ => rfl, fun _ _ => rfl, fun n hn => (by cases hn), fun n hn => (by cases hn)⟩

section
variable {P : Program} {o : Oper} {us : Mem}

theorem LT.calm {ins : List (Operand × AV)} {v : AV}
    (h : ∀ R B g w (a : Act), WF R B g w → (∀ p ∈ ins, RA P w R B g p.2 (a.eval p.1)) → (∀ p ∈ us, RO P w R B g p.1 p.2) → ∃ u, (execOp a.eval o).run P w = .ok (.value u) w ∧ RA P w R B g v u) : LT P o ins us v [] [] [] := by
  intro R B g w a hw hi hu K Q hK
  obtain ⟨u, hr, hv⟩ := h R B g w a hw hi hu
  unfold Oper.wp
  rw [hr]
  exact hK u R B g w (.refl hw) (fun b hb => .inl hb) (fun _ => hv) (fun p hp => by cases hp)

theorem in1 {P : Program} {w : World} {R B : Nat → Prop} {g : Nat → GS} {a : Act} {x : Operand} {v : AV} {r : List (Operand × AV)} (h : ∀ p ∈ (x, v) :: r, RA P w R B g p.2 (a.eval p.1)) : RA P w R B g v (a.eval x) := h (x, v) List.mem_cons_self
theorem in2 {P : Program} {w : World} {R B : Nat → Prop} {g : Nat → GS} {a : Act} {x y : Operand} {v u : AV} {r : List (Operand × AV)} (h : ∀ p ∈ (x, v) :: (y, u) :: r, RA P w R B g p.2 (a.eval p.1)) : RA P w R B g u (a.eval y) := h (y, u) (List.mem_cons_of_mem _ List.mem_cons_self)
theorem in3 {P : Program} {w : World} {R B : Nat → Prop} {g : Nat → GS} {a : Act} {x y z : Operand} {v u t : AV} {r : List (Operand × AV)} (h : ∀ p ∈ (x, v) :: (y, u) :: (z, t) :: r, RA P w R B g p.2 (a.eval p.1)) : RA P w R B g t (a.eval z) := h (z, t) (List.mem_cons_of_mem _ (List.mem_cons_of_mem _ List.mem_cons_self))
theorem us1 {P : Program} {w : World} {R B : Nat → Prop} {g : Nat → GS} {n : Nat} {ob : Ob} {r : Mem} (h : ∀ p ∈ (n, ob) :: r, RO P w R B g p.1 p.2) : RO P w R B g n ob := h (n, ob) List.mem_cons_self
theorem us2 {P : Program} {w : World} {R B : Nat → Prop} {g : Nat → GS} {n k : Nat} {ob oc : Ob} {r : Mem} (h : ∀ p ∈ (n, ob) :: (k, oc) :: r, RO P w R B g p.1 p.2) : RO P w R B g k oc := h (k, oc) (List.mem_cons_of_mem _ List.mem_cons_self)

theorem LT.move {x : Operand} {v : AV} (ho : o.op = .move x) : LT P o [(x, v)] [] v [] [] [] := .calm fun R B g w a _ hi _ => ⟨a.eval x, by simp [execOp, ho], in1 hi⟩
theorem LT.assign {x : Operand} {v : AV} (ho : o.op = .assign x) : LT P o [(x, v)] [] v [] [] [] := .calm fun R B g w a _ hi _ => ⟨a.eval x, by simp [execOp, ho], in1 hi⟩
theorem LT.pickT {c x y : Operand} {v : AV} {b : Bool} (ho : o.op = .pick c x y) (hb : b = true) : LT P o [(c, Bv b), (x, v)] [] v [] [] [] := .calm fun R B g w a _ hi _ =>
  ⟨a.eval x, by simp [execOp, ho, sc_inv (in1 hi), hb, asBool], in2 hi⟩
theorem LT.pickF {c x y : Operand} {v : AV} {b : Bool} (ho : o.op = .pick c x y) (hb : b = false) : LT P o [(c, Bv b), (y, v)] [] v [] [] [] := .calm fun R B g w a _ hi _ =>
  ⟨a.eval y, by simp [execOp, ho, sc_inv (in1 hi), hb, asBool], in2 hi⟩

/-- Two ints (of one kind). -/
theorem LT.bin {op : BinOp} {t t' : TypeId} {x y : Operand} {k k' : IntKind} {m n : Int} {r : Value} (ho : o.op = .binOp op t x y t') (hr : r.oneCell' = true) (h : binOp op t (.int k m) (.int k' n) = pure r) :
    LT P o [(x, Sv (.int k m)), (y, Sv (.int k' n))] [] (Sv r) [] [] [] := .calm fun R B g w a _ hi _ =>
  ⟨r, by simp [execOp, ho, sc_inv (in1 hi), sc_inv (in2 hi), eqGuard_at_int, h], sc_mk hr⟩
section
variable {t t' : TypeId} {x y : Operand} {k : IntKind} {m n : Int}
theorem LT.add (ho : o.op = .binOp .add t x y t') : LT P o [(x, Iv m), (y, Iv n)] [] (Iv (w64 (m + n))) [] [] [] := .bin ho rfl (by rw [binOp_add]; rfl)
theorem LT.sub (ho : o.op = .binOp .sub t x y t') : LT P o [(x, Iv m), (y, Iv n)] [] (Iv (w64 (m - n))) [] [] [] := .bin ho rfl (by rw [binOp_sub]; rfl)
theorem LT.mul (ho : o.op = .binOp .mul t x y t') : LT P o [(x, Iv m), (y, Iv n)] [] (Iv (w64 (m * n))) [] [] [] := .bin ho rfl (by rw [binOp_mul]; rfl)
theorem LT.quo (ho : o.op = .binOp .quo t x y t') (hn : n ≠ 0) : LT P o [(x, Iv m), (y, Iv n)] [] (Iv (w64 (m.tdiv n))) [] [] [] := .bin ho rfl (by rw [binOp_quo]; simp [Op.intDiv, hn]; rfl)
theorem LT.rem (ho : o.op = .binOp .rem t x y t') (hn : n ≠ 0) : LT P o [(x, Iv m), (y, Iv n)] [] (Iv (m.tmod n)) [] [] [] := .bin ho rfl (by rw [binOp_rem]; simp [Op.intDiv, hn])
theorem LT.lss (ho : o.op = .binOp .lss t x y t') : LT P o [(x, Sv (.int k m)), (y, Sv (.int k n))] [] (Bv (decide (m < n))) [] [] [] := .bin ho rfl (binOp_lss ..)
theorem LT.leq (ho : o.op = .binOp .leq t x y t') : LT P o [(x, Sv (.int k m)), (y, Sv (.int k n))] [] (Bv (decide (m ≤ n))) [] [] [] := .bin ho rfl (binOp_leq ..)
theorem LT.gtr (ho : o.op = .binOp .gtr t x y t') : LT P o [(x, Sv (.int k m)), (y, Sv (.int k n))] [] (Bv (decide (n < m))) [] [] [] := .bin ho rfl (binOp_gtr ..)
theorem LT.geq (ho : o.op = .binOp .geq t x y t') : LT P o [(x, Sv (.int k m)), (y, Sv (.int k n))] [] (Bv (decide (n ≤ m))) [] [] [] := .bin ho rfl (binOp_geq ..)
theorem LT.eql (ho : o.op = .binOp .eql t x y t') : LT P o [(x, Sv (.int k m)), (y, Sv (.int k n))] [] (Bv (m == n)) [] [] [] := .bin ho rfl (binOp_eql ..)
theorem LT.neq (ho : o.op = .binOp .neq t x y t') : LT P o [(x, Sv (.int k m)), (y, Sv (.int k n))] [] (Bv (m != n)) [] [] [] := .bin ho rfl (binOp_neq ..)
theorem LT.and (ho : o.op = .binOp .and t x y t') : LT P o [(x, Sv (.int k m)), (y, Sv (.int k n))] [] (Sv (.int k (bits .and k m n))) [] [] [] := .bin ho rfl (by rw [binOp_and]; rfl)
theorem LT.or (ho : o.op = .binOp .or t x y t') : LT P o [(x, Sv (.int k m)), (y, Sv (.int k n))] [] (Sv (.int k (bits .or k m n))) [] [] [] := .bin ho rfl (by rw [binOp_or]; rfl)
theorem LT.xor (ho : o.op = .binOp .xor t x y t') : LT P o [(x, Sv (.int k m)), (y, Sv (.int k n))] [] (Sv (.int k (bits .xor k m n))) [] [] [] := .bin ho rfl (by rw [binOp_xor]; rfl)
def shrI (m n : Int) : Int := m.fdiv (2 ^ (min n.toNat 64))
def shlI (m n : Int) : Int := w64 (m * 2 ^ (min n.toNat 64))
theorem LT.shr {k' : IntKind} (ho : o.op = .binOp .shr t x y t') (hn : 0 ≤ n) : LT P o [(x, Iv m), (y, Sv (.int k' n))] [] (Iv (shrI m n)) [] [] [] := .bin ho rfl (by
  rw [binOp_shr]; simp [Op.shift, shrI, IntKind.bits]; omega)
theorem LT.shl {k' : IntKind} (ho : o.op = .binOp .shl t x y t') (hn : 0 ≤ n) : LT P o [(x, Iv m), (y, Sv (.int k' n))] [] (Iv (shlI m n)) [] [] [] := .bin ho rfl (by
  rw [binOp_shl]; simp [Op.shift, shlI, w64, IntKind.bits]; omega)
theorem LT.neg (ho : o.op = .unOp .neg t x) : LT P o [(x, Iv m)] [] (Iv (w64 (-m))) [] [] [] := .calm fun R B g w a _ hi _ =>
  ⟨.int .i64 (w64 (-m)), by simp [execOp, ho, sc_inv (in1 hi), Op.unary, Op.intArith, w64], sc_mk rfl⟩
theorem LT.not {b : Bool} (ho : o.op = .unOp .not t x) : LT P o [(x, Bv b)] [] (Bv (!b)) [] [] [] := .calm fun R B g w a _ hi _ =>
  ⟨.bool (!b), by simp [execOp, ho, sc_inv (in1 hi), Op.unary], sc_mk rfl⟩
theorem LT.convInt {k' : IntKind} {s d : TypeId} (ho : o.op = .convert s d x) (hs : (P.underlying s).isSome = true) (hd : P.underlying d = some (.int k')) : LT P o [(x, Sv (.int k m))] [] (Sv (.int k' (k'.wrap m))) [] [] [] := .calm fun R B g w a _ hi _ =>
  ⟨.int k' (k'.wrap m), by
    obtain ⟨ds, hds⟩ := Option.isSome_iff_exists.mp hs
    simp [execOp, ho, sc_inv (in1 hi), convert, run_underlying hds, run_underlying hd, Conv.intToInt], sc_mk rfl⟩
end

/-- Two bools. -/
theorem run_equal_bool {P : Program} {t : TypeId} (ht : P.underlying t = some .bool) (b c : Bool) (w : World) : (Op.equal t (.bool b) (.bool c)).run P w = .ok (b == c) w := by
  have h : ∀ d : Nat, (Op.equalIn (d + 1) t (.bool b) (.bool c)).run P w = .ok (b == c) w := fun d => by simp [Op.equalIn, run_underlying ht]
  exact h 9999
theorem LT.eqlB {t t' : TypeId} {x y : Operand} {b c : Bool} (ho : o.op = .binOp .eql t x y t') (ht : P.underlying t = some .bool) : LT P o [(x, Bv b), (y, Bv c)] [] (Bv (b == c)) [] [] [] := .calm fun R B g w a _ hi _ =>
  ⟨.bool (b == c), by simp [execOp, ho, sc_inv (in1 hi), sc_inv (in2 hi), eqGuard_at_bool, binOp, run_equal_bool ht], sc_mk rfl⟩
theorem LT.neqB {t t' : TypeId} {x y : Operand} {b c : Bool} (ho : o.op = .binOp .neq t x y t') (ht : P.underlying t = some .bool) : LT P o [(x, Bv b), (y, Bv c)] [] (Bv (b != c)) [] [] [] := .calm fun R B g w a _ hi _ =>
  ⟨.bool (b != c), by simp [execOp, ho, sc_inv (in1 hi), sc_inv (in2 hi), eqGuard_at_bool, binOp, run_equal_bool ht, bne], sc_mk rfl⟩

/-- Two strings. -/
theorem LT.eqlS {t t' : TypeId} {x y : Operand} {b c : ByteArray} (ho : o.op = .binOp .eql t x y t') : LT P o [(x, Sv (.string b)), (y, Sv (.string c))] [] (Bv (b.toList == c.toList)) [] [] [] := .calm fun R B g w a _ hi _ =>
  ⟨.bool (b.toList == c.toList), by simp [execOp, ho, sc_inv (in1 hi), sc_inv (in2 hi), eqGuard_at_string, binOp, Op.stringOp], sc_mk rfl⟩
theorem LT.neqS {t t' : TypeId} {x y : Operand} {b c : ByteArray} (ho : o.op = .binOp .neq t x y t') : LT P o [(x, Sv (.string b)), (y, Sv (.string c))] [] (Bv (!(b.toList == c.toList))) [] [] [] := .calm fun R B g w a _ hi _ =>
  ⟨.bool (!(b.toList == c.toList)), by simp [execOp, ho, sc_inv (in1 hi), sc_inv (in2 hi), eqGuard_at_string, binOp, Op.stringOp], sc_mk rfl⟩

/-- len -/
theorem LT.lenNil {x : Operand} {t e : TypeId} (ho : o.op = .call { callee := .builtin .len, args := #[x], argTypes := #[t] }) (ht : P.underlying t = some (.slice e)) : LT P o [(x, Sv nilV)] [] (Iv 0) [] [] [] := .calm fun R B g w a _ hi _ =>
  ⟨.int .i64 0, by simp [execOp, ho, resolve, invoke, builtin, sc_inv (in1 hi), Builtin.len_, run_underlying ht, goInt], sc_mk rfl⟩
theorem LT.lenRO {x : Operand} {t e : TypeId} {q : Bool} {els : List (List PV)} (ho : o.op = .call { callee := .builtin .len, args := #[x], argTypes := #[t] }) (ht : P.underlying t = some (.slice e)) :
    LT P o [(x, Cc (.pv (.xs q els)))] [] (Iv els.length) [] [] [] := .calm fun R B g w a _ hi _ => by
  obtain ⟨_, h⟩ := in1 hi
  generalize hx : a.eval x = v at h
  cases h with
  | emp => exact ⟨.int .i64 0, by simp [execOp, ho, resolve, invoke, builtin, hx, Builtin.len_, run_underlying ht, goInt], sc_mk rfl⟩
  | xs val hn hq hc hs hv hr => subst hn; exact ⟨.int .i64 els.length, by simp [execOp, ho, resolve, invoke, builtin, hx, Builtin.len_, run_underlying ht, goInt], sc_mk rfl⟩
theorem LT.lenLoc {x : Operand} {t e : TypeId} {n off len : Nat} (ho : o.op = .call { callee := .builtin .len, args := #[x], argTypes := #[t] }) (ht : P.underlying t = some (.slice e)) :
    LT P o [(x, Cc (.loc n off len))] [] (Iv len) [] [] [] := .calm fun R B g w a _ hi _ => by
  obtain ⟨_, h⟩ := in1 hi
  refine ⟨.int .i64 len, ?_, sc_mk rfl⟩
  rcases h with ⟨_, _, rfl, h⟩ | ⟨rfl, _, _, _, h⟩ | ⟨b, cap, cur, e', _, _, _, _, _, h⟩ <;> simp [execOp, ho, resolve, invoke, builtin, h, Builtin.len_, run_underlying ht, goInt]
theorem LT.lenStr {x : Operand} {t : TypeId} {s : ByteArray} (ho : o.op = .call { callee := .builtin .len, args := #[x], argTypes := #[t] }) (ht : P.underlying t = some .string) : LT P o [(x, Sv (.string s))] [] (Iv s.size) [] [] [] := .calm fun R B g w a _ hi _ =>
  ⟨.int .i64 s.size, by simp [execOp, ho, resolve, invoke, builtin, sc_inv (in1 hi), Builtin.len_, run_underlying ht, goInt], sc_mk rfl⟩

theorem LT.min {x y : Operand} {ts : Array TypeId} {m n : Int} (ho : o.op = .call { callee := .builtin .min, args := #[x, y], argTypes := ts }) : LT P o [(x, Iv m), (y, Iv n)] [] (Iv (if n < m then n else m)) [] [] [] := .calm fun R B g w a _ hi _ =>
  ⟨.int .i64 (if n < m then n else m), by simp [execOp, ho, resolve, invoke, builtin, sc_inv (in1 hi), sc_inv (in2 hi), Builtin.min_, Builtin.min2], sc_mk rfl⟩
theorem LT.max {x y : Operand} {ts : Array TypeId} {m n : Int} (ho : o.op = .call { callee := .builtin .max, args := #[x, y], argTypes := ts }) : LT P o [(x, Iv m), (y, Iv n)] [] (Iv (if m < n then n else m)) [] [] [] := .calm fun R B g w a _ hi _ =>
  ⟨.int .i64 (if m < n then n else m), by simp [execOp, ho, resolve, invoke, builtin, sc_inv (in1 hi), sc_inv (in2 hi), Builtin.max_, Builtin.max2], sc_mk rfl⟩

/-- extract -/
theorem LT.extract {x : Operand} {k : Nat} {vs : List SV} {v : SV} (ho : o.op = .extract x k) (hk : vs[k]? = some v) : LT P o [(x, .tup vs)] [] (.s v) [] [] [] := .calm fun R B g w a _ hi _ => by
  obtain ⟨us, hx, hl, h⟩ := in1 hi
  obtain ⟨u, hu, hr⟩ := h k v hk
  exact ⟨u, by simp [execOp, ho, hx, Instr.extract, hu], hr⟩

/-- nilCheck: a pointer that is not nil, a function value -/
theorem LT.nilPl {x : Operand} {n off : Nat} (ho : o.op = .nilCheck x) : LT P o [(x, Cc (.pl n off))] [] (Cc (.pl n off)) [] [] [] := .calm fun R B g w a _ hi _ => by
  obtain ⟨h1, b, h2, h3⟩ := in1 hi
  exact ⟨a.eval x, by simp [execOp, ho, h3], h1, b, h2, h3⟩
theorem LT.nilFn {x : Operand} {f : FuncId} {caps : List Nat} (ho : o.op = .nilCheck x) : LT P o [(x, Cc (.fn f caps))] [] (Cc (.fn f caps)) [] [] [] := .calm fun R B g w a _ hi _ => by
  obtain ⟨h1, vs, h2, h3⟩ := in1 hi
  exact ⟨a.eval x, by simp [execOp, ho, h2], h1, vs, h2, h3⟩

/-- makeFunc: what it captures are own variables -/
theorem LT.makeFunc0 {f : FuncId} (ho : o.op = .makeFunc (.func f) #[] #[]) : LT P o [] [] (Cc (.fn f [])) [] [] [] := .calm fun R B g w a _ _ _ =>
  ⟨.func (.func f) #[] #[], by simp [execOp, ho, Instr.makeFunc], rfl, [], rfl, rfl, fun k n hk => by simp at hk⟩

/-! ### addresses -/
/-- Where a field lies in a struct type, in cells (of a field that has cells). -/
def foB (P : Program) (t : TypeId) (i : Nat) : Option Nat :=
  match P.underlying t with
  | some (.struct fs) => match fs[i]? with
    | some f => match P.info? f.type with
      | some j => if j.size = 0 then none else some f.offset
      | none => none
    | none => none
  | _ => none
theorem run_fieldAt {t : TypeId} {i off : Nat} (h : foB P t i = some off) (a : Addr) (w : World) : (Instr.fieldAt t (.pointer (some a)) i).run P w = .ok (.pointer (some (a.add off))) w := by
  unfold foB at h
  split at h
  · rename_i fs hf
    split at h
    · rename_i f hfi
      split at h
      · rename_i j hj
        split at h
        · cases h
        · rename_i h0
          injection h with h
          subst h
          simp [Instr.fieldAt, run_underlying hf, hfi, Instr.sureAddr, fieldPlace, sizeOf, typeInfo, hj, h0]
      · cases h
    · cases h
  · cases h
theorem add_lit (b i n : Nat) : (⟨b, i, none⟩ : Addr).add n = ⟨b, i + n, none⟩ := Addr.add_lit b i n
theorem add_add (a : Addr) (i j : Nat) : (a.add i).add j = a.add (i + j) := by
  unfold Addr.add
  by_cases hi : i = 0 <;> by_cases hj : j = 0 <;> simp [hi, hj, Nat.add_assoc]
theorem LT.fieldPl {x : Operand} {t : TypeId} {i n off d : Nat} (ho : o.op = .fieldAddr t x i) (h : foB P t i = some d) : LT P o [(x, Cc (.pl n off))] [] (Cc (.pl n (off + d))) [] [] [] := .calm fun R B g w a _ hi _ => by
  obtain ⟨_, b, h2, h3⟩ := in1 hi
  exact ⟨.pointer (some ⟨b, off + d, none⟩), by simp [execOp, ho, h3, run_fieldAt h, add_lit], rfl, b, h2, rfl⟩
theorem LT.fieldPx {x : Operand} {t : TypeId} {i d : Nat} {q : Bool} {cs : List PV} (ho : o.op = .fieldAddr t x i) (h : foB P t i = some d) : LT P o [(x, Cc (.px q cs))] [] (Cc (.px q (cs.drop d))) [] [] [] := .calm fun R B g w a _ hi _ => by
  obtain ⟨_, ad, h2, h3, h4⟩ := in1 hi
  refine ⟨.pointer (some (ad.add d)), by simp [execOp, ho, h2, run_fieldAt h], rfl, ad.add d, rfl, by rw [add_block]; exact h3, fun k p hk => ?_⟩
  rw [List.getElem?_drop] at hk
  rw [add_add]
  exact h4 _ p hk

theorem szP_of {e : TypeId} {i : TypeInfo} (h : P.info? e = some i) : szP P e = i.size := by simp [szP, h]
theorem run_sizeOf {e : TypeId} {i : TypeInfo} (h : P.info? e = some i) (w : World) : (sizeOf e).run P w = .ok (szP P e) w := by simp [sizeOf, typeInfo, h, szP_of h]

/-- The type of a slice's elements, if the table has it. -/
def elB (P : Program) (t : TypeId) : Option TypeId :=
  match P.underlying t with
  | some (.slice e) => if (P.info? e).isSome then some e else none
  | _ => none
theorem elB_spec {t e : TypeId} (h : elB P t = some e) : P.underlying t = some (.slice e) ∧ ∃ i, P.info? e = some i := by
  unfold elB at h
  split at h
  · rename_i e' he
    split at h
    · rename_i hi
      injection h with h
      subst h
      exact ⟨he, Option.isSome_iff_exists.1 hi⟩
    · cases h
  · cases h
theorem run_indexAt {t e : TypeId} (h : elB P t = some e) (a : Addr) (len cap : Nat) (k : IntKind) (i : Int) (h0 : 0 ≤ i) (h1 : i < len) (w : World) :
    (Instr.indexAt t (.slice (some a) len cap) (.int k i)).run P w = .ok (.pointer (some (a.add (i.toNat * szP P e)))) w := by
  obtain ⟨h2, j, h3⟩ := elB_spec h
  simp [Instr.indexAt, run_underlying h2, asIntOf, h0, h1, run_sizeOf h3]
theorem LT.indexRO {x y : Operand} {t e : TypeId} {i : Int} {q : Bool} {els : List (List PV)} {cs : List PV} (ho : o.op = .indexAddr t x y) (h : elB P t = some e) (h0 : 0 ≤ i) (hc : els[i.toNat]? = some cs) (hs : cs.length = szP P e) :
    LT P o [(x, Cc (.pv (.xs q els))), (y, Iv i)] [] (Cc (.px q cs)) [] [] [] := .calm fun R B g w a _ hi _ => by
  have hy := sc_inv (in2 hi)
  obtain ⟨_, h⟩ := in1 hi
  generalize hx : a.eval x = v at h
  cases h with
  | emp => cases hc
  | @xs _ _ ad c s n val hn hq hl hs' hv hr =>
    have hlt : i.toNat < els.length := (List.getElem?_eq_some_iff.1 hc).1
    have hsz : s = szP P e := by rw [← hs]; exact (hs' cs (List.mem_of_getElem? hc)).symm
    subst hn
    refine ⟨.pointer (some (ad.add (i.toNat * szP P e))), by simp [execOp, ho, hx, hy, run_indexAt h ad els.length c .i64 i h0 (by omega)], rfl, _, rfl, by rw [add_block]; exact hq, fun k p hk => ?_⟩
    rw [add_add, ← hsz]
    exact ⟨_, hv _ _ _ _ hc hk, hr _ _ _ _ hc hk⟩
theorem LT.indexLoc {x y : Operand} {t e : TypeId} {i : Int} {n len : Nat} {els : List (List CV)} (ho : o.op = .indexAddr t x y) (h : elB P t = some e) (h0 : 0 ≤ i) (h1 : i < len) :
    LT P o [(x, Cc (.loc n 0 len)), (y, Iv i)] [(n, .row e els)] (Cc (.pl n (i.toNat * szP P e))) [] [] [] := .calm fun R B g w a _ hi hu => by
  have hy := sc_inv (in2 hi)
  obtain ⟨_, h2⟩ := in1 hi
  rcases h2 with ⟨_, _, rfl, _⟩ | ⟨rfl, _⟩ | ⟨b, cap, cur, e', k1, k2, k3, k4, k5, k6⟩
  · omega
  · omega
  · have he : e' = e := by
      rcases us1 hu with ⟨h5, _⟩ | ⟨b', cur', h5, h6, _⟩
      · rw [k1] at h5; cases h5
      · rw [k1] at h5
        injection h5 with h5
        subst h5
        rw [k2] at h6
        injection h6 with h6
        injection h6
    subst he
    simp only [Nat.zero_mul] at k6
    exact ⟨.pointer (some ⟨b, i.toNat * szP P e', none⟩), by simp [execOp, ho, k6, hy, run_indexAt h ⟨b, 0, none⟩ len cap .i64 i h0 h1, add_lit], rfl, b, k1, rfl⟩

/-! ### loads -/
/-- Is a value of the type written out in several cells? -/
def agB (P : Program) (t : TypeId) : Option Bool :=
  match P.underlying t with
  | some (.struct _) | some (.array ..) => some true
  | some _ => some false
  | none => none
theorem run_isAgg {t : TypeId} {b : Bool} (h : agB P t = some b) (w : World) : (isAgg t).run P w = .ok b w := by
  unfold agB at h
  split at h
  · rename_i fs hf; injection h with h; subst h; simp [isAgg, run_underlying hf]
  · rename_i n e hf; injection h with h; subst h; simp [isAgg, run_underlying hf]
  · rename_i d h1 h2 hd
    injection h with h
    subst h
    simp only [isAgg, Sem.run_bind, run_underlying hd, Result.andThen_ok]
    rfl
  · cases h

theorem run_loadAt1 {t : TypeId} (h : agB P t = some false) {a : Addr} {w : World} {v : Value} (hc : w.cell? a = some v) : (Instr.loadAt t (.pointer (some a))).run P w = .ok v w := by
  simp [Instr.loadAt, Instr.sureAddr, loadVar, run_isAgg h, hc]
theorem run_loadAtN {t : TypeId} (h : agB P t = some true) {i : TypeInfo} (hi : P.info? t = some i) {a : Addr} {w : World} {cs : List Value} (hl : cs.length = szP P t) (hc : ∀ j v, cs[j]? = some v → w.cell? (a.add j) = some v) :
    (Instr.loadAt t (.pointer (some a))).run P w = .ok (.agg cs.toArray) w := by
  simp [Instr.loadAt, Instr.sureAddr, loadVar, run_isAgg h, run_sizeOf hi, ← hl, run_loadCells_list w a cs hc]

theorem LT.loadPx1 {x : Operand} {t : TypeId} {q : Bool} {p : PV} {cs : List PV} (ho : o.op = .load t x) (h : agB P t = some false) : LT P o [(x, Cc (.px q (p :: cs)))] [] (Cc (.pv p)) [] [] [] := .calm fun R B g w a _ hi _ => by
  obtain ⟨_, ad, h2, h3, h4⟩ := in1 hi
  obtain ⟨u, hu, hr⟩ := h4 0 p rfl
  have h0 : ad.add 0 = ad := Addr.add_zero' ad
  rw [h0] at hu
  exact ⟨u, by simp [execOp, ho, h2, run_loadAt1 h hu], hr.oneCell, hr⟩

/-- values for a list of cells -/
theorem cells_list {α : Type} {T : Value → Nat → Prop} {Rl : α → Value → Prop} : ∀ (cs : List α) (off : Nat), (∀ k x, cs[k]? = some x → ∃ u, T u (off + k) ∧ Rl x u) → ∃ us : List Value, us.length = cs.length ∧ (∀ (k : Nat) u, us[k]? = some u → T u (off + k)) ∧ ∀ (k : Nat) x, cs[k]? = some x → ∃ u, us[k]? = some u ∧ Rl x u
  | [], _, _ => ⟨[], rfl, fun k u h => by simp at h, fun k x h => by simp at h⟩
  | c :: cs, off, h => by
    obtain ⟨u, hu, hr⟩ := h 0 c rfl
    obtain ⟨us, h1, h2, h3⟩ := cells_list cs (off + 1) fun k x hk => by
      have := h (k + 1) x hk
      rwa [show off + (k + 1) = off + 1 + k by omega] at this
    refine ⟨u :: us, by simp [h1], fun k v hk => ?_, fun k x hk => ?_⟩
    · cases k with
      | zero => simp at hk; subst hk; exact hu
      | succ k =>
        have := h2 k v (by simpa using hk)
        rwa [show off + 1 + k = off + (k + 1) by omega] at this
    · cases k with
      | zero => simp at hk; subst hk; exact ⟨u, rfl, hr⟩
      | succ k => exact h3 k x (by simpa using hk)

theorem LT.loadPxN {x : Operand} {t : TypeId} {q : Bool} {cs : List PV} (ho : o.op = .load t x) (h : agB P t = some true) {i : TypeInfo} (hi : P.info? t = some i) (hl : cs.length = szP P t) :
    LT P o [(x, Cc (.px q cs))] [] (Ag (cs.map .pv)) [] [] [] := .calm fun R B g w a _ hin _ => by
  obtain ⟨_, ad, h2, h3, h4⟩ := in1 hin
  obtain ⟨us, k1, k2, k3⟩ := cells_list (T := fun u k => w.cell? (ad.add k) = some u) (Rl := fun p u => RPV w R B p u) cs 0 (fun k x hk => by simpa using h4 k x hk)
  refine ⟨.agg us.toArray, ?_, us, rfl, by simpa using k1, fun k x hk => ?_⟩
  · have := run_loadAtN (P := P) h hi (a := ad) (w := w) (cs := us) (k1.trans hl) (fun j v hj => by simpa using k2 j v hj)
    simp [execOp, ho, h2, this]
  · rw [List.getElem?_map] at hk
    cases hc : cs[k]? with
    | none => rw [hc] at hk; cases hk
    | some p =>
      rw [hc] at hk
      injection hk with hk
      subst hk
      obtain ⟨u, hu, hr⟩ := k3 k p hc
      exact ⟨u, hu, hr.oneCell, hr⟩

theorem row_cell {w : World} {b : Nat} {cur : Array Value} {e : TypeId} (h : w.heap[b]? = some (.cells cur e (0, 0))) (i : Nat) : w.cell? ⟨b, i, none⟩ = cur[i]? := cell_of_row w b i cur e (0, 0) h

/-- the cells at an own object's place -/
theorem own_cells {w : World} {R B : Nat → Prop} {g : Nat → GS} {n : Nat} {e : TypeId} {els : List (List CV)} (h : RO P w R B g n (.row e els)) {b : Nat} (hb : g n = .blk b) {j : Nat} {cs : List CV} (hj : els[j]? = some cs) :
    cs.length = szP P e ∧ ∀ k x, cs[k]? = some x → ∃ u, w.cell? ⟨b, j * szP P e + k, none⟩ = some u ∧ RC P w R B g x u := by
  rcases h with ⟨h1, _⟩ | ⟨b', cur, h1, h2, h3, h4, h5⟩
  · rw [hb] at h1; cases h1
  · rw [hb] at h1
    injection h1 with h1
    subst h1
    refine ⟨h3 cs (List.mem_of_getElem? hj), fun k x hk => ?_⟩
    obtain ⟨u, hu, hr⟩ := h5 j k cs x hj hk
    exact ⟨u, (row_cell h2 _).trans hu, hr⟩

theorem LT.loadPl1 {x : Operand} {t e : TypeId} {n off j k : Nat} {els : List (List CV)} {cs : List CV} {c : CV} (ho : o.op = .load t x) (h : agB P t = some false) (hj : els[j]? = some cs) (hk : cs[k]? = some c)
    (ha : off = j * szP P e + k) : LT P o [(x, Cc (.pl n off))] [(n, .row e els)] (Cc c) [] [] [] := .calm fun R B g w a _ hi hu => by
  obtain ⟨_, b, h2, h3⟩ := in1 hi
  obtain ⟨u, h4, h5⟩ := (own_cells (us1 hu) h2 hj).2 k c hk
  subst ha
  exact ⟨u, by simp [execOp, ho, h3, run_loadAt1 h h4], h5⟩
theorem LT.loadPlN {x : Operand} {t e : TypeId} {n off j k : Nat} {els : List (List CV)} {cs : List CV} (ho : o.op = .load t x) (h : agB P t = some true) {i : TypeInfo} (hi : P.info? t = some i) (hj : els[j]? = some cs)
    (ha : off = j * szP P e + k) (hl : ((cs.drop k).take (szP P t)).length = szP P t) : LT P o [(x, Cc (.pl n off))] [(n, .row e els)] (Ag ((cs.drop k).take (szP P t))) [] [] [] := .calm fun R B g w a _ hin hu => by
  obtain ⟨_, b, h2, h3⟩ := in1 hin
  have hcell := (own_cells (us1 hu) h2 hj).2
  subst ha
  obtain ⟨us, k1, k2, k3⟩ := cells_list (T := fun u i => w.cell? ⟨b, j * szP P e + k + i, none⟩ = some u) (Rl := fun p u => RC P w R B g p u) ((cs.drop k).take (szP P t)) 0 (fun i x hx => by
    rw [List.getElem?_take] at hx
    split at hx
    · rw [List.getElem?_drop] at hx
      obtain ⟨u, h4, h5⟩ := hcell _ x hx
      exact ⟨u, by simpa [Nat.add_assoc] using h4, h5⟩
    · cases hx)
  refine ⟨.agg us.toArray, ?_, us, rfl, by simpa using k1, k3⟩
  have := run_loadAtN (P := P) h hi (a := ⟨b, j * szP P e + k, none⟩) (w := w) (cs := us) (k1.trans hl) (fun i v hv => by rw [add_lit]; simpa using k2 i v hv)
  simp [execOp, ho, h3, this]
end

end Go.Fw
