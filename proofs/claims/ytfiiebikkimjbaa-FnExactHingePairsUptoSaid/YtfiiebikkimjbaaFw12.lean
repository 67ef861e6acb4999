/- The framework, part 12: two structs of ints compared; parts of slices. -/
import Derived.Test.YtfiiebikkimjbaaFw11
set_option linter.unusedVariables false
set_option linter.unusedSimpArgs false
set_option linter.unnecessarySimpa false
namespace Go.Fw

def eqI : List Int → List Int → Bool
  | [], [] => true
  | a :: r, b :: s => (a == b) && eqI r s
  | _, _ => false
theorem eqI_eq : ∀ a b : List Int, eqI a b = decide (a = b)
  | [], [] => rfl
  | [], _ :: _ => by simp [eqI]
  | _ :: _, [] => by simp [eqI]
  | a :: r, b :: s => by
    rw [eqI, eqI_eq r s]
    by_cases h1 : a = b <;> by_cases h2 : r = s <;> simp [h1, h2]

def istF (P : Program) : Nat → List Field → Bool
  | _, [] => true
  | k, f :: r => (f.name != "_") && Nat.beq f.offset k && (match P.underlying f.type with | some (.int _) => true | _ => false) && istF P (k + 1) r
/-- a struct type of n ints -/
def istB (P : Program) (t : TypeId) : Option Nat := match P.underlying t with
  | some (.struct fs) => if (istF P 0 fs.toList && !P.stoodInHeld t && !P.eqGuardType P.depth t) = true then some fs.size else none
  | _ => none

section
variable {P : Program} {o : Oper}
def ivs (l : List Int) : Array Value := (l.map fun n => Value.int .i64 n).toArray
theorem run_eqInts (w : World) (d : Nat) : ∀ (fs : List Field) (k : Nat) (xs ys : List Int), istF P k fs = true → xs.length = k + fs.length → ys.length = k + fs.length →
    (Op.eqFields (d + 1) (ivs xs) (ivs ys) fs).run P w = .ok (eqI (xs.drop k) (ys.drop k)) w
  | [], k, xs, ys, _, hx, hy => by
    rw [List.drop_eq_nil_of_le (by simp at hx; omega), List.drop_eq_nil_of_le (by simp at hy; omega)]
    rfl
  | f :: r, k, xs, ys, h, hx, hy => by
    unfold istF at h
    simp only [Bool.and_eq_true] at h
    obtain ⟨⟨⟨h1, h2⟩, h3⟩, h4⟩ := h
    have hoff : f.offset = k := Nat.eq_of_beq_eq_true h2
    have hname : f.name ≠ "_" := by simpa using h1
    have hkx : k < xs.length := by simp at hx; omega
    have hky : k < ys.length := by simp at hy; omega
    have hkind : ∃ kd, P.underlying f.type = some (.int kd) := by
      split at h3
      · exact ⟨_, by assumption⟩
      · cases h3
    obtain ⟨kd, hk⟩ := hkind
    have hpx : (part f.type (ivs xs) f.offset).run P w = .ok (.int .i64 xs[k]) w := by simp [part, isAgg, run_underlying hk, hoff, ivs, List.getElem?_map, hkx]
    have hpy : (part f.type (ivs ys) f.offset).run P w = .ok (.int .i64 ys[k]) w := by simp [part, isAgg, run_underlying hk, hoff, ivs, List.getElem?_map, hky]
    have ih := run_eqInts w d r (k + 1) xs ys h4 (by simp at hx ⊢; omega) (by simp at hy ⊢; omega)
    rw [List.drop_eq_getElem_cons hkx, List.drop_eq_getElem_cons hky]
    unfold Op.eqFields
    rw [if_pos hname]
    simp only [Sem.run_bind, hpx, hpy, Result.andThen_ok, run_equalIn_int w d f.type .i64 kd _ _ hk]
    cases hb : (xs[k] == ys[k]) with
    | true => simp [ih, eqI, hb]
    | false => simp [eqI, hb]
theorem run_eqlInts {t : TypeId} {n : Nat} (h : istB P t = some n) (xs ys : List Int) (hx : xs.length = n) (hy : ys.length = n) (w : World) :
    (Op.equalIn 10000 t (.agg (ivs xs)) (.agg (ivs ys))).run P w = .ok (eqI xs ys) w ∧ P.eqGuardType P.depth t = false := by
  unfold istB at h
  split at h
  · rename_i fs hfs
    split at h
    · rename_i hc
      simp only [Bool.and_eq_true, Bool.not_eq_true'] at hc
      injection h with h
      subst h
      have hf : P.fieldsOf t = fs := by simp [Program.fieldsOf, hfs]
      refine ⟨?_, hc.2⟩
      rw [show (10000 : Nat) = 9999 + 1 from rfl, run_equalIn_agg w 9999 t _ _ (by rw [hf]; exact hfs) hc.1.2, hf]
      have := run_eqInts (P := P) w 9998 fs.toList 0 xs ys hc.1.1 (by simpa using hx) (by simpa using hy)
      simpa using this
    · cases h
  · cases h

theorem ag_inv {w : World} {R B : Nat → Prop} {g : Nat → GS} {xs : List Int} {v : Value} (h : RA P w R B g (Ag (xs.map iC)) v) : v = .agg (ivs xs) := by
  obtain ⟨vs, rfl, hl, hc⟩ := h
  have : vs = xs.map fun n => Value.int .i64 n := by
    refine List.ext_getElem (by simpa using hl) fun i h1 h2 => ?_
    have hi : i < xs.length := by simpa using h2
    obtain ⟨u, h3, h4⟩ := hc i (iC xs[i]) (by rw [List.getElem?_map, List.getElem?_eq_getElem hi]; rfl)
    obtain ⟨_, h4⟩ := h4
    cases h4
    rw [List.getElem?_eq_getElem h1] at h3
    injection h3 with h3
    rw [h3]
    simp
  rw [this]
  rfl
theorem LT.eqlStruct {t t' : TypeId} {x y : Operand} {n : Nat} (xs ys : List Int) (ho : o.op = .binOp .eql t x y t') (h : istB P t = some n) (hx : xs.length = n) (hy : ys.length = n) :
    LT P o [(x, Ag (xs.map iC)), (y, Ag (ys.map iC))] [] (Bv (eqI xs ys)) [] [] [] := .calm fun R B g w a _ hi _ => by
  obtain ⟨h1, h2⟩ := run_eqlInts h xs ys hx hy w
  refine ⟨.bool (eqI xs ys), ?_, sc_mk rfl⟩
  simp only [execOp, ho, ag_inv (in1 hi), ag_inv (in2 hi), Sem.run_bind, run_eqGuard_agg w .eql t x y _ _ h2, Result.andThen_ok, run_eql_struct, h1, Sem.run_pure]
theorem LT.neqStruct {t t' : TypeId} {x y : Operand} {n : Nat} (xs ys : List Int) (ho : o.op = .binOp .neq t x y t') (h : istB P t = some n) (hx : xs.length = n) (hy : ys.length = n) :
    LT P o [(x, Ag (xs.map iC)), (y, Ag (ys.map iC))] [] (Bv (!eqI xs ys)) [] [] [] := .calm fun R B g w a _ hi _ => by
  obtain ⟨h1, h2⟩ := run_eqlInts h xs ys hx hy w
  refine ⟨.bool (!eqI xs ys), ?_, sc_mk rfl⟩
  simp only [execOp, ho, ag_inv (in1 hi), ag_inv (in2 hi), Sem.run_bind, run_eqGuard_agg w .neq t x y _ _ h2, Result.andThen_ok, run_neq_struct, h1, Sem.run_pure]
end
end Go.Fw
