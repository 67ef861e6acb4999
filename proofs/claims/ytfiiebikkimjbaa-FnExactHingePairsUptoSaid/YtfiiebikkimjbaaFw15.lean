/- The framework, part 15: slices of slices, a row appended to itself, maps from ints to ints. -/
import Derived.Test.YtfiiebikkimjbaaFw12
import Derived.MapKept
import Derived.Carry
import Derived.ChangeMaps5
set_option linter.unusedVariables false
set_option linter.unusedSimpArgs false
set_option linter.unnecessarySimpa false
namespace Go.Fw
open Go.ChangeMaps

/-! ### models -/
/-- a part of a list -/
def slc {α : Type} (l : List α) (lo hi : Int) : Option (List α) := if 0 ≤ lo ∧ lo ≤ hi ∧ hi ≤ (l.length : Int) then some ((l.take hi.toNat).drop lo.toNat) else none
theorem slc_spec {α : Type} {l r : List α} {lo hi : Int} (h : slc l lo hi = some r) : 0 ≤ lo ∧ lo ≤ hi ∧ hi ≤ (l.length : Int) ∧ r = (l.take hi.toNat).drop lo.toNat := by
  unfold slc at h
  split at h
  · rename_i h0
    injection h with h
    exact ⟨h0.1, h0.2.1, h0.2.2, h.symm⟩
  · cases h
theorem slc_lh {α : Type} {l r : List α} {lo hi : Int} (h : slc l lo hi = some r) : lo.toNat ≤ hi.toNat := by
  have := slc_spec h
  omega
theorem slc_hl {α : Type} {l r : List α} {lo hi : Int} (h : slc l lo hi = some r) : hi.toNat ≤ l.length := by
  have := slc_spec h
  omega
def mget : List (Int × Int) → Int → Int
  | [], _ => 0
  | e :: r, k => bif k == e.1 then e.2 else mget r k
def mhas : List (Int × Int) → Int → Bool
  | [], _ => false
  | e :: r, k => bif k == e.1 then true else mhas r k
def mput : List (Int × Int) → Int → Int → List (Int × Int)
  | [], k, v => [(k, v)]
  | e :: r, k, v => bif k == e.1 then (k, v) :: r else e :: mput r k v

section
variable {P : Program} {o : Oper} {w : World} {R B : Nat → Prop} {g : Nat → GS}

/-! ### a slice of a slice -/
/-- the bounds, when they fit -/
theorem run_sliceBounds {lo hi : Option Value} {len cap : Nat} {l h : Nat} (hlo : lo = some (.int .i64 (l : Int)) ∨ (lo = none ∧ l = 0)) (hhi : hi = some (.int .i64 (h : Int)) ∨ (hi = none ∧ h = len)) (h1 : l ≤ h) (h2 : h ≤ len) (h3 : len ≤ cap) (w : World) :
    (Instr.sliceBounds true len cap lo hi none).run P w = .ok (l, h, cap) w := by
  have e1 : (Instr.sliceBound (.int .i64 (h : Int)) cap .sliceAcap).run P w = .ok h w := by
    have : (0 : Int) ≤ (h : Int) ∧ (h : Int) ≤ (cap : Int) := by omega
    simp [Instr.sliceBound, asIntOf, this]
  have e2 : (Instr.sliceBound (.int .i64 (l : Int)) h .sliceB).run P w = .ok l w := by
    have : (0 : Int) ≤ (l : Int) ∧ (l : Int) ≤ (h : Int) := by omega
    simp [Instr.sliceBound, asIntOf, this]
  rcases hlo with rfl | ⟨rfl, rfl⟩ <;> rcases hhi with rfl | ⟨rfl, rfl⟩ <;> simp [Instr.sliceBounds, e1, e2, Result.andThen]

/-- operands of the bounds -/
def bndOk (b : Option (Operand × Int)) (x : Option Operand) : Prop := x = b.map (·.1)
def bndIns : Option (Operand × Int) → List (Operand × AV)
  | some (x, n) => [(x, Iv n)]
  | none => []
theorem bnd_val {a : Act} {b : Option (Operand × Int)} {x : Option Operand} (hx : x = b.map (·.1)) (h : ∀ p ∈ bndIns b, RA P w R B g p.2 (a.eval p.1)) : x.map a.eval = b.map fun q => Value.int .i64 q.2 := by
  subst hx
  cases b with
  | none => rfl
  | some q =>
    obtain ⟨y, n⟩ := q
    have := sc_inv (h (y, Iv n) List.mem_cons_self)
    simp [this]

theorem run_slice {t e : TypeId} {it : TypeInfo} (ht : P.underlying t = some (.slice e)) (hit : P.info? e = some it) {lo hi : Option Value} {A : Option Addr} {len cap l h : Nat} (hlo : lo = some (.int .i64 (l : Int)) ∨ (lo = none ∧ l = 0)) (hhi : hi = some (.int .i64 (h : Int)) ∨ (hi = none ∧ h = len)) (h1 : l ≤ h) (h2 : h ≤ len) (h3 : len ≤ cap) (w : World) :
    (Instr.sliceAt t (.slice A len cap) lo hi none).run P w = .ok (.slice (if cap = l then A else A.map (·.add (l * szP P e))) (h - l) (cap - l)) w := by
  have hb := run_sliceBounds (P := P) hlo hhi h1 h2 h3 w
  simp [Instr.sliceAt, Instr.slice, run_underlying ht, hb, run_sizeOf hit, Result.andThen]

/-- what bounds in ints say in numbers -/
theorem bnd_nat {b : Option (Operand × Int)} {n : Nat} {d : Option Nat} (h : (∃ x m, b = some (x, m) ∧ 0 ≤ m ∧ n = m.toNat) ∨ (b = none ∧ some n = d)) : (b.map fun q => Value.int .i64 q.2) = some (.int .i64 (n : Int)) ∨ ((b.map fun q => Value.int .i64 q.2) = none ∧ some n = d) := by
  rcases h with ⟨x, m, rfl, h0, rfl⟩ | ⟨rfl, h⟩
  · left
    simp [Int.toNat_of_nonneg h0]
  · exact .inr ⟨rfl, h⟩

theorem LT.sliceRO {x : Operand} {t e : TypeId} {lo hi : Option Operand} {blo bhi : Option (Operand × Int)} {q : Bool} {els : List (List PV)} {l h : Nat} (ho : o.op = .slice t x lo hi none) (hlo : lo = blo.map (·.1)) (hhi : hi = bhi.map (·.1)) (ht : P.underlying t = some (.slice e)) (hi2 : (P.info? e).isSome = true)
    (hl : ∀ cs ∈ els, cs.length = szP P e) (el : (∃ x m, blo = some (x, m) ∧ 0 ≤ m ∧ l = m.toNat) ∨ (blo = none ∧ some l = some 0)) (eh : (∃ x m, bhi = some (x, m) ∧ 0 ≤ m ∧ h = m.toNat) ∨ (bhi = none ∧ some h = some els.length)) (h1 : l ≤ h) (h2 : h ≤ els.length) :
    LT P o ((x, Cc (.pv (.xs q els))) :: (bndIns blo ++ bndIns bhi)) [] (Cc (.pv (.xs q ((els.take h).drop l)))) [] [] [] := .calm fun R B g w a hw hi3 _ => by
  obtain ⟨it, hit⟩ := Option.isSome_iff_exists.1 hi2
  have hv := in1 hi3
  have e1 : lo.map a.eval = blo.map fun q => Value.int .i64 q.2 := bnd_val hlo fun p hp => hi3 p (List.mem_cons_of_mem _ (List.mem_append_left _ hp))
  have e2 : hi.map a.eval = bhi.map fun q => Value.int .i64 q.2 := bnd_val hhi fun p hp => hi3 p (List.mem_cons_of_mem _ (List.mem_append_right _ hp))
  have el' := bnd_nat el
  have eh' := bnd_nat eh
  rw [← e1] at el'
  rw [← e2] at eh'
  have el2 : lo.map a.eval = some (.int .i64 (l : Int)) ∨ (lo.map a.eval = none ∧ l = 0) := el'.imp id (fun h => ⟨h.1, by injection h.2⟩)
  have eh2 : hi.map a.eval = some (.int .i64 (h : Int)) ∨ (hi.map a.eval = none ∧ h = els.length) := eh'.imp id (fun h => ⟨h.1, by injection h.2⟩)
  obtain ⟨_, hv⟩ := hv
  generalize hav : a.eval x = v at hv
  have fin : ∀ (A : Option Addr) (c : Nat), v = .slice A els.length c → els.length ≤ c → ((els.take h).drop l = [] ∨ ∃ ad, A = some ad ∧ pick2 R B q ad.block ∧ ∃ (s : Nat) (val : Nat → Nat → Value), (∀ cs ∈ els, cs.length = s) ∧ (∀ j k cs p, els[j]? = some cs → cs[k]? = some p → w.cell? (ad.add (j * s + k)) = some (val j k)) ∧ ∀ j k cs p, els[j]? = some cs → cs[k]? = some p → RPV w R B p (val j k)) →
      ∃ u, (execOp a.eval o).run P w = .ok (.value u) w ∧ RA P w R B g (Cc (.pv (.xs q ((els.take h).drop l)))) u := fun A c hA hc hx => by
    have hr := run_slice (P := P) ht hit (A := A) el2 eh2 h1 h2 hc w
    refine ⟨.slice (if c = l then A else A.map (·.add (l * szP P e))) (h - l) (c - l), ?_, ?_⟩
    · simp only [execOp, ho, hav, hA, Sem.run_bind, Option.map_none, hr, Result.andThen_ok, Sem.run_pure]
    · refine ⟨rfl, ?_⟩
      by_cases hnil : (els.take h).drop l = []
      · rw [hnil]
        have hz : h - l = 0 := by
          have := congrArg List.length hnil
          simp at this
          omega
        rw [hz]
        exact .emp
      · rcases hx with hx | ⟨ad, rfl, hb, s, val, hs, hcell, hrp⟩
        · exact absurd hx hnil
        · have hlt : l < h := by
            rcases Nat.lt_or_ge l h with h | h'
            · exact h
            · exact absurd (List.drop_eq_nil_of_le (by simp; omega)) hnil
          have hne : ¬ c = l := by omega
          rw [if_neg hne]
          have hget : ∀ j, ((els.take h).drop l)[j]? = if l + j < h then els[l + j]? else none := fun j => by
            rw [List.getElem?_drop, List.getElem?_take]
          have hss : s = szP P e := by
            have h0 : 0 < els.length := by omega
            have hm := List.getElem_mem h0
            rw [← hs _ hm, hl _ hm]
          refine .xs (s := s) (fun j k => val (l + j) k) (by simp; omega) (by rw [add_block]; exact hb) (by simp; omega) (fun cs hcs => hs cs (List.mem_of_mem_take (List.mem_of_mem_drop hcs))) (fun j k cs p hj hk => ?_) (fun j k cs p hj hk => ?_)
          · rw [hget] at hj
            split at hj
            · have := hcell _ _ _ _ hj hk
              rw [add_add, ← hss]
              rwa [show l * s + (j * s + k) = (l + j) * s + k by rw [Nat.add_mul]; omega]
            · cases hj
          · rw [hget] at hj
            split at hj
            · exact hrp _ _ _ _ hj hk
            · cases hj
  cases hv with
  | @emp _ A c =>
    have h0 : h = 0 := by simp at h2; exact h2
    have hl0 : l = 0 := by omega
    subst h0
    subst hl0
    -- the capacity may be anything
    have hr := run_slice (P := P) ht hit (A := A) (len := 0) (cap := c) el2 (eh2.imp id fun h => ⟨h.1, by simpa using h.2⟩) h1 (Nat.le_refl _) (Nat.zero_le _) w
    refine ⟨_, by simp only [execOp, ho, hav, Sem.run_bind, Option.map_none, hr, Result.andThen_ok, Sem.run_pure]; rfl, rfl, RPV.emp⟩
  | @xs _ _ ad c s n val hn hb hc hs hcell hrp =>
    subst hn
    exact fin (some ad) c rfl hc (.inr ⟨ad, rfl, hb, s, val, hs, hcell, hrp⟩)

/-- a part of an own row -/
theorem LT.sliceLoc {x : Operand} {t e : TypeId} {lo hi : Option Operand} {blo bhi : Option (Operand × Int)} {n len : Nat} {els : List (List CV)} {l h : Nat} (ho : o.op = .slice t x lo hi none) (hlo : lo = blo.map (·.1)) (hhi : hi = bhi.map (·.1)) (ht : P.underlying t = some (.slice e)) (hi2 : (P.info? e).isSome = true)
    (el : (∃ x m, blo = some (x, m) ∧ 0 ≤ m ∧ l = m.toNat) ∨ (blo = none ∧ some l = some 0)) (eh : (∃ x m, bhi = some (x, m) ∧ 0 ≤ m ∧ h = m.toNat) ∨ (bhi = none ∧ some h = some len)) (h1 : l ≤ h) (h2 : h ≤ len) :
    LT P o ((x, Cc (.loc n 0 len)) :: (bndIns blo ++ bndIns bhi)) [(n, .row e els)] (Cc (.loc n l (h - l))) [] [] [] := .calm fun R B g w a hw hi3 hu => by
  obtain ⟨it, hit⟩ := Option.isSome_iff_exists.1 hi2
  have hv := in1 hi3
  have e1 : lo.map a.eval = blo.map fun q => Value.int .i64 q.2 := bnd_val hlo fun p hp => hi3 p (List.mem_cons_of_mem _ (List.mem_append_left _ hp))
  have e2 : hi.map a.eval = bhi.map fun q => Value.int .i64 q.2 := bnd_val hhi fun p hp => hi3 p (List.mem_cons_of_mem _ (List.mem_append_right _ hp))
  have el' := bnd_nat el
  have eh' := bnd_nat eh
  rw [← e1] at el'
  rw [← e2] at eh'
  have el2 : lo.map a.eval = some (.int .i64 (l : Int)) ∨ (lo.map a.eval = none ∧ l = 0) := el'.imp id (fun h => ⟨h.1, by injection h.2⟩)
  have eh2 : hi.map a.eval = some (.int .i64 (h : Int)) ∨ (hi.map a.eval = none ∧ h = len) := eh'.imp id (fun h => ⟨h.1, by injection h.2⟩)
  obtain ⟨_, hv⟩ := hv
  rcases hv with ⟨k1, _, k3, k4⟩ | ⟨_, k2, _⟩ | ⟨b, cap, cur, e', k1, k2, k3, k4, k5, k6⟩
  · have hh0 : h = 0 := by omega
    have hl0 : l = 0 := by omega
    subst hh0
    subst hl0
    subst k3
    have hr := run_slice (P := P) ht hit (A := none) (len := 0) (cap := 0) el2 eh2 (Nat.le_refl _) (Nat.le_refl _) (Nat.le_refl _) w
    refine ⟨_, by simp only [execOp, ho, k4, Sem.run_bind, Option.map_none, hr, Result.andThen_ok, Sem.run_pure]; rfl, rfl, .inl ⟨k1, rfl, rfl, by simp⟩⟩
  · exact absurd rfl k2
  · have hro := us1 hu
    have hee : e' = e := by
      rcases hro with ⟨h3, _⟩ | ⟨b', cur', h3, h4, _⟩
      · rw [k1] at h3; cases h3
      · rw [k1] at h3
        injection h3 with h3
        subst h3
        rw [k2] at h4
        injection h4 with h4
        injection h4
    subst hee
    have hr := run_slice (P := P) ht hit (A := some ⟨b, 0 * szP P e', none⟩) el2 eh2 h1 h2 k3 w
    refine ⟨Value.slice (if cap = l then (some (Addr.mk b (0 * szP P e') none)) else Option.map (fun z : Addr => z.add (l * szP P e')) (some (Addr.mk b (0 * szP P e') none))) (h - l) (cap - l), by simp only [execOp, ho, k6, Sem.run_bind, hr, Result.andThen_ok, Sem.run_pure, Option.map_none], rfl, ?_⟩
    by_cases hcl : cap = l
    · rw [if_pos hcl]
      have hz : h - l = 0 := by omega
      by_cases hl0 : l = 0
      · refine .inr (.inr ⟨b, cap, cur, e', k1, k2, by omega, by omega, by rw [hl0]; exact k5, ?_⟩)
        rw [hl0]
        rfl
      · exact .inr (.inl ⟨hz, hl0, _, _, by rw [hz]⟩)
    · rw [if_neg hcl]
      refine .inr (.inr ⟨b, cap - l, cur, e', k1, k2, by omega, by omega, by rw [show l + (cap - l) = 0 + cap by omega]; exact k5, ?_⟩)
      simp [add_lit]

/-! ### typed -/
variable {α : Type} {enc : α → List PV}
theorem LT.tsliceRO {x : Operand} {t e : TypeId} {lo hi : Option Operand} {blo bhi : Option (Operand × Int)} {q : Bool} {xs : List α} {l h : Nat} (ho : o.op = .slice t x lo hi none) (hlo : lo = blo.map (·.1)) (hhi : hi = bhi.map (·.1)) (ht : P.underlying t = some (.slice e)) (hi2 : (P.info? e).isSome = true)
    (hs : ∀ a, (enc a).length = szP P e) (el : (∃ x m, blo = some (x, m) ∧ 0 ≤ m ∧ l = m.toNat) ∨ (blo = none ∧ some l = some 0)) (eh : (∃ x m, bhi = some (x, m) ∧ 0 ≤ m ∧ h = m.toNat) ∨ (bhi = none ∧ some h = some xs.length)) (h1 : l ≤ h) (h2 : h ≤ xs.length) :
    LT P o ((x, Cc (.pv (.xs q (xs.map enc)))) :: (bndIns blo ++ bndIns bhi)) [] (Cc (.pv (.xs q (((xs.take h).drop l).map enc)))) [] [] [] := by
  have := LT.sliceRO (P := P) (o := o) (q := q) (els := xs.map enc) ho hlo hhi ht hi2 (fun cs hcs => by obtain ⟨a, _, rfl⟩ := List.mem_map.1 hcs; exact hs a) el (eh.imp id fun h => ⟨h.1, by simpa using h.2⟩) h1 (by simpa using h2)
  simpa [List.map_take, List.map_drop] using this

theorem LT.tsliceLoc {x : Operand} {t e : TypeId} {lo hi : Option Operand} {blo bhi : Option (Operand × Int)} {n : Nat} {xs : List α} {l h : Nat} (ho : o.op = .slice t x lo hi none) (hlo : lo = blo.map (·.1)) (hhi : hi = bhi.map (·.1)) (ht : P.underlying t = some (.slice e)) (hi2 : (P.info? e).isSome = true)
    (el : (∃ x m, blo = some (x, m) ∧ 0 ≤ m ∧ l = m.toNat) ∨ (blo = none ∧ some l = some 0)) (eh : (∃ x m, bhi = some (x, m) ∧ 0 ≤ m ∧ h = m.toNat) ∨ (bhi = none ∧ some h = some xs.length)) (h1 : l ≤ h) (h2 : h ≤ xs.length) :
    LT P o ((x, Cc (.loc n 0 xs.length)) :: (bndIns blo ++ bndIns bhi)) [(n, .prow e (xs.map enc))] (Cc (.loc n l (h - l))) [] [] [] :=
  (LT.sliceLoc (P := P) (o := o) (n := n) (els := pvs (xs.map enc)) ho hlo hhi ht hi2 el eh h1 h2).usP

theorem srcLocAt {v : Value} {n off m : Nat} {e : TypeId} {els : List (List CV)} (hs : 0 < szP P e) (h : RC P w R B g (.loc n off m) v) (ho : ROw P w R B g n e els) (hm : off + m ≤ els.length) : SrcV P w R B g v ((els.drop off).take m) (szP P e) := by
  obtain ⟨_, h⟩ := h
  have hnil : m = 0 → SrcV P w R B g v ((els.drop off).take m) (szP P e) ∨ ¬ ∃ A c, v = .slice A 0 c := fun h0 => by
    by_cases hv : ∃ A c, v = .slice A 0 c
    · obtain ⟨A, c, rfl⟩ := hv
      subst h0
      exact .inl ⟨A, c, rfl, [], ⟨rfl, fun k x hk => by simp at hk⟩, fun i u hu => by simp at hu⟩
    · exact .inr hv
  rcases h with ⟨h1, _, h3, h4⟩ | ⟨h1, h2, A, c, h3⟩ | ⟨b, cap, cur, e', k1, k2, k3, k4, k5, k6⟩
  · rcases hnil h3 with h | h
    · exact h
    · exact absurd ⟨none, 0, h4⟩ h
  · rcases hnil h1 with h | h
    · exact h
    · exact absurd ⟨A, c, h3⟩ h
  · obtain ⟨hl, cur', h5, h6, h7⟩ := ho.flat hs k1
    rw [k2] at h5
    injection h5 with h5
    injection h5 with h5 h8 h9
    subst h5
    subst h8
    have hlen : ((els.drop off).take m).length = m := by simp; omega
    have hflat : ((els.drop off).take m).flatten = (els.flatten.drop (off * szP P e')).take (m * szP P e') := by
      have e1 : els.flatten = (els.take off).flatten ++ (((els.drop off).take m).flatten ++ ((els.drop off).drop m).flatten) := by
        rw [← List.flatten_append, ← List.flatten_append, List.take_append_drop, List.take_append_drop]
      have l1 : (els.take off).flatten.length = off * szP P e' := by
        rw [flat_length (s := szP P e') _ fun cs hcs => hl cs (List.mem_of_mem_take hcs)]
        simp only [List.length_take]
        congr 1
        omega
      have l2 : ((els.drop off).take m).flatten.length = m * szP P e' := by
        rw [flat_length (s := szP P e') _ fun cs hcs => hl cs (List.mem_of_mem_drop (List.mem_of_mem_take hcs)), hlen]
      rw [e1, ← l1, List.drop_left, ← l2, List.take_left]
    have hfl : els.flatten.length = els.length * szP P e' := flat_length (s := szP P e') _ hl
    refine ⟨_, cap, by rw [hlen]; exact k6, (cur.toList.drop (off * szP P e')).take (m * szP P e'), ⟨?_, fun k x hk => ?_⟩, fun i u hu => ⟨_, rfl, ?_⟩⟩
    · rw [hflat]
      have := h6
      simp only [List.length_take, List.length_drop, hfl, Array.length_toList]
      have hmm : off * szP P e' + m * szP P e' ≤ els.length * szP P e' := by rw [← Nat.add_mul]; exact Nat.mul_le_mul_right _ hm
      omega
    · rw [hflat, List.getElem?_take] at hk
      split at hk
      · rename_i hlt
        rw [List.getElem?_drop] at hk
        obtain ⟨u, hu, hr⟩ := h7.2 _ x hk
        refine ⟨u, ?_, hr⟩
        rw [List.getElem?_take, if_pos hlt, List.getElem?_drop]
        rw [List.getElem?_take] at hu
        split at hu
        · exact hu
        · cases hu
      · cases hk
    · rw [add_lit, row_cell k2]
      rw [List.getElem?_take] at hu
      split at hu
      · rw [List.getElem?_drop] at hu
        simpa using hu
      · cases hu

/-- a part of an own row appended to its own head -/
theorem LT.tappSelf {t e : TypeId} {x y : Operand} {n k off m : Nat} {xs : List α} {z : Value} {s by_ : Nat} (ho : o.op = .call { callee := .builtin .append, args := #[x, y], argTypes := #[t, t] }) (ht : P.underlying t = some (.slice e)) (hz : TI P e z s by_) (hzs : z.cells.size = s) (hs : 0 < s) (hb : by_ ≤ 65536)
    (he : ∀ a, (enc a).length = s) (hk : k ≤ xs.length) (hm : off + m ≤ xs.length) (hlim : k + m ≤ LIM) :
    LT P o [(x, Cc (.loc n 0 k)), (y, Cc (.loc n off m))] [(n, .prow e (xs.map enc))] (Cc (.loc n 0 (xs.take k ++ (xs.drop off).take m).length)) [(n, .prow e ((xs.take k ++ (xs.drop off).take m).map enc))] [n] [n] := by
  have hk2 : (xs.take k).length = k := by simp; omega
  have hm2 : ((xs.drop off).take m).length = m := by simp; omega
  have hshrink : ∀ (w : World) (R B : Nat → Prop) (g : Nat → GS), ROw P w R B g n e (pvs (xs.map enc)) → ROw P w R B g n e (pvs ((xs.take k).map enc)) := fun w R B g h => by
    rcases h with ⟨h1, h2⟩ | ⟨b, cur, h1, h2, h3, h4, h5⟩
    · left
      have : xs = [] := by
        cases xs with
        | nil => rfl
        | cons a r => simp [pvs] at h2
      subst this
      exact ⟨h1, by simp [pvs]⟩
    · have hp : pvs ((xs.take k).map enc) = (pvs (xs.map enc)).take k := by simp [pvs, List.map_take]
      rw [hp]
      refine .inr ⟨b, cur, h1, h2, fun cs hcs => h3 cs (List.mem_of_mem_take hcs), ?_, fun j i cs c hj hc => ?_⟩
      · refine Nat.le_trans (Nat.mul_le_mul_right _ ?_) h4
        simp
        omega
      · rw [List.getElem?_take] at hj
        split at hj
        · exact h5 j i cs c hj hc
        · cases hj
  have := LT.append (P := P) (ins := [(x, Cc (.loc n 0 k)), (y, Cc (.loc n off m))]) (us := [(n, .prow e (xs.map enc))]) (n := n) (els := pvs ((xs.take k).map enc)) (els2 := pvs (((xs.drop off).take m).map enc)) (W := [n]) ho ht hz hzs hs hb
    (fun cs hcs => by
      simp only [pvs, List.mem_map] at hcs
      obtain ⟨c, ⟨a, _, rfl⟩, rfl⟩ := hcs
      simpa using he a) (by simp [pvs_length, hk2, hm2]; simp at hm2; omega)
    (fun R B g w a hw hi hu => ⟨.inr ⟨by rw [pvs_length, List.length_map, hk2]; exact in1 hi, hshrink w R B g (us1 hu)⟩, by
      have := srcLocAt (els := pvs (xs.map enc)) (by rw [hz.sz]; exact hs) (in2 hi) (us1 hu) (by rw [pvs_length, List.length_map]; exact hm)
      rw [hz.sz] at this
      have hp : pvs (((xs.drop off).take m).map enc) = ((pvs (xs.map enc)).drop off).take m := by simp [pvs, List.map_take, List.map_drop]
      rw [hp]
      exact this, .inl rfl⟩)
  have h2 : LT P o [(x, Cc (.loc n 0 k)), (y, Cc (.loc n off m))] [(n, .prow e (xs.map enc))] (Cc (.loc n 0 (xs.take k ++ (xs.drop off).take m).length)) [(n, .row e ((pvs ((xs.take k ++ (xs.drop off).take m).map enc)).map (·.map (junkC [n]))))] [n] [n] := by
    rw [List.length_append, hk2, hm2]
    have hl : (pvs ((xs.take k).map enc)).length + (pvs (((xs.drop off).take m).map enc)).length = k + m := by rw [pvs_length, pvs_length, List.length_map, List.length_map, hk2, hm2]
    rw [hl] at this
    simpa [pvs] using this
  exact h2.dfP

/-! ### posts -/
theorem PermO.row1 {e : TypeId} {cs : List CV} (h : PermCL cs) : PermO (.row e [cs]) := fun c hc x hx => by
  have : c = cs := by simpa using hc
  subst this
  exact h.spec x hx

/-! ### maps -/
theorem findNow_none {k : Int} : ∀ {es : List MapEntry} {m : List (Int × Int)} {i : Nat}, es.map (fun e => (e.key, e.val)) = m.map (fun e => (Value.int .i64 e.1, Value.int .i64 e.2)) → mhas m k = false → Instr.findNow (.int .i64) (.int .i64 k) es i = some none
  | [], [], _, _, _ => rfl
  | [], _ :: _, _, h, _ => by cases h
  | _ :: _, [], _, h, _ => by cases h
  | e :: es, x :: m, i, h, hh => by
    simp only [List.map_cons, List.cons.injEq, Prod.mk.injEq] at h
    obtain ⟨⟨h1, h2⟩, h3⟩ := h
    unfold mhas at hh
    cases hx : k == x.1 with
    | true => rw [hx] at hh; cases hh
    | false =>
      rw [hx, cond_false] at hh
      simp [Instr.findNow, Instr.sameNow, h1, hx, findNow_none h3 hh]
theorem findNow_some {k : Int} : ∀ {es : List MapEntry} {m : List (Int × Int)} {i : Nat}, es.map (fun e => (e.key, e.val)) = m.map (fun e => (Value.int .i64 e.1, Value.int .i64 e.2)) → mhas m k = true →
    ∃ j, Instr.findNow (.int .i64) (.int .i64 k) es i = some (some (i + j, .int .i64 (mget m k))) ∧ (∃ e, es[j]? = some e ∧ e.key = .int .i64 k) ∧ ∀ v, mput m k v = m.set j (k, v)
  | [], [], _, _, h => by cases h
  | [], _ :: _, _, h, _ => by cases h
  | _ :: _, [], _, h, _ => by cases h
  | e :: es, x :: m, i, h, hh => by
    simp only [List.map_cons, List.cons.injEq, Prod.mk.injEq] at h
    obtain ⟨⟨h1, h2⟩, h3⟩ := h
    unfold mhas at hh
    cases hx : k == x.1 with
    | true =>
      refine ⟨0, ?_, ⟨e, rfl, by rw [h1, eq_of_beq hx]⟩, fun v => ?_⟩
      · simp [Instr.findNow, Instr.sameNow, h1, hx, h2, mget]
      · simp [mput, hx]
    | false =>
      rw [hx, cond_false] at hh
      obtain ⟨j, k1, ⟨e2, k2, k3⟩, k4⟩ := findNow_some (i := i + 1) h3 hh
      refine ⟨j + 1, ?_, ⟨e2, by simpa using k2, k3⟩, fun v => ?_⟩
      · simp [Instr.findNow, Instr.sameNow, h1, hx, k1, mget]
        omega
      · simp [mput, hx, k4]
theorem mput_none {k : Int} : ∀ {m : List (Int × Int)}, mhas m k = false → ∀ v, mput m k v = m ++ [(k, v)]
  | [], _, _ => rfl
  | x :: m, h, v => by
    unfold mhas at h
    cases hx : k == x.1 with
    | true => rw [hx] at h; cases h
    | false =>
      rw [hx, cond_false] at h
      simp [mput, hx, mput_none h]

/-- the type of a map from ints to ints -/
def mapB (P : Program) (t : TypeId) : Option (TypeId × TypeId) := match P.underlying t with
  | some (.map k e) => match P.underlying k, (P.info? e).bind (·.zero) with
    | some (.int .i64), some (.int .i64 0) => some (k, e)
    | _, _ => none
  | _ => none
theorem mapB_spec {t k e : TypeId} (h : mapB P t = some (k, e)) : P.underlying t = some (.map k e) ∧ P.underlying k = some (.int .i64) ∧ ∃ i, P.info? e = some i ∧ i.zero = some (.int .i64 0) := by
  unfold mapB at h
  split at h
  · rename_i k' e' hu
    split at h
    · rename_i hk hz
      injection h with h
      injection h with h1 h2
      subst h1
      subst h2
      cases hi : P.info? e' with
      | none => rw [hi] at hz; cases hz
      | some i =>
        rw [hi] at hz
        exact ⟨hu, hk, i, rfl, hz⟩
    · cases h
  · cases h
theorem run_checkKey_int {b : Bool} {k : TypeId} (hk : P.underlying k = some (.int .i64)) (n : Int) (w : World) : (Instr.checkKey b 10000 k (.int .i64 n)).run P w = .ok () w := by
  unfold Instr.checkKey
  simp only [Sem.run_bind, run_underlying hk, Result.andThen_ok]
  rfl
theorem run_findKey_now {k : TypeId} (hk : P.underlying k = some (.int .i64)) {n : Int} {es : List MapEntry} {r : Option (Nat × Value)} (h : Instr.findNow (.int .i64) (.int .i64 n) es 0 = some r) (w : World) : (Instr.findKey k (.int .i64 n) es).run P w = .ok r w := by
  simp [Instr.findKey, run_underlying hk, h, Result.andThen]

theorem LT.makeMap {t : TypeId} {n : Nat} (ho : o.op = .makeMap t none) : LT P o [] [] (Cc (.mref n)) [(n, .mp [])] [] [n] := by
  intro R B g w a hw hi hu K Q hK
  have hr := Go.RowKit.run_makeMap (P := P) t w
  have had := Adv.alloc hw n (.map #[] 0)
  have hrun : (execOp a.eval o).run P w = .ok (.value (.map (some w.heap.size))) (w.alloc (.map #[] 0)) := by
    simp [execOp, ho, hr]
  unfold Oper.wp
  rw [hrun]
  refine hK _ _ _ _ _ had (fun b hb => .inl hb) (fun _ => ⟨rfl, w.heap.size, upd_same .., rfl⟩) (fun p hp => ?_)
  have : p = (n, .mp []) := by simpa using hp
  subst this
  exact ⟨w.heap.size, #[], 0, upd_same .., (Go.MapKept.heap_alloc w _).1, rfl⟩

theorem map_look {t k e : TypeId} (ht : mapB P t = some (k, e)) {n : Nat} {m : List (Int × Int)} (h : RO P w R B g n (.mp m)) {v : Value} (hv : RC P w R B g (.mref n) v) (x : Int) (ok : Bool) :
    (Instr.lookup t v (.int .i64 x) ok).run P w = .ok (if ok then .tuple #[.int .i64 (mget m x), .bool (mhas m x)] else .int .i64 (mget m x)) w := by
  obtain ⟨h1, h2, i, h3, h4⟩ := mapB_spec ht
  obtain ⟨b, ents, clock, k1, k2, k3⟩ := h
  obtain ⟨_, b', k4, rfl⟩ := hv
  rw [k1] at k4
  injection k4 with k4
  subst k4
  cases hh : mhas m x with
  | false =>
    have hf := run_findKey_now (P := P) h2 (findNow_none k3 hh) w
    have hg : mget m x = 0 := by
      clear hf k3
      induction m with
      | nil => rfl
      | cons y r ih =>
        unfold mhas at hh
        unfold mget
        cases hy : x == y.1 with
        | true => rw [hy] at hh; cases hh
        | false =>
          rw [hy, cond_false] at hh
          exact ih hh
    simp [Instr.lookup, run_underlying h1, Go.MapKept.run_getObj_map k2, run_checkKey_int h2, hf, Result.andThen, zeroValue, typeInfo, h3, h4, hg]
  | true =>
    obtain ⟨j, hj, _, _⟩ := findNow_some (i := 0) k3 hh
    have hf := run_findKey_now (P := P) h2 hj w
    simp [Instr.lookup, run_underlying h1, Go.MapKept.run_getObj_map k2, run_checkKey_int h2, hf, Result.andThen]
theorem LT.mapGet {t k e : TypeId} {x y : Operand} {n : Nat} {m : List (Int × Int)} {i : Int} (ho : o.op = .lookup t x y false) (ht : mapB P t = some (k, e)) : LT P o [(x, Cc (.mref n)), (y, Iv i)] [(n, .mp m)] (Iv (mget m i)) [] [] [] := .calm fun R B g w a hw hi hu => by
  have hl := map_look (P := P) ht (us1 hu) (in1 hi) i false
  rw [if_neg (by simp)] at hl
  refine ⟨_, ?_, sc_mk rfl⟩
  simp [execOp, ho, sc_inv (in2 hi), hl]
theorem LT.mapGetOk {t k e : TypeId} {x y : Operand} {n : Nat} {m : List (Int × Int)} {i : Int} (ho : o.op = .lookup t x y true) (ht : mapB P t = some (k, e)) : LT P o [(x, Cc (.mref n)), (y, Iv i)] [(n, .mp m)] (.tup [.c (iC (mget m i)), .c (bC (mhas m i))]) [] [] [] := .calm fun R B g w a hw hi hu => by
  have hl := map_look (P := P) ht (us1 hu) (in1 hi) i true
  rw [if_pos rfl] at hl
  refine ⟨.tuple #[.int .i64 (mget m i), .bool (mhas m i)], by simp [execOp, ho, sc_inv (in2 hi), hl], [.int .i64 (mget m i), .bool (mhas m i)], rfl, rfl, fun k x hk => ?_⟩
  match k, hk with
  | 0, hk => simp at hk; subst hk; exact ⟨_, rfl, rfl, .sc rfl⟩
  | 1, hk => simp at hk; subst hk; exact ⟨_, rfl, rfl, .sc rfl⟩
  | k + 2, hk => simp at hk

theorem Adv.setMap (h : WF R B g w) {n b : Nat} {es : Array MapEntry} {clock : Nat} (hn : g n = .blk b) (hh : w.heap[b]? = some (.map es clock)) (o' : Obj) : Adv R B g w [n] [] R B g (setBlock w b o') where
  wf := h.mono (by simp [setBlock])
  r _ h := h
  b _ h := h
  os := rfl
  tape := rfl
  output := rfl
  size := by simp [setBlock]
  heap c _ hc := heap_setBlock_other hh o' (fun e => hc n List.mem_cons_self (by rw [hn, e]; rfl))
  names _ _ := rfl
  fresh _ hk := by cases hk
  shape k hk _ c cu e' hg hc := by
    have : k = n := by simpa using hk
    subst this
    rw [hn] at hg
    have hg : b = c := Eq.symm hg
    subst hg
    rw [hh] at hc
    cases hc

theorem LT.mapPut {t k e : TypeId} {x y z : Operand} {n : Nat} {m : List (Int × Int)} {i j : Int} {v : AV} (ho : o.op = .mapUpdate t x y z ∨ o.op = .insert t x y z) (hd : o.dst = none) (ht : mapB P t = some (k, e)) : LT P o [(x, Cc (.mref n)), (y, Iv i), (z, Iv j)] [(n, .mp m)] v [(n, .mp (mput m i j))] [n] [] := by
  intro R B g w a hw hin hu K Q hK
  obtain ⟨h1, h2, _, _, _⟩ := mapB_spec ht
  obtain ⟨b, ents, clock, k1, k2, k3⟩ := us1 hu
  obtain ⟨_, b', k4, k5⟩ := in1 hin
  rw [k1] at k4
  injection k4 with k4
  subst k4
  have e2 := sc_inv (in2 hin)
  have e3 := sc_inv (in3 hin)
  have key : ∃ es' clock', (Instr.mapUpdate t (.map (some b)) (.int .i64 i) (.int .i64 j)).run P w = .ok () (setBlock w b (.map es' clock')) ∧ es'.toList.map (fun e => (e.key, e.val)) = (mput m i j).map fun e => (Value.int .i64 e.1, Value.int .i64 e.2) := by
    cases hh : mhas m i with
    | false =>
      have hf := run_findKey_now (P := P) h2 (findNow_none k3 hh) w
      refine ⟨ents.push { key := .int .i64 i, val := .int .i64 j, born := clock }, clock + 1, ?_, ?_⟩
      · simp [Instr.mapUpdate, run_underlying h1, Go.MapKept.run_getObj_map k2, run_checkKey_int h2, hf, Go.MapKept.run_setObj_map _ k2, Result.andThen]
        rfl
      · rw [mput_none hh]
        simp [k3]
    | true =>
      obtain ⟨q, hq, ⟨en, hen, hkey⟩, hput⟩ := findNow_some (i := 0) k3 hh
      rw [Nat.zero_add] at hq
      have hf := run_findKey_now (P := P) h2 hq w
      have hen' : ents[q]? = some en := by simpa using hen
      refine ⟨ents.modify q fun e => { e with key := .int .i64 i, val := .int .i64 j }, clock, ?_, ?_⟩
      · simp [Instr.mapUpdate, run_underlying h1, Go.MapKept.run_getObj_map k2, run_checkKey_int h2, hf, hen', hkey, Instr.keyThatStays, Instr.sameBits, Go.MapKept.run_setObj_map _ k2, Result.andThen]
        rfl
      · rw [hput]
        apply List.ext_getElem?
        intro r
        have hk3 := congrArg (fun l => l[r]?) k3
        simp only [List.getElem?_map, Array.getElem?_toList] at hk3
        simp only [List.getElem?_map, List.getElem?_set, Array.getElem?_toList, Array.getElem?_modify]
        by_cases hr : q = r
        · subst hr
          rw [hen'] at hk3
          cases hm : m[q]? with
          | none => rw [hm] at hk3; cases hk3
          | some y =>
            have := (List.getElem?_eq_some_iff.1 hm).1
            simp [hen', this]
        · simp [hr, hk3]
  obtain ⟨es', clock', hrun, hes⟩ := key
  have hex : (execOp a.eval o).run P w = .ok .skip (setBlock w b (.map es' clock')) := by
    rcases ho with ho | ho <;> simp [execOp, ho, k5, e2, e3, hrun]
  have had := Adv.setMap hw k1 k2 (.map es' clock')
  unfold Oper.wp
  rw [hex]
  have hq := hK undef R B g (setBlock w b (.map es' clock')) had (fun b hb => .inl hb) (fun h => by rw [hd] at h; cases h) (fun p hp => by
    have : p = (n, .mp (mput m i j)) := by simpa using hp
    subst this
    exact ⟨b, es', clock', k1, heap_setBlock_same k2 _, hes⟩)
  exact hq
end
end Go.Fw
