/- Parts of a proof that a law of the program holds: what the program computes, and why that is right. -/
import Derived.Test.YteognanhfpbghaaProg
import Derived.Test.YteognanhfpbghaaRows
import Derived.ProofKit
import Derived.OpenShut
import Derived.JoinedCond
import Derived.Carry
import Derived.Deep.Slices
import Derived.ChangeSame
import Derived.Test.YteognanhfpbghaaZERingOf1
section
set_option linter.unusedVariables false
set_option linter.unusedSimpArgs false
set_option linter.unnecessarySimpa false
open Go Go.Fw Go.Sp
namespace Go.Proofs.Yteognanhfpbghaa
theorem henne {I : Nat → Nat} (hI : Sparse 2 3 I) {e f v : Nat} (he : e < 64) (hf : f < 64) (hv : v < 8) (hev : e / 8 ≠ v) (hev2 : e % 8 = v) (hfv : f / 8 ≠ v) (hfv2 : f % 8 = v) (hef : e ≠ f) (hno : ∀ i, i < 64 → 0 < I i → i / 8 ≠ v ∧ i % 8 ≠ v) : Sparse 2 3 (add1 (add1 I e) f) := by
  refine ⟨fun X hX => ?_, fun i hi hp => ?_⟩
  · rw [span_add1 _ hf, span_add1 _ he] at hX ⊢
    cases hXv : X v with
    | false =>
      have h1 : Sp.inn X e = false := by unfold Sp.inn; rw [hev2, hXv, Bool.and_false]
      have h2 : Sp.inn X f = false := by unfold Sp.inn; rw [hfv2, hXv, Bool.and_false]
      rw [h1, h2] at hX ⊢
      simp only [Bool.false_eq_true, if_false, Nat.add_zero] at hX ⊢
      exact hI.sp X hX
    | true =>
      have hs : span I X = span I (fun u => X u && u != v) := su_congr 64 fun i hi => by
        by_cases h0 : 0 < I i
        · obtain ⟨n1, n2⟩ := hno i hi h0
          have e1 : Sp.inn (fun u => X u && u != v) i = Sp.inn X i := by
            show ((X (i / 8) && i / 8 != v) && (X (i % 8) && i % 8 != v)) = (X (i / 8) && X (i % 8))
            rw [show (i / 8 != v) = true by simp [n1], show (i % 8 != v) = true by simp [n2], Bool.and_true, Bool.and_true]
          rw [e1]
        · have : I i = 0 := by omega
          rw [this]
          split <;> split <;> rfl
      have hz : size X = size (fun u => X u && u != v) + 1 := su_bump (j := v) 8 hv (by simp [hXv]) (fun i _ hne => by
        have : (i != v) = true := by simp [hne]
        simp [this])
      by_cases h0 : 0 < span I X
      · have h1 := hI.sp (fun u => X u && u != v) (by rw [← hs]; exact h0)
        have h2 : (if Sp.inn X e = true then 1 else 0) ≤ 1 := by split <;> omega
        have h3 : (if Sp.inn X f = true then 1 else 0) ≤ 1 := by split <;> omega
        omega
      · cases h1 : Sp.inn X e with
        | false =>
          rw [h1] at hX
          cases h2 : Sp.inn X f with
          | false => rw [h2] at hX; simp at hX; omega
          | true =>
            have h3 := size_inn hf (by omega) h2
            simp only [Bool.false_eq_true, if_false, if_true]
            omega
        | true =>
          have h3 := size_inn he (by omega) h1
          cases h2 : Sp.inn X f with
          | false =>
            simp only [Bool.false_eq_true, if_false, if_true]
            omega
          | true =>
            have h4 : 2 ≤ size (fun u => X u && u != v) := by
              unfold Sp.inn at h1 h2
              rw [Bool.and_eq_true] at h1 h2
              refine size_two (a := e / 8) (b := f / 8) (by omega) (by omega) (by omega) ?_ ?_
              · simp [h1.1, hev]
              · simp [h2.1, hfv]
            simp only [if_true]
            omega
  · unfold add1 at hp
    by_cases hif : i = f
    · omega
    · rw [if_neg hif] at hp
      by_cases hie : i = e
      · omega
      · rw [if_neg hie] at hp
        exact hI.ll i hi hp
def fan (a b : Int) : List Int → List TBar
  | [] => [⟨a, b⟩]
  | t :: T => ⟨a, t⟩ :: ⟨b, t⟩ :: fan a b T
theorem fan_len (a b : Int) : ∀ T, (fan a b T).length = 2 * T.length + 1
  | [] => rfl
  | t :: T => by simp [fan, fan_len a b T]; omega
theorem fan_mem {a b : Int} {x : TBar} : ∀ {T : List Int}, x ∈ fan a b T → x = ⟨a, b⟩ ∨ ∃ t ∈ T, x = ⟨a, t⟩ ∨ x = ⟨b, t⟩
  | [], h => by
    unfold fan at h
    rw [List.mem_singleton] at h
    exact .inl h
  | t :: T, h => by
    unfold fan at h
    rcases List.mem_cons.1 h with h | h
    · exact .inr ⟨t, List.mem_cons_self .., .inl h⟩
    · rcases List.mem_cons.1 h with h | h
      · exact .inr ⟨t, List.mem_cons_self .., .inr h⟩
      · rcases fan_mem h with h | ⟨s, hs, h⟩
        · exact .inl h
        · exact .inr ⟨s, List.mem_cons_of_mem _ hs, h⟩
structure Asc (P : Int) (L : List Int) : Prop where
  p1 : 1 ≤ P
  p8 : P ≤ 8
  rng : ∀ v ∈ L, 0 ≤ v ∧ v < P
  lt : L.Pairwise (· < ·)
section
variable {P a b : Int} {T : List Int}
theorem Asc.ab (h : Asc P (a :: b :: T)) : a < b ∧ (∀ t ∈ T, a < t ∧ b < t) := by
  have h1 := List.pairwise_cons.1 h.lt
  have h2 := List.pairwise_cons.1 h1.2
  exact ⟨h1.1 b (List.mem_cons_self ..), fun t ht => ⟨h1.1 t (List.mem_cons_of_mem _ ht), h2.1 t ht⟩⟩
theorem Asc.tail {s : Int} (h : Asc P (a :: b :: s :: T)) : Asc P (a :: b :: T) := by
  refine ⟨h.p1, h.p8, fun v hv => h.rng v ?_, ?_⟩
  · simp only [List.mem_cons] at hv ⊢
    rcases hv with h | h | h
    · exact .inl h
    · exact .inr (.inl h)
    · exact .inr (.inr (.inr h))
  · refine h.lt.sublist ?_
    exact ((List.sublist_cons_self s T).cons_cons b).cons_cons a
theorem Asc.fan_in (h : Asc P (a :: b :: T)) : ∀ x ∈ fan a b T, InB P x ∧ x.A ∈ a :: b :: T ∧ x.B ∈ a :: b :: T := fun x hx => by
  obtain ⟨h1, h2⟩ := h.ab
  have ha := h.rng a (by simp)
  have hb := h.rng b (by simp)
  rcases fan_mem hx with rfl | ⟨t, ht, rfl | rfl⟩
  · exact ⟨⟨by simp only; omega, by simp only; omega, by simp only; omega, by simp only; omega, by simp only; omega⟩, by simp, by simp⟩
  · have h3 := h2 t ht
    have h4 := h.rng t (by simp [ht])
    exact ⟨⟨by simp only; omega, by simp only; omega, by simp only; omega, by simp only; omega, by simp only; omega⟩, by simp, by simp [ht]⟩
  · have h3 := h2 t ht
    have h4 := h.rng t (by simp [ht])
    exact ⟨⟨by simp only; omega, by simp only; omega, by simp only; omega, by simp only; omega, by simp only; omega⟩, by simp, by simp [ht]⟩
theorem InB.ok {x : TBar} (h : InB P x) (h8 : P ≤ 8) : OkB x := by
  have := h.a0; have := h.ap; have := h.b0; have := h.bp
  exact ⟨by omega, by omega, by omega, by omega, h.ab⟩
theorem Asc.fan_ok (h : Asc P (a :: b :: T)) : ∀ x ∈ fan a b T, OkB x := fun x hx => (h.fan_in x hx).1.ok h.p8
theorem code_mk {u v : Int} (hu : 0 ≤ u) (hv : 0 ≤ v) (h8 : v < 8) : codeB ⟨u, v⟩ / 8 = u.toNat ∧ codeB ⟨u, v⟩ % 8 = v.toNat := by
  unfold codeB
  simp only
  omega
theorem fan_sparse : ∀ {T : List Int}, Asc P (a :: b :: T) → Sparse 2 3 (mult (fan a b T))
  | [], h => by
    have ho : OkB ⟨a, b⟩ := h.fan_ok _ (by simp [fan])
    refine ⟨fun X hX => ?_, fun i hi hp => mult_ll (fun x hx => h.fan_ok x hx) i hi hp⟩
    have e : span (mult (fan a b [])) X = 0 + if Sp.inn X (codeB ⟨a, b⟩) then 1 else 0 := by
      have := span_add1 (mult []) ho.lt X
      rw [show span (mult []) X = 0 from span_mult (L := []) (fun _ h => by cases h) X] at this
      exact this
    rw [e] at hX ⊢
    cases h1 : Sp.inn X (codeB ⟨a, b⟩) with
    | false => rw [h1] at hX; simp at hX
    | true =>
      have := size_inn ho.lt ho.ne h1
      simp only [if_true]
      omega
  | t :: T, h => by
    have ih := fan_sparse h.tail
    have ha := h.rng a (by simp)
    have hb := h.rng b (by simp)
    have ht := h.rng t (by simp)
    have h8 := h.p8
    obtain ⟨h1, h2⟩ := h.ab
    have h3 := h2 t (by simp)
    obtain ⟨c1, c2⟩ := code_mk hb.1 ht.1 (by omega : t < 8)
    obtain ⟨c3, c4⟩ := code_mk ha.1 ht.1 (by omega : t < 8)
    refine henne ih (e := codeB ⟨b, t⟩) (f := codeB ⟨a, t⟩) (v := t.toNat) ?_ ?_ (by omega) (by omega) c2 (by omega) c4 (fun e => ?_) (fun i hi hp => ?_)
    · omega
    · omega
    · rw [e] at c1
      omega
    · obtain ⟨x, hx, rfl⟩ := mult_pos hp
      obtain ⟨hin, hA, hB⟩ := h.tail.fan_in x hx
      have hxo := (hin.ok h8).dm
      have hne : ∀ v ∈ a :: b :: T, v ≠ t := fun v hv => by
        simp only [List.mem_cons] at hv
        rcases hv with rfl | rfl | hv
        · omega
        · omega
        · have := List.pairwise_cons.1 (List.pairwise_cons.1 (List.pairwise_cons.1 h.lt).2).2
          have := this.1 v hv
          omega
      have n1 := hne _ hA
      have n2 := hne _ hB
      have := hin.a0
      have := hin.b0
      omega
def inL (G : List Int) (v : Nat) : Bool := decide ((v : Int) ∈ G)
theorem Asc.sz (h : Asc P (a :: b :: T)) : size (inL (a :: b :: T)) = T.length + 2 := by
  have h8 := h.p8
  have h1 := tails_sum (inL (a :: b :: T)) (a :: b :: T) fun t ht => by have := h.rng t ht; omega
  have h2 : (a :: b :: T).countP (fun t => inL (a :: b :: T) t.toNat) = T.length + 2 := by
    rw [List.countP_eq_length.2]
    · rfl
    · intro t ht
      have := h.rng t ht
      unfold inL
      rw [Int.toNat_of_nonneg this.1]
      exact decide_eq_true ht
  rw [← h2, ← h1]
  refine su_congr 8 fun v _ => ?_
  show (if inL (a :: b :: T) v then 1 else 0) = (if inL (a :: b :: T) v then (a :: b :: T).count (v : Int) else 0)
  cases hv : inL (a :: b :: T) v with
  | false => rfl
  | true =>
    simp only [if_true]
    have hm : (v : Int) ∈ a :: b :: T := of_decide_eq_true hv
    have hnd : (a :: b :: T).Nodup := h.lt.imp fun hlt => by omega
    rw [hnd.count, if_pos hm]
theorem Asc.tgt (h : Asc P (a :: b :: T)) : Sp.tight 2 3 (mult (fan a b T)) (inL (a :: b :: T)) := by
  unfold Sp.tight
  rw [h.sz, span_mult h.fan_ok, List.countP_eq_length.2, fan_len]
  · omega
  · intro x hx
    obtain ⟨hin, hA, hB⟩ := h.fan_in x hx
    unfold inL
    rw [Int.toNat_of_nonneg hin.a0, Int.toNat_of_nonneg hin.b0, decide_eq_true hA, decide_eq_true hB]
    rfl
theorem Asc.same (h : Asc P (a :: b :: T)) {H F B : List TBar} (hF : F.Perm (fan a b T ++ B)) (hgF : GB P F) (hgH : GB P (H ++ B)) (hH : ∀ x ∈ H, x.A ∈ a :: b :: T ∧ x.B ∈ a :: b :: T) (hle : ∀ i, mult (fan a b T) i ≤ mult H i) : pr P (H ++ B) = pr P F := by
  have h1 := pr_rank hgF
  have hm : ∀ i, mult F i = mult (fan a b T) i + mult B i := fun i => by rw [mult_perm hF, mult_append]
  have h2 := h1.fill (N := mult (H ++ B)) (by omega) (fan_sparse h) (fun i _ => by rw [hm]; omega) h.tgt (fun i _ => by rw [hm, mult_append]; have := hle i; omega) (fun i _ hlt => by
    rw [hm, mult_append] at hlt
    obtain ⟨x, hx, rfl⟩ := mult_pos (L := H) (i := i) (by omega)
    obtain ⟨hA, hB⟩ := hH x hx
    have hin := hgH.inb x (List.mem_append_left _ hx)
    rw [(hin.ok h.p8).inn]
    unfold inL
    rw [Int.toNat_of_nonneg hin.a0, Int.toNat_of_nonneg hin.b0, decide_eq_true hA, decide_eq_true hB]
    rfl)
  exact (pr_rank hgH).uniq h2 fun _ _ => rfl
end
section
variable {p : TPinned}
end
end Go.Proofs.Yteognanhfpbghaa
end
section
set_option linter.unusedVariables false
set_option linter.unusedSimpArgs false
set_option linter.unnecessarySimpa false
open Go Go.Fw
namespace Go.Proofs.Yteognanhfpbghaa
def eqL {α : Type} (e : α → α → Bool) : List α → List α → Bool
  | [], [] => true
  | x :: a, y :: b => e x y && eqL e a b
  | _, _ => false
def eBar (x y : TBar) : Bool := eqI [x.A, x.B] [y.A, y.B]
def eqG (a b : TGraph) : Bool := (a.Points == b.Points) && eqL eBar a.Bars b.Bars
def sqB (f : TFramework) (k : Nat) : List Int := match f.Graph.Bars[k]? with
  | some x => [sqd (plAt f x.A) (plAt f x.B)]
  | none => []
def sqL (f : TFramework) : List Int := bif vF f then pieces (sqB f) f.Graph.Bars.length else []
def sameL (a b : TFramework) : Bool := vF a && (vF b && (eqG a.Graph b.Graph && decide (sqL a = sqL b)))
end Go.Proofs.Yteognanhfpbghaa
end
section
set_option linter.unusedVariables false
set_option linter.unusedSimpArgs false
set_option linter.unnecessarySimpa false
open Go Go.Fw
namespace Go.Proofs.Yteognanhfpbghaa
def cellAt (d : Nat) : TPlace := ⟨((d % 5 : Nat) : Int), ((d / 5 : Nat) : Int)⟩
def ways : Nat → Nat → List TPlace → List (List TPlace)
  | 0, _, pl => [pl]
  | m + 1, v, pl => pieces (fun d => ways m (v + 1) (pl.set v (cellAt d))) 25
def filt (f : TFramework) (g : TGraph) (L : List (List TPlace)) : List TFramework := (L.map fun pl => (⟨g, pl⟩ : TFramework)).filter (sameL f)
section
variable {f : TFramework}
def mvd (f : TFramework) : Nat := f.Graph.Points.toNat - 2
def found (f : TFramework) : List TFramework := filt f f.Graph (ways (mvd f) 2 f.Places)
def placed (m code : Nat) (pl : List TPlace) : List TPlace := match m with
  | 0 => pl
  | 1 => pl.set 2 (cellAt code)
  | _ => (pl.set 3 (cellAt (code % 25))).set 2 (cellAt (code / 25))
end
end Go.Proofs.Yteognanhfpbghaa
end
section
set_option linter.unusedVariables false
set_option linter.unusedSimpArgs false
set_option linter.unnecessarySimpa false
open Go Go.Fw
namespace Go.Proofs.Yteognanhfpbghaa
theorem law_FnExactRingOf (aN : Int) {p0 : Prop} (_ : p0)  : m_laws_FnExactRingOf aN = some true := by
  obtain ⟨w, hs, hi, hw0⟩ := both_RingOf aN 
  unfold m_laws_FnExactRingOf
  simp only [hs, hi, eqGraph_refl w.1 hw0, markGraph_eq w.1 hw0 1 (by omega) (by omega), heldGraph_eq w.1.Points w.1.Bars.length hw0 1 (by omega) (by omega), decide_eq_false (show ¬ (1 + 2 * (w.1.Bars.length : Int)) < 0 by omega), mkBarS_len, same_ok, Option.bind_some, bne_self_eq_false, beq_self_eq_true, Bool.not_true, Bool.not_false, cond_true, cond_false]
end Go.Proofs.Yteognanhfpbghaa
end
section
set_option linter.unusedVariables false
set_option linter.unusedSimpArgs false
set_option linter.unnecessarySimpa false
set_option maxRecDepth 100000
set_option maxHeartbeats 8000000
open Go Go.Fw
namespace Go.Proofs.Yteognanhfpbghaa
theorem ag112 : agB Try.prog 112 = some true := by kernel_rfl
theorem ag3 : agB Try.prog 3 = some false := by kernel_rfl
theorem ag30 : agB Try.prog 30 = some false := by kernel_rfl
theorem ag32 : agB Try.prog 32 = some true := by kernel_rfl
theorem cb111 : callB Try.prog 111 = true := by kernel_rfl
theorem cb112 : callB Try.prog 112 = true := by kernel_rfl
theorem cb113 : callB Try.prog 113 = true := by kernel_rfl
theorem cb114 : callB Try.prog 114 = true := by kernel_rfl
theorem cb115 : callB Try.prog 115 = true := by kernel_rfl
theorem cb139 : callB Try.prog 139 = true := by kernel_rfl
theorem cb154 : callB Try.prog 154 = true := by kernel_rfl
theorem cb156 : callB Try.prog 156 = true := by kernel_rfl
theorem cb174 : callB Try.prog 174 = true := by kernel_rfl
theorem cb175 : callB Try.prog 175 = true := by kernel_rfl
theorem cb208 : callB Try.prog 208 = true := by kernel_rfl
theorem cb209 : callB Try.prog 209 = true := by kernel_rfl
theorem cb210 : callB Try.prog 210 = true := by kernel_rfl
theorem cb225 : callB Try.prog 225 = true := by kernel_rfl
theorem cb226 : callB Try.prog 226 = true := by kernel_rfl
theorem cb234 : callB Try.prog 234 = true := by kernel_rfl
theorem cb242 : callB Try.prog 242 = true := by kernel_rfl
theorem cb35 : callB Try.prog 35 = true := by kernel_rfl
theorem cb36 : callB Try.prog 36 = true := by kernel_rfl
theorem cb37 : callB Try.prog 37 = true := by kernel_rfl
theorem cb38 : callB Try.prog 38 = true := by kernel_rfl
theorem cb39 : callB Try.prog 39 = true := by kernel_rfl
theorem cb77 : callB Try.prog 77 = true := by kernel_rfl
theorem cb78 : callB Try.prog 78 = true := by kernel_rfl
theorem cb79 : callB Try.prog 79 = true := by kernel_rfl
theorem el30 : elB Try.prog 30 = some 112 := by kernel_rfl
theorem fo112_0 : foB Try.prog 112 0 = some 0 := by kernel_rfl
theorem fo112_1 : foB Try.prog 112 1 = some 1 := by kernel_rfl
theorem fo32_0 : foB Try.prog 32 0 = some 0 := by kernel_rfl
theorem fo32_1 : foB Try.prog 32 1 = some 1 := by kernel_rfl
theorem inf112 : (Try.prog.info? 112).isSome = true := by kernel_rfl
theorem inf3 : (Try.prog.info? 3).isSome = true := by kernel_rfl
theorem inf30 : (Try.prog.info? 30).isSome = true := by kernel_rfl
theorem inf32 : (Try.prog.info? 32).isSome = true := by kernel_rfl
theorem mixed : Try.prog.follows .mixedOrders = true := by kernel_rfl
theorem pl112 : plB Try.prog 112 = some [(0, 1), (1, 1)] := by kernel_rfl
theorem pl32 : plB Try.prog 32 = some [(0, 1), (1, 1)] := by kernel_rfl
theorem sz112 : szP Try.prog 112 = 2 := by kernel_rfl
theorem sz3 : szP Try.prog 3 = 1 := by kernel_rfl
theorem sz30 : szP Try.prog 30 = 1 := by kernel_rfl
theorem sz32 : szP Try.prog 32 = 2 := by kernel_rfl
theorem ti112 : TI Try.prog 112 (.agg #[(.int .i64 0), (.int .i64 0)]) 2 16 := by unfold TI; kernel_rfl
theorem ti32 : TI Try.prog 32 (.agg #[(.int .i64 0), (.slice none 0 0)]) 2 32 := by unfold TI; kernel_rfl
theorem und166 : Try.prog.underlying 166 = some (.int .u64) := by kernel_rfl
theorem und3 : Try.prog.underlying 3 = some (.int .i64) := by kernel_rfl
theorem und30 : Try.prog.underlying 30 = some (.slice 112) := by kernel_rfl
theorem und4 : Try.prog.underlying 4 = some .bool := by kernel_rfl
theorem und5 : Try.prog.underlying 5 = some (.int .u8) := by kernel_rfl
theorem und9 : Try.prog.underlying 9 = some .string := by kernel_rfl
theorem undS186 : (Try.prog.underlying 186).isSome = true := by kernel_rfl
theorem undS3 : (Try.prog.underlying 3).isSome = true := by kernel_rfl
theorem undS5 : (Try.prog.underlying 5).isSome = true := by kernel_rfl
end Go.Proofs.Yteognanhfpbghaa
end
section
set_option linter.unusedVariables false
set_option linter.unusedSimpArgs false
set_option linter.unnecessarySimpa false
set_option maxRecDepth 100000
set_option maxHeartbeats 8000000
open Go Go.Fw
namespace Go.Proofs.Yteognanhfpbghaa
theorem w_spec_l1In (x : Int) (low : Int) (high : Int) : ∀ t, m_spec_l1In x low high = some t → Fw.Fn Try.prog 111 [(.c (iC x)), (.c (iC low)), (.c (iC high))] [] (.s (.c (bC t))) [] [] [] := by
 refine Fw.Fn.of (P := Try.prog) (X := []) (pn := []) (rs := (fun (t : Bool) => [(.c (bC t))])) (dfs := (fun (t : Bool) => [])) Try.func111 rfl Try.ntmps111 (Nat.le_of_ble_eq_true rfl) rfl ?_
 intro w0 U0 R0 g0
 unfold m_spec_l1In
 refine Ws (Wr ?_)
 refine asg (Bv false) rfl ⟨rfl, rfl⟩ rfl rfl (On (Ws ?_))
 refine AWR.joinK (fun j2 => ([(6, (Bv j2))], [])) ?_ (fun j2 _ => ?_)
 ·refine Wr (mv (Iv x) rfl rfl rfl rfl (mv (Iv low) rfl rfl rfl rfl (Op20 (LT.geq rfl) rfl rfl rfl rfl (mv (Bv (decide (low ≤ x))) rfl rfl rfl rfl (AOR.split (fun hb3 => ?_) (fun hb3 => ?_))))))
  ·refine mv (Iv x) rfl rfl ⟨_, rfl, .inl ⟨_, rfl, (by rw [hb3]; rfl)⟩⟩ rfl (mv (Iv high) rfl rfl ⟨_, rfl, .inl ⟨_, rfl, (by rw [hb3]; rfl)⟩⟩ rfl (Op20 (LT.leq rfl) rfl rfl ⟨_, rfl, .inl ⟨_, rfl, (by rw [hb3]; rfl)⟩⟩ rfl (Op20 (LT.pickT (v := (Bv (decide (x ≤ high)))) rfl hb3) rfl rfl rfl rfl (asg (Bv (decide (x ≤ high))) rfl rfl rfl rfl (On (AWR.nil ⟨rfl, Ent.of ⟨rfl, trivial⟩ trivial⟩))))))
  ·refine Ok rfl rfl rfl (by rw [hb3]; rfl) rfl (Ok rfl rfl rfl (by rw [hb3]; rfl) rfl (Ok rfl rfl rfl (by rw [hb3]; rfl) rfl (Op20 (LT.pickF (v := (Bv false)) rfl hb3) rfl ⟨rfl, rfl⟩ rfl rfl (asg (Bv false) rfl rfl rfl rfl (On (AWR.nil ⟨rfl, Ent.of ⟨rfl, trivial⟩ trivial⟩))))))
 ·refine AWR.ret (FPost.mk (.inr rfl) ⟨rfl, trivial⟩ trivial rfl ⟨PermP.sc, trivial⟩ trivial)
theorem w_spec_l2After (a : TBar) (b : TBar) : ∀ t, m_spec_l2After a b = some t → Fw.Fn Try.prog 139 [(.agg [(iC a.A), (iC a.B)]), (.agg [(iC b.A), (iC b.B)])] [] (.s (.c (bC t))) [] [] [] := by
 refine Fw.Fn.of (P := Try.prog) (X := []) (pn := []) (rs := (fun (t : Bool) => [(.c (bC t))])) (dfs := (fun (t : Bool) => [])) Try.func139 rfl Try.ntmps139 (Nat.le_of_ble_eq_true rfl) rfl ?_
 intro w0 U0 R0 g0
 unfold m_spec_l2After
 refine Ws (Wr ?_)
 refine Os10 (LT.box (n := 21) (v := (.agg [(iC a.A), (iC a.B)])) rfl sz112 (by exact rfl)) rfl rfl rfl (Os10 (LT.box (n := 22) (v := (.agg [(iC b.A), (iC b.B)])) rfl sz112 (by exact rfl)) rfl rfl rfl (asg (Bv false) rfl ⟨rfl, rfl⟩ rfl rfl (On (Ws ?_))))
 refine AWR.joinK (fun j3 => ([(4, (Bv j3))], [])) ?_ (fun j3 _ => ?_)
 ·refine Wr (Op10 (LT.fieldPl rfl fo112_0) rfl rfl rfl (Op11 (LT.bload1 (c := (iC a.A)) rfl ag3 (by exact rfl)) rfl rfl rfl rfl (Op10 (LT.fieldPl rfl fo112_0) rfl rfl rfl (Op11 (LT.bload1 (c := (iC b.A)) rfl ag3 (by exact rfl)) rfl rfl rfl rfl (Op20 (LT.lss rfl) rfl rfl rfl rfl (mv (Bv (decide (a.A < b.A))) rfl rfl rfl rfl (AOR.split (fun hb4 => ?_) (fun hb4 => ?_))))))))
  ·refine Ok rfl rfl rfl (by rw [hb4]; rfl) rfl (Ok rfl rfl rfl (by rw [hb4]; rfl) rfl (Ok rfl rfl rfl (by rw [hb4]; rfl) rfl (Ok rfl rfl rfl (by rw [hb4]; rfl) rfl (Ok rfl rfl rfl (by rw [hb4]; rfl) rfl (Ok rfl rfl rfl (by rw [hb4]; rfl) rfl (Oj rfl rfl rfl rfl (Oj rfl rfl rfl rfl (Oj rfl rfl rfl rfl (Oj rfl rfl rfl rfl (Oj rfl rfl rfl rfl (Ok rfl rfl rfl (by rw [hb4]; rfl) rfl ?_)))))))))))
   refine Op20 (LT.pickT (v := (Bv true)) rfl hb4) rfl ⟨rfl, rfl⟩ rfl rfl (asg (Bv true) rfl rfl rfl rfl (On (AWR.nil ⟨rfl, Ent.of ⟨rfl, trivial⟩ trivial⟩)))
  ·refine Op10 (LT.fieldPl rfl fo112_0) rfl ⟨_, rfl, .inl ⟨_, rfl, (by rw [hb4]; rfl)⟩⟩ rfl (Op11 (LT.bload1 (c := (iC a.A)) rfl ag3 (by exact rfl)) rfl rfl ⟨_, rfl, .inl ⟨_, rfl, (by rw [hb4]; rfl)⟩⟩ rfl (Op10 (LT.fieldPl rfl fo112_0) rfl ⟨_, rfl, .inl ⟨_, rfl, (by rw [hb4]; rfl)⟩⟩ rfl (Op11 (LT.bload1 (c := (iC b.A)) rfl ag3 (by exact rfl)) rfl rfl ⟨_, rfl, .inl ⟨_, rfl, (by rw [hb4]; rfl)⟩⟩ rfl (Op20 (LT.eql rfl) rfl rfl ⟨_, rfl, .inl ⟨_, rfl, (by rw [hb4]; rfl)⟩⟩ rfl (mv (Bv (a.A == b.A)) rfl rfl ⟨_, rfl, .inl ⟨_, rfl, (by rw [hb4]; rfl)⟩⟩ rfl (AOR.split (fun hb5 => ?_) (fun hb5 => ?_)))))))
   ·refine Op10 (LT.fieldPl rfl fo112_1) rfl ⟨_, rfl, .inl ⟨_, rfl, (by rw [hb5]; rfl)⟩⟩ rfl (Op11 (LT.bload1 (c := (iC a.B)) rfl ag3 (by exact rfl)) rfl rfl ⟨_, rfl, .inl ⟨_, rfl, (by rw [hb5]; rfl)⟩⟩ rfl (Op10 (LT.fieldPl rfl fo112_1) rfl ⟨_, rfl, .inl ⟨_, rfl, (by rw [hb5]; rfl)⟩⟩ rfl (Op11 (LT.bload1 (c := (iC b.B)) rfl ag3 (by exact rfl)) rfl rfl ⟨_, rfl, .inl ⟨_, rfl, (by rw [hb5]; rfl)⟩⟩ rfl (Op20 (LT.leq rfl) rfl rfl ⟨_, rfl, .inl ⟨_, rfl, (by rw [hb5]; rfl)⟩⟩ rfl (Op20 (LT.pickT (v := (Bv (decide (a.B ≤ b.B)))) rfl hb5) rfl rfl ⟨_, rfl, .inl ⟨_, rfl, (by rw [hb4]; rfl)⟩⟩ rfl (Op20 (LT.pickF (v := (Bv (decide (a.B ≤ b.B)))) rfl hb4) rfl rfl rfl rfl (asg (Bv (decide (a.B ≤ b.B))) rfl rfl rfl rfl (On (AWR.nil ⟨rfl, Ent.of ⟨rfl, trivial⟩ trivial⟩)))))))))
   ·refine Ok rfl rfl rfl (by rw [hb5]; rfl) rfl (Ok rfl rfl rfl (by rw [hb5]; rfl) rfl (Ok rfl rfl rfl (by rw [hb5]; rfl) rfl (Ok rfl rfl rfl (by rw [hb5]; rfl) rfl (Ok rfl rfl rfl (by rw [hb5]; rfl) rfl (Op20 (LT.pickF (v := (Bv false)) rfl hb5) rfl ⟨rfl, rfl⟩ ⟨_, rfl, .inl ⟨_, rfl, (by rw [hb4]; rfl)⟩⟩ rfl (Op20 (LT.pickF (v := (Bv false)) rfl hb4) rfl rfl rfl rfl (asg (Bv false) rfl rfl rfl rfl (On (AWR.nil ⟨rfl, Ent.of ⟨rfl, trivial⟩ trivial⟩)))))))))
 ·refine AWR.ret (FPost.mk (.inr rfl) ⟨rfl, trivial⟩ trivial rfl ⟨PermP.sc, trivial⟩ trivial)
theorem w_impl_within (x : Int) (loV : Int) (hi : Int) : ∀ t, m_impl_within x loV hi = some t → Fw.Fn Try.prog 113 [(.c (iC x)), (.c (iC loV)), (.c (iC hi))] [] (.s (.c (bC t))) [] [] [] := by
 refine Fw.Fn.of (P := Try.prog) (X := []) (pn := []) (rs := (fun (t : Bool) => [(.c (bC t))])) (dfs := (fun (t : Bool) => [])) Try.func113 rfl Try.ntmps113 (Nat.le_of_ble_eq_true rfl) rfl ?_
 intro w0 U0 R0 g0
 unfold m_impl_within
 refine Ws (Wr ?_)
 refine asg (Bv false) rfl ⟨rfl, rfl⟩ rfl rfl (On (Ws ?_))
 refine AWR.joinK (fun j2 => ([(6, (Bv j2))], [])) ?_ (fun j2 _ => ?_)
 ·refine Wr (mv (Iv x) rfl rfl rfl rfl (mv (Iv loV) rfl rfl rfl rfl (Op20 (LT.geq rfl) rfl rfl rfl rfl (mv (Bv (decide (loV ≤ x))) rfl rfl rfl rfl (AOR.split (fun hb3 => ?_) (fun hb3 => ?_))))))
  ·refine mv (Iv x) rfl rfl ⟨_, rfl, .inl ⟨_, rfl, (by rw [hb3]; rfl)⟩⟩ rfl (mv (Iv hi) rfl rfl ⟨_, rfl, .inl ⟨_, rfl, (by rw [hb3]; rfl)⟩⟩ rfl (Op20 (LT.leq rfl) rfl rfl ⟨_, rfl, .inl ⟨_, rfl, (by rw [hb3]; rfl)⟩⟩ rfl (Op20 (LT.pickT (v := (Bv (decide (x ≤ hi)))) rfl hb3) rfl rfl rfl rfl (asg (Bv (decide (x ≤ hi))) rfl rfl rfl rfl (On (AWR.nil ⟨rfl, Ent.of ⟨rfl, trivial⟩ trivial⟩))))))
  ·refine Ok rfl rfl rfl (by rw [hb3]; rfl) rfl (Ok rfl rfl rfl (by rw [hb3]; rfl) rfl (Ok rfl rfl rfl (by rw [hb3]; rfl) rfl (Op20 (LT.pickF (v := (Bv false)) rfl hb3) rfl ⟨rfl, rfl⟩ rfl rfl (asg (Bv false) rfl rfl rfl rfl (On (AWR.nil ⟨rfl, Ent.of ⟨rfl, trivial⟩ trivial⟩))))))
 ·refine AWR.ret (FPost.mk (.inr rfl) ⟨rfl, trivial⟩ trivial rfl ⟨PermP.sc, trivial⟩ trivial)
theorem w_impl_compareInts (a : Int) (b : Int) : ∀ t, m_impl_compareInts a b = some t → Fw.Fn Try.prog 210 [(.c (iC a)), (.c (iC b))] [] (.s (.c (iC t))) [] [] [] := by
 refine Fw.Fn.of (P := Try.prog) (X := []) (pn := []) (rs := (fun (t : Int) => [(.c (iC t))])) (dfs := (fun (t : Int) => [])) Try.func210 rfl Try.ntmps210 (Nat.le_of_ble_eq_true rfl) rfl ?_
 intro w0 U0 R0 g0
 unfold m_impl_compareInts
 refine Ws (Wr ?_)
 refine asg (Iv 0) rfl ⟨rfl, rfl⟩ rfl rfl (On (Ws (AWR.block (Ws (Wr ?_)))))
 refine mv (Iv a) rfl rfl rfl rfl (mv (Iv b) rfl rfl rfl rfl (Op20 (LT.lss rfl) rfl rfl rfl rfl (asg (Bv (decide (a < b))) rfl rfl rfl rfl (On (AWR.cond rfl (fun hc1 => ?_) (fun hc1 => ?_))))))
 ·refine Ws (Wr ?_)
  refine asg (Iv (-1)) rfl ⟨rfl, rfl⟩ rfl rfl (On (AWR.ret (FPost.mk (.inr rfl) ⟨rfl, trivial⟩ trivial rfl ⟨PermP.sc, trivial⟩ trivial)))
 ·refine Ws (Wr ?_)
  refine mv (Iv a) rfl rfl rfl rfl (mv (Iv b) rfl rfl rfl rfl (Op20 (LT.gtr rfl) rfl rfl rfl rfl (asg (Bv (decide (b < a))) rfl rfl rfl rfl (On (AWR.cond rfl (fun hc2 => ?_) (fun hc2 => ?_))))))
  ·refine Ws (Wr ?_)
   refine asg (Iv 1) rfl ⟨rfl, rfl⟩ rfl rfl (On (AWR.ret (FPost.mk (.inr rfl) ⟨rfl, trivial⟩ trivial rfl ⟨PermP.sc, trivial⟩ trivial)))
  ·refine AWR.skip (AWR.blk (Ws (Wr ?_)))
   refine asg (Iv 0) rfl ⟨rfl, rfl⟩ rfl rfl (On (AWR.ret (FPost.mk (.inr rfl) ⟨rfl, trivial⟩ trivial rfl ⟨PermP.sc, trivial⟩ trivial)))
theorem w_impl_compareBars (x : TBar) (y : TBar) : ∀ t, m_impl_compareBars x y = some t → Fw.Fn Try.prog 175 [(.agg [(iC x.A), (iC x.B)]), (.agg [(iC y.A), (iC y.B)])] [] (.s (.c (iC t))) [] [] [] := by
 refine Fw.Fn.of (P := Try.prog) (X := []) (pn := []) (rs := (fun (t : Int) => [(.c (iC t))])) (dfs := (fun (t : Int) => [])) Try.func175 rfl Try.ntmps175 (Nat.le_of_ble_eq_true rfl) rfl ?_
 intro w0 U0 R0 g0
 unfold m_impl_compareBars
 refine Ws (Wr ?_)
 refine Os10 (LT.box (n := 21) (v := (.agg [(iC x.A), (iC x.B)])) rfl sz112 (by exact rfl)) rfl rfl rfl (Os10 (LT.box (n := 22) (v := (.agg [(iC y.A), (iC y.B)])) rfl sz112 (by exact rfl)) rfl rfl rfl (asg (Iv 0) rfl ⟨rfl, rfl⟩ rfl rfl (On (Ws (Ws (Wr ?_))))))
 refine Op10 (LT.fieldPl rfl fo112_0) rfl rfl rfl (Op11 (LT.bload1 (c := (iC x.A)) rfl ag3 (by exact rfl)) rfl rfl rfl rfl (Op10 (LT.fieldPl rfl fo112_0) rfl rfl rfl (Op11 (LT.bload1 (c := (iC y.A)) rfl ag3 (by exact rfl)) rfl rfl rfl rfl (Ob' fun r1 hr1 => (AOR.pure (@LT.callF Try.prog _ _ 210 _ _ [(.c (iC x.A)), (.c (iC y.A))] _ _ [] _ _ _ _ (w_impl_compareInts x.A y.A r1 hr1) rfl cb210 (.cons (.c (.same rfl)) (.cons (.c (.same rfl)) .nil)) rfl rfl trivial) ⟨rfl, rfl, rfl, trivial⟩ trivial rfl rfl (asg (Iv r1) rfl rfl rfl rfl (On (Ws ?_))))))))
 refine en [(2, (Cc (.pl 21 0))), (3, (Cc (.pl 22 0))), (5, (Iv r1))] [(21, (.row 112 [[(iC x.A), (iC x.B)]])), (22, (.row 112 [[(iC y.A), (iC y.B)]]))] ⟨rfl, rfl, rfl, trivial⟩ ⟨rfl, rfl, trivial⟩ (Wr (mv (Iv r1) rfl rfl rfl rfl (Op20 (LT.neq rfl) rfl ⟨rfl, rfl⟩ rfl rfl (On (AWR.cond rfl (fun hc2 => ?_) (fun hc2 => ?_))))))
 ·refine Ws (Wr ?_)
  refine mv (Iv r1) rfl rfl rfl rfl (asg (Iv r1) rfl rfl rfl rfl (On (AWR.ret (FPost.mk (.inr rfl) ⟨rfl, trivial⟩ trivial rfl ⟨PermP.sc, trivial⟩ trivial))))
 ·refine AWR.skip (Ws (Wr ?_))
  refine Op10 (LT.fieldPl rfl fo112_1) rfl rfl rfl (Op11 (LT.bload1 (c := (iC x.B)) rfl ag3 (by exact rfl)) rfl rfl rfl rfl (Op10 (LT.fieldPl rfl fo112_1) rfl rfl rfl (Op11 (LT.bload1 (c := (iC y.B)) rfl ag3 (by exact rfl)) rfl rfl rfl rfl (Ob' fun r3 hr3 => (AOR.pure (@LT.callF Try.prog _ _ 210 _ _ [(.c (iC x.B)), (.c (iC y.B))] _ _ [] _ _ _ _ (w_impl_compareInts x.B y.B r3 hr3) rfl cb210 (.cons (.c (.same rfl)) (.cons (.c (.same rfl)) .nil)) rfl rfl trivial) ⟨rfl, rfl, rfl, trivial⟩ trivial rfl rfl (asg (Iv r3) rfl rfl rfl rfl (On (AWR.ret (FPost.mk (.inr rfl) ⟨rfl, trivial⟩ trivial rfl ⟨PermP.sc, trivial⟩ trivial)))))))))
end Go.Proofs.Yteognanhfpbghaa
end
section
set_option linter.unusedVariables false
set_option linter.unusedSimpArgs false
set_option linter.unnecessarySimpa false
set_option maxRecDepth 100000
set_option maxHeartbeats 8000000
open Go Go.Fw
namespace Go.Proofs.Yteognanhfpbghaa
theorem w_laws_eqBar (a : TBar) (b : TBar) : ∀ t, m_laws_eqBar a b = some t → Fw.Fn Try.prog 156 [(.agg [(iC a.A), (iC a.B)]), (.agg [(iC b.A), (iC b.B)])] [] (.s (.c (bC t))) [] [] [] := by
 refine Fw.Fn.of (P := Try.prog) (X := []) (pn := []) (rs := (fun (t : Bool) => [(.c (bC t))])) (dfs := (fun (t : Bool) => [])) Try.func156 rfl Try.ntmps156 (Nat.le_of_ble_eq_true rfl) rfl ?_
 intro w0 U0 R0 g0
 unfold m_laws_eqBar
 refine Ws (Wr ?_)
 refine Os10 (LT.box (n := 21) (v := (.agg [(iC a.A), (iC a.B)])) rfl sz112 (by exact rfl)) rfl rfl rfl (Os10 (LT.box (n := 22) (v := (.agg [(iC b.A), (iC b.B)])) rfl sz112 (by exact rfl)) rfl rfl rfl (asg (Bv false) rfl ⟨rfl, rfl⟩ rfl rfl (On (Ws (Ws (Wr ?_))))))
 refine Op10 (LT.fieldPl rfl fo112_0) rfl rfl rfl (Op11 (LT.bload1 (c := (iC a.A)) rfl ag3 (by exact rfl)) rfl rfl rfl rfl (Op10 (LT.fieldPl rfl fo112_0) rfl rfl rfl (Op11 (LT.bload1 (c := (iC b.A)) rfl ag3 (by exact rfl)) rfl rfl rfl rfl (Op20 (LT.neq rfl) rfl rfl rfl rfl (On (AWR.cond rfl (fun hc1 => ?_) (fun hc1 => ?_)))))))
 ·refine Ws (en [] [] trivial trivial (Wr (asg (Bv false) rfl ⟨rfl, rfl⟩ rfl rfl (On (AWR.ret (FPost.mk (.inr rfl) ⟨rfl, trivial⟩ trivial rfl ⟨PermP.sc, trivial⟩ trivial))))))
 ·refine AWR.skip (Ws (Ws ?_))
  refine en [(2, (Cc (.pl 21 0))), (3, (Cc (.pl 22 0)))] [(21, (.row 112 [[(iC a.A), (iC a.B)]])), (22, (.row 112 [[(iC b.A), (iC b.B)]]))] ⟨rfl, rfl, trivial⟩ ⟨rfl, rfl, trivial⟩ (Wr (Op10 (LT.fieldPl rfl fo112_1) rfl rfl rfl (Op11 (LT.bload1 (c := (iC a.B)) rfl ag3 (by exact rfl)) rfl rfl rfl rfl (Op10 (LT.fieldPl rfl fo112_1) rfl rfl rfl (Op11 (LT.bload1 (c := (iC b.B)) rfl ag3 (by exact rfl)) rfl rfl rfl rfl (Op20 (LT.neq rfl) rfl rfl rfl rfl (On (AWR.cond rfl (fun hc2 => ?_) (fun hc2 => ?_)))))))))
  ·refine Ws (Wr ?_)
   refine asg (Bv false) rfl ⟨rfl, rfl⟩ rfl rfl (On (AWR.ret (FPost.mk (.inr rfl) ⟨rfl, trivial⟩ trivial rfl ⟨PermP.sc, trivial⟩ trivial)))
  ·refine AWR.skip (Ws (Wr ?_))
   refine asg (Bv true) rfl ⟨rfl, rfl⟩ rfl rfl (On (AWR.ret (FPost.mk (.inr rfl) ⟨rfl, trivial⟩ trivial rfl ⟨PermP.sc, trivial⟩ trivial)))
theorem w_laws_eqBarS (a : (List TBar)) (b : (List TBar)) : ∀ t, m_laws_eqBarS a b = some t → Fw.Fn Try.prog 77 [(.c (xF encTBar a)), (.c (xF encTBar b))] [] (.s (.c (bC t))) [] [] [] := by
 refine Fw.Fn.of (P := Try.prog) (X := []) (pn := []) (rs := (fun (t : Bool) => [(.c (bC t))])) (dfs := (fun (t : Bool) => [])) Try.func77 rfl Try.ntmps77 (Nat.le_of_ble_eq_true rfl) rfl ?_
 intro w0 U0 R0 g0
 unfold m_laws_eqBarS
 refine Ws (Wr ?_)
 refine asg (Bv false) rfl ⟨rfl, rfl⟩ rfl rfl (On (Ws (Ws (Wr ?_))))
 refine mv (Cc (xF encTBar a)) rfl rfl rfl rfl (Op10 (LT.tlenRO rfl und30) rfl rfl rfl (mv (Cc (xF encTBar b)) rfl rfl rfl rfl (Op10 (LT.tlenRO rfl und30) rfl rfl rfl (Op20 (LT.neq rfl) rfl rfl rfl rfl (On (AWR.cond rfl (fun hc1 => ?_) (fun hc1 => ?_)))))))
 ·refine Ws (Wr ?_)
  refine asg (Bv false) rfl ⟨rfl, rfl⟩ rfl rfl (On (AWR.ret (FPost.mk (.inr rfl) ⟨rfl, trivial⟩ trivial rfl ⟨PermP.sc, trivial⟩ trivial)))
 ·refine AWR.skip (Ws (Ws (Wr ?_)))
  refine asg (Iv 0) rfl ⟨rfl, rfl⟩ rfl rfl (On (AWR.block ?_))
  refine AWR.loopR (id := 0) (m_laws_eqBarS_L1 a b) (fun s2 => ([(0, (Cc (xF encTBar a))), (1, (Cc (xF encTBar b))), (5, (Iv s2))], [])) (fun b13 => ([], [])) (FPost Try.prog Try.f77.results.toList [] [] (fun (t : Bool) => [(.c (bC t))]) (fun (t : Bool) => [])) ?_ (Ent.of ⟨rfl, rfl, rfl, trivial⟩ trivial) rfl (fun b13 _ => ?_) (by intro r t σ m ht hk; injection ht with ht; subst ht; exact hk)
  ·intro s2
   unfold m_laws_eqBarS_L1
   refine Ws (Ws (Wr ?_))
   refine mv (Iv s2) rfl rfl rfl rfl (mv (Cc (xF encTBar a)) rfl rfl rfl rfl (Op10 (LT.tlenRO rfl und30) rfl rfl rfl (Op20 (LT.lss rfl) rfl rfl rfl rfl (On (AWR.cond rfl (fun hc14 => ?_) (fun hc14 => ?_))))))
   ·refine AWR.skip (Ws (AWR.block (Ws (AWR.draw mixed ?_))))
    refine Dp10 (LT.move (v := (Cc (xF encTBar a))) rfl) rfl rfl rfl (Dp10 (LT.move (v := (Iv s2)) rfl) rfl rfl rfl (AOD.bind fun x15 hx15 => (Dp20 (LT.tindexRO (enc := encTBar) rfl el30 hx15 sz112) rfl rfl rfl rfl (Dp10 (LT.loadPxN rfl ag112 (infS inf112) (by exact sz112.symm)) rfl rfl rfl (Dp10 (LT.move (v := (Cc (xF encTBar b))) rfl) rfl rfl rfl (Dp10 (LT.move (v := (Iv s2)) rfl) rfl rfl rfl (AOD.bind fun x16 hx16 => (Dp20 (LT.tindexRO (enc := encTBar) rfl el30 hx16 sz112) rfl rfl rfl rfl (Dp10 (LT.loadPxN rfl ag112 (infS inf112) (by exact sz112.symm)) rfl rfl rfl (AOD.bind fun r17 hr17 => (AOD.pure (@LT.callF Try.prog _ _ 156 _ _ [(.agg [(iC x15.A), (iC x15.B)]), (.agg [(iC x16.A), (iC x16.B)])] _ _ [] _ _ _ _ (w_laws_eqBar x15 x16 r17 hr17) rfl cb156 (.cons (.agg (.cons (.same rfl) (.cons (.same rfl) .nil))) (.cons (.agg (.cons (.same rfl) (.cons (.same rfl) .nil))) .nil)) rfl rfl trivial) ⟨rfl, rfl, rfl, trivial⟩ trivial rfl rfl ?_)))))))))))
    refine Dp10 (LT.not rfl) rfl rfl rfl (AOD.nil (by kernel_rfl) (AWR.cond rfl (fun hc18 => ?_) (fun hc18 => ?_)))
    ·refine Ws (en [] [] trivial trivial (Wr (asg (Bv false) rfl ⟨rfl, rfl⟩ rfl rfl (On (AWR.ret ⟨rfl, FPost.mk (.inr rfl) ⟨rfl, trivial⟩ trivial rfl ⟨PermP.sc, trivial⟩ trivial⟩)))))
    ·refine AWR.skip (AWR.blk ?_)
     refine en [(0, (Cc (xF encTBar a))), (1, (Cc (xF encTBar b))), (5, (Iv s2))] [] ⟨rfl, rfl, rfl, trivial⟩ trivial (Wr (mv (Iv s2) rfl rfl rfl rfl (Op20 (LT.add rfl) rfl ⟨rfl, rfl⟩ rfl rfl (asg (Iv (w64 (s2 + 1))) rfl rfl rfl rfl (On (AWR.nil ⟨rfl, Ent.of ⟨rfl, rfl, rfl, trivial⟩ trivial⟩))))))
   ·refine AWR.exit_end rfl ⟨rfl, Ent.of trivial trivial⟩
  ·refine Ws (Wr ?_)
   refine asg (Bv true) rfl ⟨rfl, rfl⟩ rfl rfl (On (AWR.ret (FPost.mk (.inr rfl) ⟨rfl, trivial⟩ trivial rfl ⟨PermP.sc, trivial⟩ trivial)))
theorem w_laws_eqGraph (a : TGraph) (b : TGraph) : ∀ t, m_laws_eqGraph a b = some t → Fw.Fn Try.prog 37 [(.agg [(iC a.Points), (xF encTBar a.Bars)]), (.agg [(iC b.Points), (xF encTBar b.Bars)])] [] (.s (.c (bC t))) [] [] [] := by
 refine Fw.Fn.of (P := Try.prog) (X := []) (pn := []) (rs := (fun (t : Bool) => [(.c (bC t))])) (dfs := (fun (t : Bool) => [])) Try.func37 rfl Try.ntmps37 (Nat.le_of_ble_eq_true rfl) rfl ?_
 intro w0 U0 R0 g0
 unfold m_laws_eqGraph
 refine Ws (Wr ?_)
 refine Os10 (LT.box (n := 21) (v := (.agg [(iC a.Points), (xF encTBar a.Bars)])) rfl sz32 (by exact rfl)) rfl rfl rfl (Os10 (LT.box (n := 22) (v := (.agg [(iC b.Points), (xF encTBar b.Bars)])) rfl sz32 (by exact rfl)) rfl rfl rfl (asg (Bv false) rfl ⟨rfl, rfl⟩ rfl rfl (On (Ws (Ws (Wr ?_))))))
 refine Op10 (LT.fieldPl rfl fo32_0) rfl rfl rfl (Op11 (LT.bload1 (c := (iC a.Points)) rfl ag3 (by exact rfl)) rfl rfl rfl rfl (Op10 (LT.fieldPl rfl fo32_0) rfl rfl rfl (Op11 (LT.bload1 (c := (iC b.Points)) rfl ag3 (by exact rfl)) rfl rfl rfl rfl (Op20 (LT.neq rfl) rfl rfl rfl rfl (On (AWR.cond rfl (fun hc1 => ?_) (fun hc1 => ?_)))))))
 ·refine Ws (en [] [] trivial trivial (Wr (asg (Bv false) rfl ⟨rfl, rfl⟩ rfl rfl (On (AWR.ret (FPost.mk (.inr rfl) ⟨rfl, trivial⟩ trivial rfl ⟨PermP.sc, trivial⟩ trivial))))))
 ·refine AWR.skip (Ws (Ws ?_))
  refine en [(2, (Cc (.pl 21 0))), (3, (Cc (.pl 22 0)))] [(21, (.row 32 [[(iC a.Points), (xF encTBar a.Bars)]])), (22, (.row 32 [[(iC b.Points), (xF encTBar b.Bars)]]))] ⟨rfl, rfl, trivial⟩ ⟨rfl, rfl, trivial⟩ (Wr (Op10 (LT.fieldPl rfl fo32_1) rfl rfl rfl (Op11 (LT.bload1 (c := (xF encTBar a.Bars)) rfl ag30 (by exact rfl)) rfl rfl rfl rfl (Op10 (LT.fieldPl rfl fo32_1) rfl rfl rfl (Op11 (LT.bload1 (c := (xF encTBar b.Bars)) rfl ag30 (by exact rfl)) rfl rfl rfl rfl (Ob' fun r2 hr2 => (AOR.pure (@LT.callF Try.prog _ _ 77 _ _ [(.c (xF encTBar a.Bars)), (.c (xF encTBar b.Bars))] _ _ [] _ _ _ _ (w_laws_eqBarS a.Bars b.Bars r2 hr2) rfl cb77 (.cons (.c (.same rfl)) (.cons (.c (.same rfl)) .nil)) rfl rfl trivial) ⟨rfl, rfl, rfl, trivial⟩ trivial rfl rfl (Op10 (LT.not rfl) rfl rfl rfl (On (AWR.cond rfl (fun hc3 => ?_) (fun hc3 => ?_)))))))))))
  ·refine Ws (Wr ?_)
   refine asg (Bv false) rfl ⟨rfl, rfl⟩ rfl rfl (On (AWR.ret (FPost.mk (.inr rfl) ⟨rfl, trivial⟩ trivial rfl ⟨PermP.sc, trivial⟩ trivial)))
  ·refine AWR.skip (Ws (Wr ?_))
   refine asg (Bv true) rfl ⟨rfl, rfl⟩ rfl rfl (On (AWR.ret (FPost.mk (.inr rfl) ⟨rfl, trivial⟩ trivial rfl ⟨PermP.sc, trivial⟩ trivial)))
end Go.Proofs.Yteognanhfpbghaa
end
section
set_option linter.unusedVariables false
set_option linter.unusedSimpArgs false
set_option linter.unnecessarySimpa false
set_option maxRecDepth 100000
set_option maxHeartbeats 8000000
open Go Go.Fw
namespace Go.Proofs.Yteognanhfpbghaa
theorem w_laws_markBarS (a : (List TBar)) (k : Int) : ∀ t, m_laws_markBarS a k = some t → Fw.Fn Try.prog 78 [(.c (lo 0 a.length)), (.c (iC k))] [(0, (pR 112 encTBar a))] (.s (.c (iC t.1))) [(0, (pR 112 encTBar t.2))] [0] [] := by
 refine Fw.Fn.of (P := Try.prog) (X := []) (pn := [0]) (rs := (fun (t : (Int × (List TBar))) => [(.c (iC t.1))])) (dfs := (fun (t : (Int × (List TBar))) => [(0, (pR 112 encTBar t.2))])) Try.func78 rfl Try.ntmps78 (Nat.le_of_ble_eq_true rfl) rfl ?_
 intro w0 U0 R0 g0
 unfold m_laws_markBarS
 refine Ws (Wr ?_)
 refine asg (Iv 0) rfl ⟨rfl, rfl⟩ rfl rfl (On (Ws (Ws (Wr ?_))))
 refine asg (Iv 0) rfl ⟨rfl, rfl⟩ rfl rfl (On (AWR.block ?_))
 refine AWR.loop1 (id := 0) (m_laws_markBarS_L1) (fun s1 => ([(0, (Cc (lo 0 s1.2.2.length))), (1, (Iv s1.1)), (5, (Iv s1.2.1))], [(0, (pR 112 encTBar s1.2.2))])) (fun b8 => ([(1, (Iv b8.1))], [(0, (pR 112 encTBar b8.2))])) ?_ (Ent.of ⟨rfl, rfl, rfl, trivial⟩ ⟨rfl, trivial⟩) rfl (fun b8 _ => ?_)
 ·intro s1
  unfold m_laws_markBarS_L1
  refine Ws (Ws (Wr ?_))
  refine mv (Iv s1.2.1) rfl rfl rfl rfl (mv (Cc (lo 0 s1.2.2.length)) rfl rfl rfl rfl (Op10 (LT.lenLoc rfl und30) rfl rfl rfl (Op20 (LT.lss rfl) rfl rfl rfl rfl (On (AWR.cond rfl (fun hc9 => ?_) (fun hc9 => ?_))))))
  ·refine AWR.skip (Ws (AWR.block (Ws (Wr ?_))))
   refine mv (Cc (lo 0 s1.2.2.length)) rfl rfl rfl rfl (mv (Iv s1.2.1) rfl rfl rfl rfl (mv (Iv s1.1) rfl rfl rfl rfl (Ob' fun x10 hx10 => (Op21 (LT.tindexLoc rfl rfl el30 hx10) rfl rfl rfl rfl rfl (Op10 (LT.fieldPl rfl fo112_0) rfl rfl rfl (Os21 (LT.tstore (k := 0) (v := (.c (iC s1.1))) (b' := (TBar.mk s1.1 x10.B)) rfl rfl (infS inf3) sz3 (by exact rfl) hx10 (by exact rfl) (by exact Nat.le_of_ble_eq_true rfl) (by exact rfl)) rfl rfl rfl rfl rfl (On (Ws ?_))))))))
   refine en [(0, (Cc (lo 0 s1.2.2.length))), (1, (Iv s1.1)), (5, (Iv s1.2.1))] [(0, (pR 112 encTBar (s1.2.2.set s1.2.1.toNat (TBar.mk s1.1 x10.B))))] ⟨rfl, rfl, rfl, trivial⟩ ⟨rfl, trivial⟩ (Wr (mv (Iv s1.1) rfl rfl rfl rfl (Op20 (LT.add rfl) rfl ⟨rfl, rfl⟩ rfl rfl (asg (Iv (w64 (s1.1 + 1))) rfl rfl rfl rfl (On (Ws (Wr ?_)))))))
   refine mv (Cc (lo 0 s1.2.2.length)) rfl rfl rfl rfl (mv (Iv s1.2.1) rfl rfl rfl rfl (mv (Iv (w64 (s1.1 + 1))) rfl rfl rfl rfl (Ob' fun x11 hx11 => (Op21 (LT.tindexLoc (show s1.2.2.length = (s1.2.2.set s1.2.1.toNat (TBar.mk s1.1 x10.B)).length by simp only [List.length_set]) rfl el30 hx11) rfl rfl rfl rfl rfl (Op10 (LT.fieldPl rfl fo112_1) rfl rfl rfl (Os21 (LT.tstore (k := 1) (v := (.c (iC (w64 (s1.1 + 1))))) (b' := (TBar.mk x11.A (w64 (s1.1 + 1)))) rfl rfl (infS inf3) sz3 (by exact rfl) hx11 (by exact rfl) (by exact Nat.le_of_ble_eq_true rfl) (by exact rfl)) rfl rfl rfl rfl rfl (On (en [(0, (Cc (lo 0 s1.2.2.length))), (1, (Iv (w64 (s1.1 + 1)))), (5, (Iv s1.2.1))] [(0, (pR 112 encTBar ((s1.2.2.set s1.2.1.toNat (TBar.mk s1.1 x10.B)).set s1.2.1.toNat (TBar.mk x11.A (w64 (s1.1 + 1))))))] ⟨rfl, rfl, rfl, trivial⟩ ⟨rfl, trivial⟩ (Wr (mv (Iv (w64 (s1.1 + 1))) rfl rfl rfl rfl (Op20 (LT.add rfl) rfl ⟨rfl, rfl⟩ rfl rfl ?_)))))))))))
   refine asg (Iv (w64 ((w64 (s1.1 + 1)) + 1))) rfl rfl rfl rfl (On (AWR.blk (Wr ?_)))
   refine mv (Iv s1.2.1) rfl rfl rfl rfl (Op20 (LT.add rfl) rfl ⟨rfl, rfl⟩ rfl rfl (asg (Iv (w64 (s1.2.1 + 1))) rfl rfl rfl rfl (On (AWR.nil ⟨rfl, Ent.of ⟨(congrArg (fun l1 => (some (AV.s (.c (lo 0 l1))) : Option AV)) (show s1.2.2.length = ((s1.2.2.set s1.2.1.toNat (TBar.mk s1.1 x10.B)).set s1.2.1.toNat (TBar.mk x11.A (w64 (s1.1 + 1)))).length by simp only [List.length_set])), rfl, rfl, trivial⟩ ⟨rfl, trivial⟩⟩))))
  ·refine AWR.exit_end rfl ⟨rfl, Ent.of ⟨rfl, trivial⟩ ⟨rfl, trivial⟩⟩
 ·refine Ws (Wr ?_)
  refine mv (Iv b8.1) rfl rfl rfl rfl (asg (Iv b8.1) rfl rfl rfl rfl (On (AWR.ret (FPost.mk (.inr rfl) ⟨rfl, trivial⟩ ⟨rfl, trivial⟩ rfl ⟨PermP.sc, trivial⟩ ⟨PermO.prow' perm_encTBar, trivial⟩))))
theorem w_laws_markGraph (a : TGraph) (k : Int) : ∀ t, m_laws_markGraph a k = some t → Fw.Fn Try.prog 38 [(.agg [(iC a.Points), (lo 0 a.Bars.length)]), (.c (iC k))] [(0, (pR 112 encTBar a.Bars))] (.s (.c (iC t.1))) [(0, (pR 112 encTBar t.2))] [0] [] := by
 refine Fw.Fn.of (P := Try.prog) (X := []) (pn := [0]) (rs := (fun (t : (Int × (List TBar))) => [(.c (iC t.1))])) (dfs := (fun (t : (Int × (List TBar))) => [(0, (pR 112 encTBar t.2))])) Try.func38 rfl Try.ntmps38 (Nat.le_of_ble_eq_true rfl) rfl ?_
 intro w0 U0 R0 g0
 unfold m_laws_markGraph
 refine Ws (Wr ?_)
 refine Os10 (LT.box (n := 21) (v := (.agg [(iC a.Points), (lo 0 a.Bars.length)])) rfl sz32 (by exact rfl)) rfl rfl rfl (asg (Iv 0) rfl ⟨rfl, rfl⟩ rfl rfl (On (Ws (Wr ?_))))
 refine Op10 (LT.fieldPl rfl fo32_1) rfl rfl rfl (Op11 (LT.bload1 (c := (lo 0 a.Bars.length)) rfl ag30 (by exact rfl)) rfl rfl rfl rfl (mv (Iv k) rfl rfl rfl rfl (Ob' fun r1 hr1 => (AOR.step (@LT.callF Try.prog _ _ 78 _ _ [(.c (lo 0 a.Bars.length)), (.c (iC k))] _ _ [] _ _ _ _ ((show Fw.Fn Try.prog 78 [(.c (lo 0 a.Bars.length)), (.c (iC k))] [(0, (pR 112 encTBar a.Bars))] (Iv r1.1) [(0, (pR 112 encTBar r1.2))] [0] [] from Fw.Fn.ren [(0, 0)] (w_laws_markBarS a.Bars k r1 hr1) rfl)) rfl cb78 (.cons (.c (.same rfl)) (.cons (.c (.same rfl)) .nil)) rfl rfl ⟨rfl, trivial⟩) ⟨rfl, rfl, rfl, trivial⟩ ⟨rfl, trivial⟩ rfl rfl (asg (Iv r1.1) rfl rfl rfl rfl (On (Ws ?_)))))))
 refine en [(1, (Iv r1.1))] [(0, (pR 112 encTBar r1.2))] ⟨rfl, trivial⟩ ⟨rfl, trivial⟩ (Wr (mv (Iv r1.1) rfl rfl rfl rfl (asg (Iv r1.1) rfl rfl rfl rfl (On (AWR.ret (FPost.mk (.inr rfl) ⟨rfl, trivial⟩ ⟨rfl, trivial⟩ rfl ⟨PermP.sc, trivial⟩ ⟨PermO.prow' perm_encTBar, trivial⟩))))))
end Go.Proofs.Yteognanhfpbghaa
end
section
set_option linter.unusedVariables false
set_option linter.unusedSimpArgs false
set_option linter.unnecessarySimpa false
set_option maxRecDepth 100000
set_option maxHeartbeats 8000000
open Go Go.Fw
namespace Go.Proofs.Yteognanhfpbghaa
theorem w_spec_l2Put (g : TGraph) (x : TBar) : ∀ t, m_spec_l2Put g x = some t → Fw.Fn Try.prog 112 [(.agg [(iC g.Points), (xF encTBar g.Bars)]), (.agg [(iC x.A), (iC x.B)])] [] (.s (.agg [(iC t.Points), (lo 0 t.Bars.length)])) [(0, (pR 112 encTBar t.Bars))] [] [0] := by
 refine Fw.Fn.of (P := Try.prog) (X := [0]) (pn := []) (rs := (fun (t : TGraph) => [(.agg [(iC t.Points), (lo 0 t.Bars.length)])])) (dfs := (fun (t : TGraph) => [(0, (pR 112 encTBar t.Bars))])) Try.func112 rfl Try.ntmps112 (Nat.le_of_ble_eq_true rfl) rfl ?_
 intro w0 U0 R0 g0
 unfold m_spec_l2Put
 refine Ws (Wr ?_)
 refine Os10 (LT.box (n := 21) (v := (.agg [(iC g.Points), (xF encTBar g.Bars)])) rfl sz32 (by exact rfl)) rfl rfl rfl (Os10 (LT.box (n := 22) (v := (.agg [(iC x.A), (iC x.B)])) rfl sz112 (by exact rfl)) rfl rfl rfl (Os00 (LT.alloc (n := 23) (cells := [(iC 0), (sC nilV)]) rfl ti32 rfl rfl rfl) rfl rfl (On (Ws (Wr ?_)))))
 refine Op10 (LT.fieldPl rfl fo32_0) rfl rfl rfl (Op11 (LT.bload1 (c := (iC g.Points)) rfl ag3 (by exact rfl)) rfl rfl rfl rfl (Os00 (LT.tbuildSlice (n := 24) (enc := encTBar) [] ([] : List TBar) rfl rfl und30 ti112 rfl rfl rfl rfl (by decide) (fun _ => rfl) rfl) rfl rfl (Op20 (LT.build [(0, .tmp 9, (.c (iC g.Points))), (1, .tmp 10, (.c (lo 24 (([] : List TBar).length))))] rfl rfl pl32 ti32 rfl rfl rfl) rfl rfl rfl rfl (Os00 (LT.alloc (n := 25) (cells := [(iC 0), (sC nilV)]) rfl ti32 rfl rfl rfl) rfl rfl (Os21 (LT.bstore (v := (.agg [(iC g.Points), (lo 24 (([] : List TBar).length))])) (out := [(iC g.Points), (lo 24 (([] : List TBar).length))]) rfl rfl (infS inf32) sz32 (by exact rfl) (by exact Nat.le_of_ble_eq_true rfl) (by exact rfl)) rfl rfl rfl rfl rfl (On (Ws ?_)))))))
 refine en [(2, (Cc (.pl 21 0))), (3, (Cc (.pl 22 0))), (4, (Cc (.pl 23 0))), (5, (Cc (.pl 25 0)))] [(21, (.row 32 [[(iC g.Points), (xF encTBar g.Bars)]])), (22, (.row 112 [[(iC x.A), (iC x.B)]])), (23, (.row 32 [[(iC 0), (sC nilV)]])), (24, (pR 112 encTBar ([] : List TBar))), (25, (.row 32 [[(iC g.Points), (lo 24 (([] : List TBar).length))]]))] ⟨rfl, rfl, rfl, rfl, trivial⟩ ⟨rfl, rfl, rfl, rfl, rfl, trivial⟩ (Wr (asg (Bv false) rfl ⟨rfl, rfl⟩ rfl rfl (On (Ws (Ws (Wr ?_))))))
 refine asg (Iv 0) rfl ⟨rfl, rfl⟩ rfl rfl (On (AWR.block ?_))
 refine AWR.loop1 (id := 0) (m_spec_l2Put_L1 g x) (fun s1 => ([(2, (Cc (.pl 21 0))), (3, (Cc (.pl 22 0))), (4, (Cc (.pl 23 0))), (5, (Cc (.pl 25 0))), (6, (Bv s1.1)), (7, (Iv s1.2.1))], [(21, (.row 32 [[(iC g.Points), (xF encTBar g.Bars)]])), (22, (.row 112 [[(iC x.A), (iC x.B)]])), (23, (.row 32 [[(iC 0), (sC nilV)]])), (24, (pR 112 encTBar s1.2.2)), (25, (.row 32 [[(iC g.Points), (lo 24 s1.2.2.length)]]))])) (fun b29 => ([(3, (Cc (.pl 22 0))), (4, (Cc (.pl 23 0))), (5, (Cc (.pl 25 0))), (6, (Bv b29.1))], [(22, (.row 112 [[(iC x.A), (iC x.B)]])), (23, (.row 32 [[(iC 0), (sC nilV)]])), (24, (pR 112 encTBar b29.2)), (25, (.row 32 [[(iC g.Points), (lo 24 b29.2.length)]]))])) ?_ (Ent.of ⟨rfl, rfl, rfl, rfl, rfl, rfl, trivial⟩ ⟨rfl, rfl, rfl, rfl, rfl, trivial⟩) rfl (fun b29 _ => ?_)
 ·intro s1
  unfold m_spec_l2Put_L1
  refine Ws (Ws (Wr ?_))
  refine mv (Iv s1.2.1) rfl rfl rfl rfl (Op10 (LT.fieldPl rfl fo32_1) rfl rfl rfl (Op11 (LT.bload1 (c := (xF encTBar g.Bars)) rfl ag30 (by exact rfl)) rfl rfl rfl rfl (Op10 (LT.tlenRO rfl und30) rfl rfl rfl (Op20 (LT.lss rfl) rfl rfl rfl rfl (On (AWR.cond rfl (fun hc30 => ?_) (fun hc30 => ?_)))))))
  ·refine AWR.skip (Ws (AWR.block (Ws (Ws ?_))))
   refine AWR.joinK (fun j34 => ([(2, (Cc (.pl 21 0))), (3, (Cc (.pl 22 0))), (4, (Cc (.pl 23 0))), (5, (Cc (.pl 25 0))), (6, (Bv s1.1)), (7, (Iv s1.2.1)), (30, (Bv j34))], [(21, (.row 32 [[(iC g.Points), (xF encTBar g.Bars)]])), (22, (.row 112 [[(iC x.A), (iC x.B)]])), (23, (.row 32 [[(iC 0), (sC nilV)]])), (24, (pR 112 encTBar s1.2.2)), (25, (.row 32 [[(iC g.Points), (lo 24 s1.2.2.length)]]))])) ?_ (fun j34 _ => ?_)
   ·refine AWR.draw mixed (Dp10 (LT.move (v := (Bv s1.1)) rfl) rfl rfl rfl (Dp10 (LT.not rfl) rfl rfl rfl (Dp10 (LT.move (v := (Bv (!s1.1))) rfl) rfl rfl rfl (AOD.split (fun hb35 => ?_) (fun hb35 => ?_)))))
    ·refine Dp10 (LT.fieldPl rfl fo32_1) rfl ⟨_, rfl, .inl ⟨_, rfl, (by rw [hb35]; rfl)⟩⟩ rfl (Dp11 (LT.bload1 (c := (xF encTBar g.Bars)) rfl ag30 (by exact rfl)) rfl rfl ⟨_, rfl, .inl ⟨_, rfl, (by rw [hb35]; rfl)⟩⟩ rfl (Dp10 (LT.move (v := (Iv s1.2.1)) rfl) rfl ⟨_, rfl, .inl ⟨_, rfl, (by rw [hb35]; rfl)⟩⟩ rfl (AOD.bind fun x36 hx36 => (Dp20 (LT.tindexRO (enc := encTBar) rfl el30 hx36 sz112) rfl rfl ⟨_, rfl, .inl ⟨_, rfl, (by rw [hb35]; rfl)⟩⟩ rfl (Dp10 (LT.loadPxN rfl ag112 (infS inf112) (by exact sz112.symm)) rfl ⟨_, rfl, .inl ⟨_, rfl, (by rw [hb35]; rfl)⟩⟩ rfl (Dp11 (LT.bloadN (out := [(iC x.A), (iC x.B)]) rfl ag112 (infS inf112) sz112 (by exact rfl) (by exact rfl)) rfl rfl ⟨_, rfl, .inl ⟨_, rfl, (by rw [hb35]; rfl)⟩⟩ rfl (AOD.bind fun r37 hr37 => (AOD.pure (@LT.callF Try.prog _ _ 139 _ _ [(.agg [(iC x36.A), (iC x36.B)]), (.agg [(iC x.A), (iC x.B)])] _ _ [] _ _ _ _ (w_spec_l2After x36 x r37 hr37) rfl cb139 (.cons (.agg (.cons (.same rfl) (.cons (.same rfl) .nil))) (.cons (.agg (.cons (.same rfl) (.cons (.same rfl) .nil))) .nil)) rfl rfl trivial) ⟨rfl, rfl, rfl, trivial⟩ trivial ⟨_, rfl, .inl ⟨_, rfl, (by rw [hb35]; rfl)⟩⟩ rfl (Dp10 (LT.not rfl) rfl ⟨_, rfl, .inl ⟨_, rfl, (by rw [hb35]; rfl)⟩⟩ rfl (Dp20 (LT.pickT (v := (Bv (!r37))) rfl hb35) rfl rfl rfl rfl (AOD.nil (by kernel_rfl) ?_)))))))))))
     refine AWR.nil ⟨rfl, Ent.of ⟨rfl, rfl, rfl, rfl, rfl, rfl, rfl, trivial⟩ ⟨rfl, rfl, rfl, rfl, rfl, trivial⟩⟩
    ·refine AOD.skip ⟨_, rfl, .inl ⟨_, rfl, (by rw [hb35]; rfl)⟩⟩ rfl (AOD.skip ⟨_, rfl, .inl ⟨_, rfl, (by rw [hb35]; rfl)⟩⟩ rfl (AOD.skip ⟨_, rfl, .inl ⟨_, rfl, (by rw [hb35]; rfl)⟩⟩ rfl (AOD.skip ⟨_, rfl, .inl ⟨_, rfl, (by rw [hb35]; rfl)⟩⟩ rfl (AOD.skip ⟨_, rfl, .inl ⟨_, rfl, (by rw [hb35]; rfl)⟩⟩ rfl (AOD.skip ⟨_, rfl, .inl ⟨_, rfl, (by rw [hb35]; rfl)⟩⟩ rfl (AOD.skip ⟨_, rfl, .inl ⟨_, rfl, (by rw [hb35]; rfl)⟩⟩ rfl (AOD.skip ⟨_, rfl, .inl ⟨_, rfl, (by rw [hb35]; rfl)⟩⟩ rfl (Dp20 (LT.pickF (v := (Bv false)) rfl hb35) rfl ⟨rfl, rfl⟩ rfl rfl (AOD.nil (by kernel_rfl) (AWR.nil ⟨rfl, Ent.of ⟨rfl, rfl, rfl, rfl, rfl, rfl, rfl, trivial⟩ ⟨rfl, rfl, rfl, rfl, rfl, trivial⟩⟩))))))))))
   ·refine AWR.joinK (fun j40 => ([(2, (Cc (.pl 21 0))), (3, (Cc (.pl 22 0))), (4, (Cc (.pl 23 0))), (5, (Cc (.pl 25 0))), (6, (Bv j40.1)), (7, (Iv s1.2.1))], [(21, (.row 32 [[(iC g.Points), (xF encTBar g.Bars)]])), (22, (.row 112 [[(iC x.A), (iC x.B)]])), (23, (.row 32 [[(iC 0), (sC nilV)]])), (24, (pR 112 encTBar j40.2)), (25, (.row 32 [[(iC g.Points), (lo 24 j40.2.length)]]))])) ?_ (fun j40 _ => ?_)
    ·refine AWR.cond rfl (fun hc41 => ?_) (fun hc41 => ?_)
     ·refine Ws (Wr ?_)
      refine Op10 (LT.fieldPl rfl fo32_1) rfl rfl rfl (Op11 (LT.bload1 (c := (lo 24 s1.2.2.length)) rfl ag30 (by exact rfl)) rfl rfl rfl rfl (Op11 (LT.bloadN (out := [(iC x.A), (iC x.B)]) rfl ag112 (infS inf112) sz112 (by exact rfl) (by exact rfl)) rfl rfl rfl rfl (Os10 (LT.tbuildSlice (n := 27) (enc := encTBar) [(0, .tmp 33, (.agg [(iC x.A), (iC x.B)]))] [x] rfl rfl und30 ti112 rfl rfl rfl rfl (by decide) (fun _ => rfl) rfl) rfl rfl rfl (Ob' fun u42 hu42 => (Os22 (LT.tappP (enc := encTBar) rfl rfl rfl und30 ti112 rfl (by decide) (by decide) (fun _ => rfl) (lim_le hu42)) rfl rfl rfl rfl rfl rfl (Op10 (LT.fieldPl rfl fo32_1) rfl rfl rfl (Os21 (LT.bstore (v := (.c (lo 24 ((s1.2.2 ++ [x]).length)))) (out := [(iC g.Points), (lo 24 ((s1.2.2 ++ [x]).length))]) rfl rfl (infS inf30) sz30 (by exact rfl) (by exact Nat.le_of_ble_eq_true rfl) (by exact rfl)) rfl rfl rfl rfl rfl (On (en [(2, (Cc (.pl 21 0))), (3, (Cc (.pl 22 0))), (4, (Cc (.pl 23 0))), (5, (Cc (.pl 25 0))), (7, (Iv s1.2.1))] [(21, (.row 32 [[(iC g.Points), (xF encTBar g.Bars)]])), (22, (.row 112 [[(iC x.A), (iC x.B)]])), (23, (.row 32 [[(iC 0), (sC nilV)]])), (24, (pR 112 encTBar (s1.2.2 ++ [x]))), (25, (.row 32 [[(iC g.Points), (lo 24 ((s1.2.2 ++ [x]).length))]]))] ⟨rfl, rfl, rfl, rfl, rfl, trivial⟩ ⟨rfl, rfl, rfl, rfl, rfl, trivial⟩ (Wr (asg (Bv true) rfl ⟨rfl, rfl⟩ rfl rfl ?_)))))))))))
      refine On (AWR.nil ⟨rfl, Ent.of ⟨rfl, rfl, rfl, rfl, rfl, rfl, trivial⟩ ⟨rfl, rfl, rfl, rfl, rfl, trivial⟩⟩)
     ·refine AWR.skip (AWR.nil ⟨rfl, Ent.of ⟨rfl, rfl, rfl, rfl, rfl, rfl, trivial⟩ ⟨rfl, rfl, rfl, rfl, rfl, trivial⟩⟩)
    ·refine AWR.draw mixed (Dp10 (LT.fieldPl rfl fo32_1) rfl rfl rfl (Dp11 (LT.bload1 (c := (lo 24 j40.2.length)) rfl ag30 (by exact rfl)) rfl rfl rfl rfl (Dp10 (LT.fieldPl rfl fo32_1) rfl rfl rfl (Dp11 (LT.bload1 (c := (xF encTBar g.Bars)) rfl ag30 (by exact rfl)) rfl rfl rfl rfl (Dp10 (LT.move (v := (Iv s1.2.1)) rfl) rfl rfl rfl (AOD.bind fun x43 hx43 => (Dp20 (LT.tindexRO (enc := encTBar) rfl el30 hx43 sz112) rfl rfl rfl rfl (Dp10 (LT.loadPxN rfl ag112 (infS inf112) (by exact sz112.symm)) rfl rfl rfl (Ds10 (LT.tbuildSlice (n := 28) (enc := encTBar) [(0, .tmp 43, (.agg [(iC x43.A), (iC x43.B)]))] [x43] rfl rfl und30 ti112 rfl rfl rfl rfl (by decide) (fun _ => rfl) rfl) rfl rfl rfl (AOD.bind fun u44 hu44 => (Ds22 (LT.tappP (enc := encTBar) rfl rfl rfl und30 ti112 rfl (by decide) (by decide) (fun _ => rfl) (lim_le hu44)) rfl rfl rfl rfl rfl rfl ?_)))))))))))
     refine Dp10 (LT.fieldPl rfl fo32_1) rfl rfl rfl (Ds21 (LT.bstore (v := (.c (lo 24 ((j40.2 ++ [x43]).length)))) (out := [(iC g.Points), (lo 24 ((j40.2 ++ [x43]).length))]) rfl rfl (infS inf30) sz30 (by exact rfl) (by exact Nat.le_of_ble_eq_true rfl) (by exact rfl)) rfl rfl rfl rfl rfl (AOD.nil (by kernel_rfl) (AWR.blk (en [(2, (Cc (.pl 21 0))), (3, (Cc (.pl 22 0))), (4, (Cc (.pl 23 0))), (5, (Cc (.pl 25 0))), (6, (Bv j40.1)), (7, (Iv s1.2.1))] [(21, (.row 32 [[(iC g.Points), (xF encTBar g.Bars)]])), (22, (.row 112 [[(iC x.A), (iC x.B)]])), (23, (.row 32 [[(iC 0), (sC nilV)]])), (24, (pR 112 encTBar (j40.2 ++ [x43]))), (25, (.row 32 [[(iC g.Points), (lo 24 ((j40.2 ++ [x43]).length))]]))] ⟨rfl, rfl, rfl, rfl, rfl, rfl, trivial⟩ ⟨rfl, rfl, rfl, rfl, rfl, trivial⟩ (Wr (mv (Iv s1.2.1) rfl rfl rfl rfl (Op20 (LT.add rfl) rfl ⟨rfl, rfl⟩ rfl rfl (asg (Iv (w64 (s1.2.1 + 1))) rfl rfl rfl rfl (On (AWR.nil ⟨rfl, Ent.of ⟨rfl, rfl, rfl, rfl, rfl, rfl, trivial⟩ ⟨rfl, rfl, rfl, rfl, rfl, trivial⟩⟩))))))))))
  ·refine AWR.exit_end rfl ⟨rfl, Ent.of ⟨rfl, rfl, rfl, rfl, trivial⟩ ⟨rfl, rfl, rfl, rfl, trivial⟩⟩
 ·refine Ws (Ws (Wr ?_))
  refine mv (Bv b29.1) rfl rfl rfl rfl (Op10 (LT.not rfl) rfl rfl rfl (On (AWR.joinK (fun j47 => ([(4, (Cc (.pl 23 0))), (5, (Cc (.pl 25 0)))], [(23, (.row 32 [[(iC 0), (sC nilV)]])), (24, (pR 112 encTBar j47)), (25, (.row 32 [[(iC g.Points), (lo 24 j47.length)]]))])) ?_ (fun j47 _ => ?_))))
  ·refine AWR.cond rfl (fun hc48 => ?_) (fun hc48 => ?_)
   ·refine Wr (Op10 (LT.fieldPl rfl fo32_1) rfl rfl rfl (Op11 (LT.bload1 (c := (lo 24 b29.2.length)) rfl ag30 (by exact rfl)) rfl rfl rfl rfl (Op11 (LT.bloadN (out := [(iC x.A), (iC x.B)]) rfl ag112 (infS inf112) sz112 (by exact rfl) (by exact rfl)) rfl rfl rfl rfl (Os10 (LT.tbuildSlice (n := 29) (enc := encTBar) [(0, .tmp 51, (.agg [(iC x.A), (iC x.B)]))] [x] rfl rfl und30 ti112 rfl rfl rfl rfl (by decide) (fun _ => rfl) rfl) rfl rfl rfl (Ob' fun u49 hu49 => (Os22 (LT.tappP (enc := encTBar) rfl rfl rfl und30 ti112 rfl (by decide) (by decide) (fun _ => rfl) (lim_le hu49)) rfl rfl rfl rfl rfl rfl (Op10 (LT.fieldPl rfl fo32_1) rfl rfl rfl (Os21 (LT.bstore (v := (.c (lo 24 ((b29.2 ++ [x]).length)))) (out := [(iC g.Points), (lo 24 ((b29.2 ++ [x]).length))]) rfl rfl (infS inf30) sz30 (by exact rfl) (by exact Nat.le_of_ble_eq_true rfl) (by exact rfl)) rfl rfl rfl rfl rfl (On (AWR.nil ⟨rfl, Ent.of ⟨rfl, rfl, trivial⟩ ⟨rfl, rfl, rfl, trivial⟩⟩))))))))))
   ·refine AWR.skip (AWR.nil ⟨rfl, Ent.of ⟨rfl, rfl, trivial⟩ ⟨rfl, rfl, rfl, trivial⟩⟩)
  ·refine Ws (Wr ?_)
   refine Op11 (LT.bloadN (out := [(iC g.Points), (lo 24 j47.length)]) rfl ag32 (infS inf32) sz32 (by exact rfl) (by exact rfl)) rfl rfl rfl rfl (Os21 (LT.bstore (v := (.agg [(iC g.Points), (lo 24 j47.length)])) (out := [(iC g.Points), (lo 24 j47.length)]) rfl rfl (infS inf32) sz32 (by exact rfl) (by exact Nat.le_of_ble_eq_true rfl) (by exact rfl)) rfl rfl rfl rfl rfl (On (en [(4, (Cc (.pl 23 0)))] [(23, (.row 32 [[(iC g.Points), (lo 24 j47.length)]])), (24, (pR 112 encTBar j47))] ⟨rfl, trivial⟩ ⟨rfl, rfl, trivial⟩ (AWR.ent (Ent.mv 24 0 rfl rfl) (en [(4, (Cc (.pl 23 0)))] [(0, (pR 112 encTBar j47)), (23, (.row 32 [[(iC g.Points), (lo 0 j47.length)]]))] ⟨rfl, trivial⟩ ⟨rfl, rfl, trivial⟩ (AWR.ret (FPost.mk (.inr rfl) ⟨⟨_, _, _, rfl, rfl, rfl, ag32, sz32, _, (infS inf32)⟩, trivial⟩ ⟨rfl, trivial⟩ rfl ⟨⟨PermP.sc, trivial, trivial⟩, trivial⟩ ⟨PermO.prow' perm_encTBar, trivial⟩)))))))
end Go.Proofs.Yteognanhfpbghaa
end
section
set_option linter.unusedVariables false
set_option linter.unusedSimpArgs false
set_option linter.unnecessarySimpa false
set_option maxRecDepth 100000
set_option maxHeartbeats 8000000
open Go Go.Fw
namespace Go.Proofs.Yteognanhfpbghaa
theorem w_impl_bar (a : Int) (b : Int) : ∀ t, m_impl_bar a b = some t → Fw.Fn Try.prog 115 [(.c (iC a)), (.c (iC b))] [] (.s (.agg [(iC t.A), (iC t.B)])) [] [] [] := by
 refine Fw.Fn.of (P := Try.prog) (X := []) (pn := []) (rs := (fun (t : TBar) => [(.agg [(iC t.A), (iC t.B)])])) (dfs := (fun (t : TBar) => [])) Try.func115 rfl Try.ntmps115 (Nat.le_of_ble_eq_true rfl) rfl ?_
 intro w0 U0 R0 g0
 unfold m_impl_bar
 refine Ws (Wr ?_)
 refine Os00 (LT.alloc (n := 21) (cells := [(iC 0), (iC 0)]) rfl ti112 rfl rfl rfl) rfl rfl (On (Ws (Wr ?_)))
 refine mv (Iv a) rfl rfl rfl rfl (mv (Iv b) rfl rfl rfl rfl (Op20 (LT.min rfl) rfl rfl rfl rfl (mv (Iv a) rfl rfl rfl rfl (mv (Iv b) rfl rfl rfl rfl (Op20 (LT.max rfl) rfl rfl rfl rfl (Op20 (LT.build [(0, .tmp 7, (.c (iC (if b < a then b else a)))), (1, .tmp 10, (.c (iC (if a < b then b else a))))] rfl rfl pl112 ti112 rfl rfl rfl) rfl rfl rfl rfl (Os21 (LT.bstore (v := (.agg [(iC (if b < a then b else a)), (iC (if a < b then b else a))])) (out := [(iC (if b < a then b else a)), (iC (if a < b then b else a))]) rfl rfl (infS inf112) sz112 (by exact rfl) (by exact Nat.le_of_ble_eq_true rfl) (by exact rfl)) rfl rfl rfl rfl rfl (On (AWR.ret (FPost.mk (.inr rfl) ⟨⟨_, _, _, rfl, rfl, rfl, ag112, sz112, _, (infS inf112)⟩, trivial⟩ trivial rfl ⟨⟨PermP.sc, PermP.sc, trivial⟩, trivial⟩ trivial))))))))))
end Go.Proofs.Yteognanhfpbghaa
end
section
set_option linter.unusedVariables false
set_option linter.unusedSimpArgs false
set_option linter.unnecessarySimpa false
set_option maxRecDepth 100000
set_option maxHeartbeats 8000000
open Go Go.Fw
namespace Go.Proofs.Yteognanhfpbghaa
theorem w_impl_copyGraph (g : TGraph) : ∀ t, m_impl_copyGraph g = some t → Fw.Fn Try.prog 154 [(.agg [(iC g.Points), (xF encTBar g.Bars)])] [] (.s (.agg [(iC t.Points), (lo 0 t.Bars.length)])) [(0, (pR 112 encTBar t.Bars))] [] [0] := by
 refine Fw.Fn.of (P := Try.prog) (X := [0]) (pn := []) (rs := (fun (t : TGraph) => [(.agg [(iC t.Points), (lo 0 t.Bars.length)])])) (dfs := (fun (t : TGraph) => [(0, (pR 112 encTBar t.Bars))])) Try.func154 rfl Try.ntmps154 (Nat.le_of_ble_eq_true rfl) rfl ?_
 intro w0 U0 R0 g0
 unfold m_impl_copyGraph
 refine Ws (Wr ?_)
 refine Os10 (LT.box (n := 21) (v := (.agg [(iC g.Points), (xF encTBar g.Bars)])) rfl sz32 (by exact rfl)) rfl rfl rfl (Os00 (LT.alloc (n := 22) (cells := [(iC 0), (sC nilV)]) rfl ti32 rfl rfl rfl) rfl rfl (On (Ws (AWR.draw mixed ?_))))
 refine Dp10 (LT.fieldPl rfl fo32_0) rfl rfl rfl (Dp11 (LT.bload1 (c := (iC g.Points)) rfl ag3 (by exact rfl)) rfl rfl rfl rfl (Ds00 (LT.tbuildSlice (n := 23) (enc := encTBar) [] ([] : List TBar) rfl rfl und30 ti112 rfl rfl rfl rfl (by decide) (fun _ => rfl) rfl) rfl rfl (Dp10 (LT.fieldPl rfl fo32_1) rfl rfl rfl (Dp11 (LT.bload1 (c := (xF encTBar g.Bars)) rfl ag30 (by exact rfl)) rfl rfl rfl rfl (AOD.bind fun u1 hu1 => (Ds21 (LT.tappRO (enc := encTBar) rfl  rfl und30 ti112 rfl (by decide) (by decide) (fun _ => rfl) (lim_le hu1)) rfl rfl rfl rfl rfl (Dp20 (LT.build [(0, .tmp 4, (.c (iC g.Points))), (1, .tmp 8, (.c (lo 23 ((([] : List TBar) ++ g.Bars).length))))] rfl rfl pl32 ti32 rfl rfl rfl) rfl rfl rfl rfl (Ds21 (LT.bstore (v := (.agg [(iC g.Points), (lo 23 ((([] : List TBar) ++ g.Bars).length))])) (out := [(iC g.Points), (lo 23 ((([] : List TBar) ++ g.Bars).length))]) rfl rfl (infS inf32) sz32 (by exact rfl) (by exact Nat.le_of_ble_eq_true rfl) (by exact rfl)) rfl rfl rfl rfl rfl (AOD.nil (by kernel_rfl) (en [(2, (Cc (.pl 22 0)))] [(22, (.row 32 [[(iC g.Points), (lo 23 ((([] : List TBar) ++ g.Bars).length))]])), (23, (pR 112 encTBar (([] : List TBar) ++ g.Bars)))] ⟨rfl, trivial⟩ ⟨rfl, rfl, trivial⟩ (AWR.ent (Ent.mv 23 0 rfl rfl) ?_)))))))))))
 refine en [(2, (Cc (.pl 22 0)))] [(0, (pR 112 encTBar (([] : List TBar) ++ g.Bars))), (22, (.row 32 [[(iC g.Points), (lo 0 ((([] : List TBar) ++ g.Bars).length))]]))] ⟨rfl, trivial⟩ ⟨rfl, rfl, trivial⟩ (AWR.ret (FPost.mk (.inr rfl) ⟨⟨_, _, _, rfl, rfl, rfl, ag32, sz32, _, (infS inf32)⟩, trivial⟩ ⟨rfl, trivial⟩ rfl ⟨⟨PermP.sc, trivial, trivial⟩, trivial⟩ ⟨PermO.prow' perm_encTBar, trivial⟩))
end Go.Proofs.Yteognanhfpbghaa
end
section
set_option linter.unusedVariables false
set_option linter.unusedSimpArgs false
set_option linter.unnecessarySimpa false
set_option maxRecDepth 100000
set_option maxHeartbeats 8000000
open Go Go.Fw
namespace Go.Proofs.Yteognanhfpbghaa
theorem w_bits_Len64 (x : Int) : ∀ t, m_bits_Len64 x = some t → Fw.Fn Try.prog 234 [(.c (sC (.int .u64 x)))] [] (.s (.c (iC t))) [] [] [] := by
 refine Fw.Fn.of (P := Try.prog) (X := []) (pn := []) (rs := (fun (t : Int) => [(.c (iC t))])) (dfs := (fun (t : Int) => [])) Try.func234 rfl Try.ntmps234 (Nat.le_of_ble_eq_true rfl) rfl ?_
 intro w0 U0 R0 g0
 unfold m_bits_Len64
 refine Ws (Wr ?_)
 refine asg (Iv 0) rfl ⟨rfl, rfl⟩ rfl rfl (On (Ws (Ws (Wr ?_))))
 refine mv (Cc (sC (.int .u64 x))) rfl rfl rfl rfl (Op20 (LT.geq rfl) rfl ⟨rfl, rfl⟩ rfl rfl (On (AWR.joinK (fun j2 => ([(0, (Cc (sC (.int .u64 j2.1)))), (2, (Iv j2.2))], [])) ?_ (fun j2 _ => ?_))))
 ·refine AWR.cond rfl (fun hc3 => ?_) (fun hc3 => ?_)
  ·refine Ws (Wr ?_)
   refine mv (Cc (sC (.int .u64 x))) rfl rfl rfl rfl (Op20 (LT.shrU rfl (by decide)) rfl ⟨rfl, rfl⟩ rfl rfl (asg (Cc (sC (.int .u64 (shrI x 32)))) rfl rfl rfl rfl (On (Wr ?_))))
   refine asg (Iv 32) rfl ⟨rfl, rfl⟩ rfl rfl (On (AWR.nil ⟨rfl, Ent.of ⟨rfl, rfl, trivial⟩ trivial⟩))
  ·refine AWR.skip (AWR.nil ⟨rfl, Ent.of ⟨rfl, rfl, trivial⟩ trivial⟩)
 ·refine Ws (Ws (Wr ?_))
  refine mv (Cc (sC (.int .u64 j2.1))) rfl rfl rfl rfl (Op20 (LT.geq rfl) rfl ⟨rfl, rfl⟩ rfl rfl (On (AWR.joinK (fun j5 => ([(0, (Cc (sC (.int .u64 j5.1)))), (2, (Iv j5.2))], [])) ?_ (fun j5 _ => ?_))))
  ·refine AWR.cond rfl (fun hc6 => ?_) (fun hc6 => ?_)
   ·refine Ws (Wr ?_)
    refine mv (Cc (sC (.int .u64 j2.1))) rfl rfl rfl rfl (Op20 (LT.shrU rfl (by decide)) rfl ⟨rfl, rfl⟩ rfl rfl (asg (Cc (sC (.int .u64 (shrI j2.1 16)))) rfl rfl rfl rfl (On (Wr ?_))))
    refine mv (Iv j2.2) rfl rfl rfl rfl (Op20 (LT.add rfl) rfl ⟨rfl, rfl⟩ rfl rfl (asg (Iv (w64 (j2.2 + 16))) rfl rfl rfl rfl (On (AWR.nil ⟨rfl, Ent.of ⟨rfl, rfl, trivial⟩ trivial⟩))))
   ·refine AWR.skip (AWR.nil ⟨rfl, Ent.of ⟨rfl, rfl, trivial⟩ trivial⟩)
  ·refine Ws (Ws (Wr ?_))
   refine mv (Cc (sC (.int .u64 j5.1))) rfl rfl rfl rfl (Op20 (LT.geq rfl) rfl ⟨rfl, rfl⟩ rfl rfl (On (AWR.joinK (fun j8 => ([(0, (Cc (sC (.int .u64 j8.1)))), (2, (Iv j8.2))], [])) ?_ (fun j8 _ => ?_))))
   ·refine AWR.cond rfl (fun hc9 => ?_) (fun hc9 => ?_)
    ·refine Ws (Wr ?_)
     refine mv (Cc (sC (.int .u64 j5.1))) rfl rfl rfl rfl (Op20 (LT.shrU rfl (by decide)) rfl ⟨rfl, rfl⟩ rfl rfl (asg (Cc (sC (.int .u64 (shrI j5.1 8)))) rfl rfl rfl rfl (On (Wr ?_))))
     refine mv (Iv j5.2) rfl rfl rfl rfl (Op20 (LT.add rfl) rfl ⟨rfl, rfl⟩ rfl rfl (asg (Iv (w64 (j5.2 + 8))) rfl rfl rfl rfl (On (AWR.nil ⟨rfl, Ent.of ⟨rfl, rfl, trivial⟩ trivial⟩))))
    ·refine AWR.skip (AWR.nil ⟨rfl, Ent.of ⟨rfl, rfl, trivial⟩ trivial⟩)
   ·refine Ws (Wr ?_)
    refine mv (Iv j8.2) rfl rfl rfl rfl (mv (Cc (sC (.int .u64 j8.1))) rfl rfl rfl rfl (Op10 (LT.convInt rfl undS186 und5) rfl rfl rfl (Ob' fun x10 hx10 => (Op20 (LT.indexStr rfl und9 hx10) ⟨rfl, rfl⟩ rfl rfl rfl (Op10 (LT.convInt rfl undS5 und3) rfl rfl rfl (Op20 (LT.add rfl) rfl rfl rfl rfl (asg (Iv (w64 (j8.2 + (w64 x10)))) rfl rfl rfl rfl (On (AWR.ret (FPost.mk (.inr rfl) ⟨rfl, trivial⟩ trivial rfl ⟨PermP.sc, trivial⟩ trivial))))))))))
theorem w_bits_Len (x : Int) : ∀ t, m_bits_Len x = some t → Fw.Fn Try.prog 209 [(.c (sC (.int .u64 x)))] [] (.s (.c (iC t))) [] [] [] := by
 refine Fw.Fn.of (P := Try.prog) (X := []) (pn := []) (rs := (fun (t : Int) => [(.c (iC t))])) (dfs := (fun (t : Int) => [])) Try.func209 rfl Try.ntmps209 (Nat.le_of_ble_eq_true rfl) rfl ?_
 intro w0 U0 R0 g0
 unfold m_bits_Len
 refine Ws (Wr ?_)
 refine asg (Iv 0) rfl ⟨rfl, rfl⟩ rfl rfl (On (Ws ?_))
 refine AWR.cond ⟨rfl, rfl⟩ (fun hc1 => ?_) (fun hc1 => ?_)
 ·exact AWR.none
 ·refine AWR.skip (Ws (Wr ?_))
  refine mv (Cc (sC (.int .u64 x))) rfl rfl rfl rfl (Ob' fun r2 hr2 => (AOR.pure (@LT.callF Try.prog _ _ 234 _ _ [(.c (sC (.int .u64 x)))] _ _ [] _ _ _ _ (w_bits_Len64 x r2 hr2) rfl cb234 (.cons (.c (.same rfl)) .nil) rfl rfl trivial) ⟨rfl, rfl, trivial⟩ trivial rfl rfl (asg (Iv r2) rfl rfl rfl rfl (On (AWR.ret (FPost.mk (.inr rfl) ⟨rfl, trivial⟩ trivial rfl ⟨PermP.sc, trivial⟩ trivial))))))
theorem w_slices_insertionSortCmpFunc_Bar (data : (List TBar)) (a : Int) (b : Int) : ∀ t, m_slices_insertionSortCmpFunc_Bar data a b = some t → Fw.Fn Try.prog 225 [(.c (lo 0 data.length)), (.c (iC a)), (.c (iC b)), (.c (.fn 175 []))] [(0, (pR 112 encTBar data))] (resA []) [(0, (pR 112 encTBar t))] [0] [] := by
 refine Fw.Fn.of (P := Try.prog) (X := []) (pn := [0]) (rs := (fun (t : (List TBar)) => [])) (dfs := (fun (t : (List TBar)) => [(0, (pR 112 encTBar t))])) Try.func225 rfl Try.ntmps225 (Nat.le_of_ble_eq_true rfl) rfl ?_
 intro w0 U0 R0 g0
 unfold m_slices_insertionSortCmpFunc_Bar
 refine Ws (Wr ?_)
 refine mv (Iv a) rfl rfl rfl rfl (Op20 (LT.add rfl) rfl ⟨rfl, rfl⟩ rfl rfl (asg (Iv (w64 (a + 1))) rfl rfl rfl rfl (On (AWR.block ?_))))
 refine AWR.loop1 (id := 0) (m_slices_insertionSortCmpFunc_Bar_L3 a b) (fun s1 => ([(0, (Cc (lo 0 s1.2.length))), (1, (Iv a)), (2, (Iv b)), (3, (Cc (.fn 175 []))), (8, (Iv s1.1))], [(0, (pR 112 encTBar s1.2))])) (fun b64 => ([], [(0, (pR 112 encTBar b64))])) ?_ (Ent.of ⟨rfl, rfl, rfl, rfl, rfl, trivial⟩ ⟨rfl, trivial⟩) rfl (fun b64 _ => ?_)
 ·intro s1
  unfold m_slices_insertionSortCmpFunc_Bar_L3
  refine Ws (Ws (Wr ?_))
  refine mv (Iv s1.1) rfl rfl rfl rfl (mv (Iv b) rfl rfl rfl rfl (Op20 (LT.lss rfl) rfl rfl rfl rfl (On (AWR.cond rfl (fun hc65 => ?_) (fun hc65 => ?_)))))
  ·refine AWR.skip (Ws (AWR.block (Ws (Wr ?_))))
   refine mv (Iv s1.1) rfl rfl rfl rfl (asg (Iv s1.1) rfl rfl rfl rfl (On (AWR.block ?_)))
   refine AWR.loop1 (id := 2) (m_slices_insertionSortCmpFunc_Bar_L4 a s1) (fun s66 => ([(0, (Cc (lo 0 s66.2.length))), (1, (Iv a)), (2, (Iv b)), (3, (Cc (.fn 175 []))), (8, (Iv s1.1)), (9, (Iv s66.1))], [(0, (pR 112 encTBar s66.2))])) (fun b95 => ([(0, (Cc (lo 0 b95.2.length))), (1, (Iv a)), (2, (Iv b)), (3, (Cc (.fn 175 []))), (8, (Iv b95.1))], [(0, (pR 112 encTBar b95.2))])) ?_ (Ent.of ⟨rfl, rfl, rfl, rfl, rfl, rfl, trivial⟩ ⟨rfl, trivial⟩) rfl (fun b95 _ => ?_)
   ·intro s66
    unfold m_slices_insertionSortCmpFunc_Bar_L4
    refine Ws (Ws ?_)
    refine AWR.joinK (fun j100 => ([(0, (Cc (lo 0 s66.2.length))), (1, (Iv a)), (2, (Iv b)), (3, (Cc (.fn 175 []))), (8, (Iv s1.1)), (9, (Iv s66.1)), (34, (Bv j100))], [(0, (pR 112 encTBar s66.2))])) ?_ (fun j100 _ => ?_)
    ·refine AWR.draw mixed (Dp10 (LT.move (v := (Iv s66.1)) rfl) rfl rfl rfl (Dp10 (LT.move (v := (Iv a)) rfl) rfl rfl rfl (Dp20 (LT.gtr rfl) rfl rfl rfl rfl (Dp10 (LT.move (v := (Bv (decide (a < s66.1)))) rfl) rfl rfl rfl (AOD.split (fun hb101 => ?_) (fun hb101 => ?_))))))
     ·refine Dp10 (LT.move (v := (Cc (.fn 175 []))) rfl) rfl ⟨_, rfl, .inl ⟨_, rfl, (by rw [hb101]; rfl)⟩⟩ rfl (Dp10 (LT.move (v := (Cc (lo 0 s66.2.length))) rfl) rfl ⟨_, rfl, .inl ⟨_, rfl, (by rw [hb101]; rfl)⟩⟩ rfl (Dp10 (LT.move (v := (Iv s66.1)) rfl) rfl ⟨_, rfl, .inl ⟨_, rfl, (by rw [hb101]; rfl)⟩⟩ rfl (AOD.bind fun x102 hx102 => (Dp21 (LT.tindexLoc rfl rfl el30 hx102) rfl rfl rfl ⟨_, rfl, .inl ⟨_, rfl, (by rw [hb101]; rfl)⟩⟩ rfl (Dp11 (LT.tloadN rfl ag112 (infS inf112) sz112 hx102 (by exact rfl) (by exact rfl)) rfl rfl ⟨_, rfl, .inl ⟨_, rfl, (by rw [hb101]; rfl)⟩⟩ rfl (Dp10 (LT.move (v := (Cc (lo 0 s66.2.length))) rfl) rfl ⟨_, rfl, .inl ⟨_, rfl, (by rw [hb101]; rfl)⟩⟩ rfl (Dp10 (LT.move (v := (Iv s66.1)) rfl) rfl ⟨_, rfl, .inl ⟨_, rfl, (by rw [hb101]; rfl)⟩⟩ rfl (Dp20 (LT.sub rfl) rfl ⟨rfl, rfl⟩ ⟨_, rfl, .inl ⟨_, rfl, (by rw [hb101]; rfl)⟩⟩ rfl (AOD.bind fun x103 hx103 => (Dp21 (LT.tindexLoc rfl rfl el30 hx103) rfl rfl rfl ⟨_, rfl, .inl ⟨_, rfl, (by rw [hb101]; rfl)⟩⟩ rfl (Dp11 (LT.tloadN rfl ag112 (infS inf112) sz112 hx103 (by exact rfl) (by exact rfl)) rfl rfl ⟨_, rfl, .inl ⟨_, rfl, (by rw [hb101]; rfl)⟩⟩ rfl ?_)))))))))))
      refine AOD.bind fun r104 hr104 => (AOD.pure (@LT.callF Try.prog _ _ 175 _ _ [(.agg [(iC x102.A), (iC x102.B)]), (.agg [(iC x103.A), (iC x103.B)])] _ _ [] _ _ _ _ (w_impl_compareBars x102 x103 r104 hr104) rfl cb175 (.cons (.agg (.cons (.same rfl) (.cons (.same rfl) .nil))) (.cons (.agg (.cons (.same rfl) (.cons (.same rfl) .nil))) .nil)) rfl rfl trivial) ⟨rfl, rfl, rfl, trivial⟩ trivial ⟨_, rfl, .inl ⟨_, rfl, (by rw [hb101]; rfl)⟩⟩ rfl (Dp20 (LT.lss rfl) rfl ⟨rfl, rfl⟩ ⟨_, rfl, .inl ⟨_, rfl, (by rw [hb101]; rfl)⟩⟩ rfl (Dp20 (LT.pickT (v := (Bv (decide (r104 < 0)))) rfl hb101) rfl rfl rfl rfl (AOD.nil (by kernel_rfl) (AWR.nil ⟨rfl, Ent.of ⟨rfl, rfl, rfl, rfl, rfl, rfl, rfl, trivial⟩ ⟨rfl, trivial⟩⟩)))))
     ·refine AOD.skip ⟨_, rfl, .inl ⟨_, rfl, (by rw [hb101]; rfl)⟩⟩ rfl (AOD.skip ⟨_, rfl, .inl ⟨_, rfl, (by rw [hb101]; rfl)⟩⟩ rfl (AOD.skip ⟨_, rfl, .inl ⟨_, rfl, (by rw [hb101]; rfl)⟩⟩ rfl (AOD.skip ⟨_, rfl, .inl ⟨_, rfl, (by rw [hb101]; rfl)⟩⟩ rfl (AOD.skip ⟨_, rfl, .inl ⟨_, rfl, (by rw [hb101]; rfl)⟩⟩ rfl (AOD.skip ⟨_, rfl, .inl ⟨_, rfl, (by rw [hb101]; rfl)⟩⟩ rfl (AOD.skip ⟨_, rfl, .inl ⟨_, rfl, (by rw [hb101]; rfl)⟩⟩ rfl (AOD.skip ⟨_, rfl, .inl ⟨_, rfl, (by rw [hb101]; rfl)⟩⟩ rfl (AOD.skip ⟨_, rfl, .inl ⟨_, rfl, (by rw [hb101]; rfl)⟩⟩ rfl (AOD.skip ⟨_, rfl, .inl ⟨_, rfl, (by rw [hb101]; rfl)⟩⟩ rfl (AOD.skip ⟨_, rfl, .inl ⟨_, rfl, (by rw [hb101]; rfl)⟩⟩ rfl (AOD.skip ⟨_, rfl, .inl ⟨_, rfl, (by rw [hb101]; rfl)⟩⟩ rfl ?_)))))))))))
      refine Dp20 (LT.pickF (v := (Bv false)) rfl hb101) rfl ⟨rfl, rfl⟩ rfl rfl (AOD.nil (by kernel_rfl) (AWR.nil ⟨rfl, Ent.of ⟨rfl, rfl, rfl, rfl, rfl, rfl, rfl, trivial⟩ ⟨rfl, trivial⟩⟩))
    ·refine AWR.cond rfl (fun hc105 => ?_) (fun hc105 => ?_)
     ·refine AWR.skip (Ws (AWR.block (AWR.draw mixed ?_)))
      refine Dp10 (LT.move (v := (Cc (lo 0 s66.2.length))) rfl) rfl rfl rfl (Dp10 (LT.move (v := (Iv s66.1)) rfl) rfl rfl rfl (Dp10 (LT.move (v := (Cc (lo 0 s66.2.length))) rfl) rfl rfl rfl (Dp10 (LT.move (v := (Iv s66.1)) rfl) rfl rfl rfl (Dp20 (LT.sub rfl) rfl ⟨rfl, rfl⟩ rfl rfl (Dp10 (LT.move (v := (Cc (lo 0 s66.2.length))) rfl) rfl rfl rfl (Dp10 (LT.move (v := (Iv s66.1)) rfl) rfl rfl rfl (Dp20 (LT.sub rfl) rfl ⟨rfl, rfl⟩ rfl rfl (AOD.bind fun x106 hx106 => (Dp21 (LT.tindexLoc rfl rfl el30 hx106) rfl rfl rfl rfl rfl (Dp11 (LT.tloadN rfl ag112 (infS inf112) sz112 hx106 (by exact rfl) (by exact rfl)) rfl rfl rfl rfl (Dp10 (LT.move (v := (Cc (lo 0 s66.2.length))) rfl) rfl rfl rfl ?_)))))))))))
      refine Dp10 (LT.move (v := (Iv s66.1)) rfl) rfl rfl rfl (AOD.bind fun x107 hx107 => (Dp21 (LT.tindexLoc rfl rfl el30 hx107) rfl rfl rfl rfl rfl (Dp11 (LT.tloadN rfl ag112 (infS inf112) sz112 hx107 (by exact rfl) (by exact rfl)) rfl rfl rfl rfl (AOD.bind fun x108 hx108 => (Dp21 (LT.tindexLoc rfl rfl el30 hx108) rfl rfl rfl rfl rfl (Ds21 (LT.tstore (k := 0) (v := (.agg [(iC x106.A), (iC x106.B)])) (b' := x106) rfl rfl (infS inf112) sz112 (by exact rfl) hx108 (by exact rfl) (by exact Nat.le_of_ble_eq_true rfl) (by exact rfl)) rfl rfl rfl rfl rfl (AOD.bind fun x109 hx109 => (Dp21 (LT.tindexLoc (show s66.2.length = (s66.2.set s66.1.toNat x106).length by simp only [List.length_set]) rfl el30 hx109) rfl rfl rfl rfl rfl (Ds21 (LT.tstore (k := 0) (v := (.agg [(iC x107.A), (iC x107.B)])) (b' := x107) rfl rfl (infS inf112) sz112 (by exact rfl) hx109 (by exact rfl) (by exact Nat.le_of_ble_eq_true rfl) (by exact rfl)) rfl rfl rfl rfl rfl (AOD.nil (by kernel_rfl) (AWR.blk ?_)))))))))))
      refine en [(0, (Cc (lo 0 s66.2.length))), (1, (Iv a)), (2, (Iv b)), (3, (Cc (.fn 175 []))), (8, (Iv s1.1)), (9, (Iv s66.1))] [(0, (pR 112 encTBar ((s66.2.set s66.1.toNat x106).set (w64 (s66.1 - 1)).toNat x107)))] ⟨rfl, rfl, rfl, rfl, rfl, rfl, trivial⟩ ⟨rfl, trivial⟩ (Wr (mv (Iv s66.1) rfl rfl rfl rfl (Op20 (LT.sub rfl) rfl ⟨rfl, rfl⟩ rfl rfl (asg (Iv (w64 (s66.1 - 1))) rfl rfl rfl rfl (On (AWR.nil ⟨rfl, Ent.of ⟨(congrArg (fun l1 => (some (AV.s (.c (lo 0 l1))) : Option AV)) (show s66.2.length = ((s66.2.set s66.1.toNat x106).set (w64 (s66.1 - 1)).toNat x107).length by simp only [List.length_set])), rfl, rfl, rfl, rfl, rfl, trivial⟩ ⟨rfl, trivial⟩⟩))))))
     ·refine AWR.exit_end rfl ⟨rfl, Ent.of ⟨rfl, rfl, rfl, rfl, rfl, trivial⟩ ⟨rfl, trivial⟩⟩
   ·refine AWR.blk (Wr ?_)
    refine mv (Iv b95.1) rfl rfl rfl rfl (Op20 (LT.add rfl) rfl ⟨rfl, rfl⟩ rfl rfl (asg (Iv (w64 (b95.1 + 1))) rfl rfl rfl rfl (On (AWR.nil ⟨rfl, Ent.of ⟨rfl, rfl, rfl, rfl, rfl, trivial⟩ ⟨rfl, trivial⟩⟩))))
  ·refine AWR.exit_end rfl ⟨rfl, Ent.of trivial ⟨rfl, trivial⟩⟩
 ·refine AWR.nil (FPost.mk (.inl rfl) trivial ⟨rfl, trivial⟩ rfl trivial ⟨PermO.prow' perm_encTBar, trivial⟩)
theorem w_slices_siftDownCmpFunc_Bar (data : (List TBar)) (loV : Int) (hi : Int) (first : Int) : ∀ t, m_slices_siftDownCmpFunc_Bar data loV hi first = some t → Fw.Fn Try.prog 242 [(.c (lo 0 data.length)), (.c (iC loV)), (.c (iC hi)), (.c (iC first)), (.c (.fn 175 []))] [(0, (pR 112 encTBar data))] (resA []) [(0, (pR 112 encTBar t))] [0] [] := by
 refine Fw.Fn.of (P := Try.prog) (X := []) (pn := [0]) (rs := (fun (t : (List TBar)) => [])) (dfs := (fun (t : (List TBar)) => [(0, (pR 112 encTBar t))])) Try.func242 rfl Try.ntmps242 (Nat.le_of_ble_eq_true rfl) rfl ?_
 intro w0 U0 R0 g0
 unfold m_slices_siftDownCmpFunc_Bar
 refine Ws (Wr ?_)
 refine mv (Iv loV) rfl rfl rfl rfl (asg (Iv loV) rfl rfl rfl rfl (On (AWR.block ?_)))
 refine AWR.loopR (id := 0) (m_slices_siftDownCmpFunc_Bar_L1 hi first) (fun s1 => ([(0, (Cc (lo 0 s1.2.length))), (2, (Iv hi)), (3, (Iv first)), (4, (Cc (.fn 175 []))), (10, (Iv s1.1))], [(0, (pR 112 encTBar s1.2))])) (fun b44 => ([], [(0, (pR 112 encTBar b44))])) (FPost Try.prog Try.f242.results.toList [(0, (pR 112 encTBar data))] [] (fun (t : (List TBar)) => []) (fun (t : (List TBar)) => [(0, (pR 112 encTBar t))])) ?_ (Ent.of ⟨rfl, rfl, rfl, rfl, rfl, trivial⟩ ⟨rfl, trivial⟩) rfl (fun b44 _ => ?_) (by intro r t σ m ht hk; injection ht with ht; subst ht; exact hk)
 ·intro s1
  unfold m_slices_siftDownCmpFunc_Bar_L1
  refine AWR.block (Ws (Wr ?_))
  refine mv (Iv s1.1) rfl rfl rfl rfl (Op20 (LT.mul rfl) ⟨rfl, rfl⟩ rfl rfl rfl (Op20 (LT.add rfl) rfl ⟨rfl, rfl⟩ rfl rfl (asg (Iv (w64 ((w64 (2 * s1.1)) + 1))) rfl rfl rfl rfl (On (Ws (Ws (Wr ?_)))))))
  refine mv (Iv (w64 ((w64 (2 * s1.1)) + 1))) rfl rfl rfl rfl (mv (Iv hi) rfl rfl rfl rfl (Op20 (LT.geq rfl) rfl rfl rfl rfl (On (AWR.cond rfl (fun hc45 => ?_) (fun hc45 => ?_)))))
  ·refine AWR.exit_end rfl ⟨rfl, Ent.of trivial ⟨rfl, trivial⟩⟩
  ·refine AWR.skip (Ws (Ws ?_))
   refine AWR.joinK (fun j50 => ([(0, (Cc (lo 0 s1.2.length))), (2, (Iv hi)), (3, (Iv first)), (4, (Cc (.fn 175 []))), (10, (Iv s1.1)), (11, (Iv (w64 ((w64 (2 * s1.1)) + 1)))), (40, (Bv j50))], [(0, (pR 112 encTBar s1.2))])) ?_ (fun j50 _ => ?_)
   ·refine AWR.draw mixed (Dp10 (LT.move (v := (Iv (w64 ((w64 (2 * s1.1)) + 1)))) rfl) rfl rfl rfl (Dp20 (LT.add rfl) rfl ⟨rfl, rfl⟩ rfl rfl (Dp10 (LT.move (v := (Iv hi)) rfl) rfl rfl rfl (Dp20 (LT.lss rfl) rfl rfl rfl rfl (Dp10 (LT.move (v := (Bv (decide ((w64 ((w64 ((w64 (2 * s1.1)) + 1)) + 1)) < hi)))) rfl) rfl rfl rfl (AOD.split (fun hb51 => ?_) (fun hb51 => ?_)))))))
    ·refine Dp10 (LT.move (v := (Cc (.fn 175 []))) rfl) rfl ⟨_, rfl, .inl ⟨_, rfl, (by rw [hb51]; rfl)⟩⟩ rfl (Dp10 (LT.move (v := (Cc (lo 0 s1.2.length))) rfl) rfl ⟨_, rfl, .inl ⟨_, rfl, (by rw [hb51]; rfl)⟩⟩ rfl (Dp10 (LT.move (v := (Iv first)) rfl) rfl ⟨_, rfl, .inl ⟨_, rfl, (by rw [hb51]; rfl)⟩⟩ rfl (Dp10 (LT.move (v := (Iv (w64 ((w64 (2 * s1.1)) + 1)))) rfl) rfl ⟨_, rfl, .inl ⟨_, rfl, (by rw [hb51]; rfl)⟩⟩ rfl (Dp20 (LT.add rfl) rfl rfl ⟨_, rfl, .inl ⟨_, rfl, (by rw [hb51]; rfl)⟩⟩ rfl (AOD.bind fun x52 hx52 => (Dp21 (LT.tindexLoc rfl rfl el30 hx52) rfl rfl rfl ⟨_, rfl, .inl ⟨_, rfl, (by rw [hb51]; rfl)⟩⟩ rfl (Dp11 (LT.tloadN rfl ag112 (infS inf112) sz112 hx52 (by exact rfl) (by exact rfl)) rfl rfl ⟨_, rfl, .inl ⟨_, rfl, (by rw [hb51]; rfl)⟩⟩ rfl (Dp10 (LT.move (v := (Cc (lo 0 s1.2.length))) rfl) rfl ⟨_, rfl, .inl ⟨_, rfl, (by rw [hb51]; rfl)⟩⟩ rfl (Dp10 (LT.move (v := (Iv first)) rfl) rfl ⟨_, rfl, .inl ⟨_, rfl, (by rw [hb51]; rfl)⟩⟩ rfl (Dp10 (LT.move (v := (Iv (w64 ((w64 (2 * s1.1)) + 1)))) rfl) rfl ⟨_, rfl, .inl ⟨_, rfl, (by rw [hb51]; rfl)⟩⟩ rfl (Dp20 (LT.add rfl) rfl rfl ⟨_, rfl, .inl ⟨_, rfl, (by rw [hb51]; rfl)⟩⟩ rfl ?_)))))))))))
     refine Dp20 (LT.add rfl) rfl ⟨rfl, rfl⟩ ⟨_, rfl, .inl ⟨_, rfl, (by rw [hb51]; rfl)⟩⟩ rfl (AOD.bind fun x53 hx53 => (Dp21 (LT.tindexLoc rfl rfl el30 hx53) rfl rfl rfl ⟨_, rfl, .inl ⟨_, rfl, (by rw [hb51]; rfl)⟩⟩ rfl (Dp11 (LT.tloadN rfl ag112 (infS inf112) sz112 hx53 (by exact rfl) (by exact rfl)) rfl rfl ⟨_, rfl, .inl ⟨_, rfl, (by rw [hb51]; rfl)⟩⟩ rfl (AOD.bind fun r54 hr54 => (AOD.pure (@LT.callF Try.prog _ _ 175 _ _ [(.agg [(iC x52.A), (iC x52.B)]), (.agg [(iC x53.A), (iC x53.B)])] _ _ [] _ _ _ _ (w_impl_compareBars x52 x53 r54 hr54) rfl cb175 (.cons (.agg (.cons (.same rfl) (.cons (.same rfl) .nil))) (.cons (.agg (.cons (.same rfl) (.cons (.same rfl) .nil))) .nil)) rfl rfl trivial) ⟨rfl, rfl, rfl, trivial⟩ trivial ⟨_, rfl, .inl ⟨_, rfl, (by rw [hb51]; rfl)⟩⟩ rfl (Dp20 (LT.lss rfl) rfl ⟨rfl, rfl⟩ ⟨_, rfl, .inl ⟨_, rfl, (by rw [hb51]; rfl)⟩⟩ rfl (Dp20 (LT.pickT (v := (Bv (decide (r54 < 0)))) rfl hb51) rfl rfl rfl rfl (AOD.nil (by kernel_rfl) (AWR.nil ⟨rfl, Ent.of ⟨rfl, rfl, rfl, rfl, rfl, rfl, rfl, trivial⟩ ⟨rfl, trivial⟩⟩)))))))))
    ·refine AOD.skip ⟨_, rfl, .inl ⟨_, rfl, (by rw [hb51]; rfl)⟩⟩ rfl (AOD.skip ⟨_, rfl, .inl ⟨_, rfl, (by rw [hb51]; rfl)⟩⟩ rfl (AOD.skip ⟨_, rfl, .inl ⟨_, rfl, (by rw [hb51]; rfl)⟩⟩ rfl (AOD.skip ⟨_, rfl, .inl ⟨_, rfl, (by rw [hb51]; rfl)⟩⟩ rfl (AOD.skip ⟨_, rfl, .inl ⟨_, rfl, (by rw [hb51]; rfl)⟩⟩ rfl (AOD.skip ⟨_, rfl, .inl ⟨_, rfl, (by rw [hb51]; rfl)⟩⟩ rfl (AOD.skip ⟨_, rfl, .inl ⟨_, rfl, (by rw [hb51]; rfl)⟩⟩ rfl (AOD.skip ⟨_, rfl, .inl ⟨_, rfl, (by rw [hb51]; rfl)⟩⟩ rfl (AOD.skip ⟨_, rfl, .inl ⟨_, rfl, (by rw [hb51]; rfl)⟩⟩ rfl (AOD.skip ⟨_, rfl, .inl ⟨_, rfl, (by rw [hb51]; rfl)⟩⟩ rfl (AOD.skip ⟨_, rfl, .inl ⟨_, rfl, (by rw [hb51]; rfl)⟩⟩ rfl (AOD.skip ⟨_, rfl, .inl ⟨_, rfl, (by rw [hb51]; rfl)⟩⟩ rfl ?_)))))))))))
     refine AOD.skip ⟨_, rfl, .inl ⟨_, rfl, (by rw [hb51]; rfl)⟩⟩ rfl (AOD.skip ⟨_, rfl, .inl ⟨_, rfl, (by rw [hb51]; rfl)⟩⟩ rfl (AOD.skip ⟨_, rfl, .inl ⟨_, rfl, (by rw [hb51]; rfl)⟩⟩ rfl (AOD.skip ⟨_, rfl, .inl ⟨_, rfl, (by rw [hb51]; rfl)⟩⟩ rfl (Dp20 (LT.pickF (v := (Bv false)) rfl hb51) rfl ⟨rfl, rfl⟩ rfl rfl (AOD.nil (by kernel_rfl) (AWR.nil ⟨rfl, Ent.of ⟨rfl, rfl, rfl, rfl, rfl, rfl, rfl, trivial⟩ ⟨rfl, trivial⟩⟩))))))
   ·refine AWR.joinK (fun j56 => ([(0, (Cc (lo 0 s1.2.length))), (2, (Iv hi)), (3, (Iv first)), (4, (Cc (.fn 175 []))), (10, (Iv s1.1)), (11, (Iv j56))], [(0, (pR 112 encTBar s1.2))])) ?_ (fun j56 _ => ?_)
    ·refine AWR.cond rfl (fun hc57 => ?_) (fun hc57 => ?_)
     ·refine Wr (mv (Iv (w64 ((w64 (2 * s1.1)) + 1))) rfl rfl rfl rfl (Op20 (LT.add rfl) rfl ⟨rfl, rfl⟩ rfl rfl (asg (Iv (w64 ((w64 ((w64 (2 * s1.1)) + 1)) + 1))) rfl rfl rfl rfl (On (AWR.nil ⟨rfl, Ent.of ⟨rfl, rfl, rfl, rfl, rfl, rfl, trivial⟩ ⟨rfl, trivial⟩⟩)))))
     ·refine AWR.skip (AWR.nil ⟨rfl, Ent.of ⟨rfl, rfl, rfl, rfl, rfl, rfl, trivial⟩ ⟨rfl, trivial⟩⟩)
    ·refine Ws (Ws (AWR.draw mixed ?_))
     refine Dp10 (LT.move (v := (Cc (.fn 175 []))) rfl) rfl rfl rfl (Dp10 (LT.move (v := (Cc (lo 0 s1.2.length))) rfl) rfl rfl rfl (Dp10 (LT.move (v := (Iv first)) rfl) rfl rfl rfl (Dp10 (LT.move (v := (Iv s1.1)) rfl) rfl rfl rfl (Dp20 (LT.add rfl) rfl rfl rfl rfl (AOD.bind fun x58 hx58 => (Dp21 (LT.tindexLoc rfl rfl el30 hx58) rfl rfl rfl rfl rfl (Dp11 (LT.tloadN rfl ag112 (infS inf112) sz112 hx58 (by exact rfl) (by exact rfl)) rfl rfl rfl rfl (Dp10 (LT.move (v := (Cc (lo 0 s1.2.length))) rfl) rfl rfl rfl (Dp10 (LT.move (v := (Iv first)) rfl) rfl rfl rfl (Dp10 (LT.move (v := (Iv j56)) rfl) rfl rfl rfl (Dp20 (LT.add rfl) rfl rfl rfl rfl ?_)))))))))))
     refine AOD.bind fun x59 hx59 => (Dp21 (LT.tindexLoc rfl rfl el30 hx59) rfl rfl rfl rfl rfl (Dp11 (LT.tloadN rfl ag112 (infS inf112) sz112 hx59 (by exact rfl) (by exact rfl)) rfl rfl rfl rfl (AOD.bind fun r60 hr60 => (AOD.pure (@LT.callF Try.prog _ _ 175 _ _ [(.agg [(iC x58.A), (iC x58.B)]), (.agg [(iC x59.A), (iC x59.B)])] _ _ [] _ _ _ _ (w_impl_compareBars x58 x59 r60 hr60) rfl cb175 (.cons (.agg (.cons (.same rfl) (.cons (.same rfl) .nil))) (.cons (.agg (.cons (.same rfl) (.cons (.same rfl) .nil))) .nil)) rfl rfl trivial) ⟨rfl, rfl, rfl, trivial⟩ trivial rfl rfl (Dp20 (LT.lss rfl) rfl ⟨rfl, rfl⟩ rfl rfl (Dp10 (LT.not rfl) rfl rfl rfl (AOD.nil (by kernel_rfl) (AWR.cond rfl (fun hc61 => ?_) (fun hc61 => ?_)))))))))
     ·refine AWR.ret ⟨rfl, FPost.mk (.inr rfl) trivial ⟨rfl, trivial⟩ rfl trivial ⟨PermO.prow' perm_encTBar, trivial⟩⟩
     ·refine AWR.skip (Ws ?_)
      refine en [(0, (Cc (lo 0 s1.2.length))), (2, (Iv hi)), (3, (Iv first)), (4, (Cc (.fn 175 []))), (10, (Iv s1.1)), (11, (Iv j56))] [(0, (pR 112 encTBar s1.2))] ⟨rfl, rfl, rfl, rfl, rfl, rfl, trivial⟩ ⟨rfl, trivial⟩ (AWR.draw mixed (Dp10 (LT.move (v := (Cc (lo 0 s1.2.length))) rfl) rfl rfl rfl (Dp10 (LT.move (v := (Iv first)) rfl) rfl rfl rfl (Dp10 (LT.move (v := (Iv s1.1)) rfl) rfl rfl rfl (Dp20 (LT.add rfl) rfl rfl rfl rfl (Dp10 (LT.move (v := (Cc (lo 0 s1.2.length))) rfl) rfl rfl rfl (Dp10 (LT.move (v := (Iv first)) rfl) rfl rfl rfl (Dp10 (LT.move (v := (Iv j56)) rfl) rfl rfl rfl (Dp20 (LT.add rfl) rfl rfl rfl rfl (Dp10 (LT.move (v := (Cc (lo 0 s1.2.length))) rfl) rfl rfl rfl (Dp10 (LT.move (v := (Iv first)) rfl) rfl rfl rfl ?_)))))))))))
      refine Dp10 (LT.move (v := (Iv j56)) rfl) rfl rfl rfl (Dp20 (LT.add rfl) rfl rfl rfl rfl (AOD.bind fun x62 hx62 => (Dp21 (LT.tindexLoc rfl rfl el30 hx62) rfl rfl rfl rfl rfl (Dp11 (LT.tloadN rfl ag112 (infS inf112) sz112 hx62 (by exact rfl) (by exact rfl)) rfl rfl rfl rfl (Dp10 (LT.move (v := (Cc (lo 0 s1.2.length))) rfl) rfl rfl rfl (Dp10 (LT.move (v := (Iv first)) rfl) rfl rfl rfl (Dp10 (LT.move (v := (Iv s1.1)) rfl) rfl rfl rfl (Dp20 (LT.add rfl) rfl rfl rfl rfl (AOD.bind fun x63 hx63 => (Dp21 (LT.tindexLoc rfl rfl el30 hx63) rfl rfl rfl rfl rfl (Dp11 (LT.tloadN rfl ag112 (infS inf112) sz112 hx63 (by exact rfl) (by exact rfl)) rfl rfl rfl rfl ?_)))))))))))
      refine AOD.bind fun x64 hx64 => (Dp21 (LT.tindexLoc rfl rfl el30 hx64) rfl rfl rfl rfl rfl (Ds21 (LT.tstore (k := 0) (v := (.agg [(iC x62.A), (iC x62.B)])) (b' := x62) rfl rfl (infS inf112) sz112 (by exact rfl) hx64 (by exact rfl) (by exact Nat.le_of_ble_eq_true rfl) (by exact rfl)) rfl rfl rfl rfl rfl (AOD.bind fun x65 hx65 => (Dp21 (LT.tindexLoc (show s1.2.length = (s1.2.set (w64 (first + s1.1)).toNat x62).length by simp only [List.length_set]) rfl el30 hx65) rfl rfl rfl rfl rfl (Ds21 (LT.tstore (k := 0) (v := (.agg [(iC x63.A), (iC x63.B)])) (b' := x63) rfl rfl (infS inf112) sz112 (by exact rfl) hx65 (by exact rfl) (by exact Nat.le_of_ble_eq_true rfl) (by exact rfl)) rfl rfl rfl rfl rfl (AOD.nil (by kernel_rfl) (en [(0, (Cc (lo 0 s1.2.length))), (2, (Iv hi)), (3, (Iv first)), (4, (Cc (.fn 175 []))), (11, (Iv j56))] [(0, (pR 112 encTBar ((s1.2.set (w64 (first + s1.1)).toNat x62).set (w64 (first + j56)).toNat x63)))] ⟨rfl, rfl, rfl, rfl, rfl, trivial⟩ ⟨rfl, trivial⟩ (Wr (mv (Iv j56) rfl rfl rfl rfl (asg (Iv j56) rfl rfl rfl rfl (On (AWR.blk ?_))))))))))))
      refine AWR.nil ⟨rfl, Ent.of ⟨(congrArg (fun l1 => (some (AV.s (.c (lo 0 l1))) : Option AV)) (show s1.2.length = ((s1.2.set (w64 (first + s1.1)).toNat x62).set (w64 (first + j56)).toNat x63).length by simp only [List.length_set])), rfl, rfl, rfl, rfl, trivial⟩ ⟨rfl, trivial⟩⟩
 ·refine AWR.nil (FPost.mk (.inl rfl) trivial ⟨rfl, trivial⟩ rfl trivial ⟨PermO.prow' perm_encTBar, trivial⟩)
theorem w_slices_heapSortCmpFunc_Bar (data : (List TBar)) (a : Int) (b : Int) : ∀ t, m_slices_heapSortCmpFunc_Bar data a b = some t → Fw.Fn Try.prog 226 [(.c (lo 0 data.length)), (.c (iC a)), (.c (iC b)), (.c (.fn 175 []))] [(0, (pR 112 encTBar data))] (resA []) [(0, (pR 112 encTBar t))] [0] [] := by
 refine Fw.Fn.of (P := Try.prog) (X := []) (pn := [0]) (rs := (fun (t : (List TBar)) => [])) (dfs := (fun (t : (List TBar)) => [(0, (pR 112 encTBar t))])) Try.func226 rfl Try.ntmps226 (Nat.le_of_ble_eq_true rfl) rfl ?_
 intro w0 U0 R0 g0
 unfold m_slices_heapSortCmpFunc_Bar
 refine Ws (Wr ?_)
 refine mv (Iv a) rfl rfl rfl rfl (asg (Iv a) rfl rfl rfl rfl (On (Ws (Wr ?_))))
 refine asg (Iv 0) rfl ⟨rfl, rfl⟩ rfl rfl (On (Ws (Wr ?_)))
 refine mv (Iv b) rfl rfl rfl rfl (mv (Iv a) rfl rfl rfl rfl (Op20 (LT.sub rfl) rfl rfl rfl rfl (asg (Iv (w64 (b - a))) rfl rfl rfl rfl (On (Ws (Ws (Wr ?_)))))))
 refine mv (Iv (w64 (b - a))) rfl rfl rfl rfl (Op20 (LT.sub rfl) rfl ⟨rfl, rfl⟩ rfl rfl (Op20 (LT.quo rfl (by decide)) rfl ⟨rfl, rfl⟩ rfl rfl (asg (Iv (w64 (Int.tdiv (w64 ((w64 (b - a)) - 1)) 2))) rfl rfl rfl rfl (On (AWR.block ?_)))))
 refine AWR.loop1 (id := 0) (m_slices_heapSortCmpFunc_Bar_L1 a b) (fun s1 => ([(0, (Cc (lo 0 s1.2.length))), (3, (Cc (.fn 175 []))), (8, (Iv a)), (9, (Iv 0)), (10, (Iv (w64 (b - a)))), (11, (Iv s1.1))], [(0, (pR 112 encTBar s1.2))])) (fun b6 => ([(0, (Cc (lo 0 b6.length))), (3, (Cc (.fn 175 []))), (8, (Iv a)), (9, (Iv 0)), (10, (Iv (w64 (b - a))))], [(0, (pR 112 encTBar b6))])) ?_ (Ent.of ⟨rfl, rfl, rfl, rfl, rfl, rfl, trivial⟩ ⟨rfl, trivial⟩) rfl (fun b6 _ => ?_)
 ·intro s1
  unfold m_slices_heapSortCmpFunc_Bar_L1
  refine Ws (Ws (Wr ?_))
  refine mv (Iv s1.1) rfl rfl rfl rfl (Op20 (LT.geq rfl) rfl ⟨rfl, rfl⟩ rfl rfl (On (AWR.cond rfl (fun hc7 => ?_) (fun hc7 => ?_))))
  ·refine AWR.skip (Ws (AWR.block (Wr ?_)))
   refine mv (Cc (lo 0 s1.2.length)) rfl rfl rfl rfl (mv (Iv s1.1) rfl rfl rfl rfl (mv (Iv (w64 (b - a))) rfl rfl rfl rfl (mv (Iv a) rfl rfl rfl rfl (mv (Cc (.fn 175 [])) rfl rfl rfl rfl (Ob' fun r8 hr8 => (AOR.step (@LT.callF Try.prog _ _ 242 _ _ [(.c (lo 0 s1.2.length)), (.c (iC s1.1)), (.c (iC (w64 (b - a)))), (.c (iC a)), (.c (.fn 175 []))] _ _ [] _ _ _ _ ((show Fw.Fn Try.prog 242 [(.c (lo 0 s1.2.length)), (.c (iC s1.1)), (.c (iC (w64 (b - a)))), (.c (iC a)), (.c (.fn 175 []))] [(0, (pR 112 encTBar s1.2))] (.tup []) [(0, (pR 112 encTBar r8))] [0] [] from Fw.Fn.ren [(0, 0)] (w_slices_siftDownCmpFunc_Bar s1.2 s1.1 (w64 (b - a)) a r8 hr8) rfl)) rfl cb242 (.cons (.c (.same rfl)) (.cons (.c (.same rfl)) (.cons (.c (.same rfl)) (.cons (.c (.same rfl)) (.cons (.c (.same rfl)) .nil))))) rfl rfl ⟨rfl, trivial⟩) ⟨rfl, rfl, rfl, rfl, rfl, rfl, trivial⟩ ⟨rfl, trivial⟩ rfl rfl (On (AWR.blk (Wr ?_)))))))))
   refine mv (Iv s1.1) rfl rfl rfl rfl (Op20 (LT.sub rfl) rfl ⟨rfl, rfl⟩ rfl rfl (asg (Iv (w64 (s1.1 - 1))) rfl rfl rfl rfl (On (AWR.bind fun u9 hu9 => (AWR.nil ⟨rfl, Ent.of ⟨(congrArg (fun l1 => (some (AV.s (.c (lo 0 l1))) : Option AV)) (same_eq hu9)), rfl, rfl, rfl, rfl, rfl, trivial⟩ ⟨rfl, trivial⟩⟩)))))
  ·refine AWR.exit_end rfl ⟨rfl, Ent.of ⟨rfl, rfl, rfl, rfl, rfl, trivial⟩ ⟨rfl, trivial⟩⟩
 ·refine Ws (Wr ?_)
  refine mv (Iv (w64 (b - a))) rfl rfl rfl rfl (Op20 (LT.sub rfl) rfl ⟨rfl, rfl⟩ rfl rfl (asg (Iv (w64 ((w64 (b - a)) - 1))) rfl rfl rfl rfl (On (AWR.block ?_))))
  refine AWR.loop1 (id := 2) (m_slices_heapSortCmpFunc_Bar_L2 a) (fun s10 => ([(0, (Cc (lo 0 s10.2.length))), (3, (Cc (.fn 175 []))), (8, (Iv a)), (9, (Iv 0)), (12, (Iv s10.1))], [(0, (pR 112 encTBar s10.2))])) (fun b23 => ([], [(0, (pR 112 encTBar b23))])) ?_ (Ent.of ⟨rfl, rfl, rfl, rfl, rfl, trivial⟩ ⟨rfl, trivial⟩) rfl (fun b23 _ => ?_)
  ·intro s10
   unfold m_slices_heapSortCmpFunc_Bar_L2
   refine Ws (Ws (Wr ?_))
   refine mv (Iv s10.1) rfl rfl rfl rfl (Op20 (LT.geq rfl) rfl ⟨rfl, rfl⟩ rfl rfl (On (AWR.cond rfl (fun hc24 => ?_) (fun hc24 => ?_))))
   ·refine AWR.skip (Ws (AWR.block (Ws (AWR.draw mixed ?_))))
    refine Dp10 (LT.move (v := (Cc (lo 0 s10.2.length))) rfl) rfl rfl rfl (Dp10 (LT.move (v := (Iv a)) rfl) rfl rfl rfl (Dp10 (LT.move (v := (Cc (lo 0 s10.2.length))) rfl) rfl rfl rfl (Dp10 (LT.move (v := (Iv a)) rfl) rfl rfl rfl (Dp10 (LT.move (v := (Iv s10.1)) rfl) rfl rfl rfl (Dp20 (LT.add rfl) rfl rfl rfl rfl (Dp10 (LT.move (v := (Cc (lo 0 s10.2.length))) rfl) rfl rfl rfl (Dp10 (LT.move (v := (Iv a)) rfl) rfl rfl rfl (Dp10 (LT.move (v := (Iv s10.1)) rfl) rfl rfl rfl (Dp20 (LT.add rfl) rfl rfl rfl rfl (AOD.bind fun x25 hx25 => (Dp21 (LT.tindexLoc rfl rfl el30 hx25) rfl rfl rfl rfl rfl ?_)))))))))))
    refine Dp11 (LT.tloadN rfl ag112 (infS inf112) sz112 hx25 (by exact rfl) (by exact rfl)) rfl rfl rfl rfl (Dp10 (LT.move (v := (Cc (lo 0 s10.2.length))) rfl) rfl rfl rfl (Dp10 (LT.move (v := (Iv a)) rfl) rfl rfl rfl (AOD.bind fun x26 hx26 => (Dp21 (LT.tindexLoc rfl rfl el30 hx26) rfl rfl rfl rfl rfl (Dp11 (LT.tloadN rfl ag112 (infS inf112) sz112 hx26 (by exact rfl) (by exact rfl)) rfl rfl rfl rfl (AOD.bind fun x27 hx27 => (Dp21 (LT.tindexLoc rfl rfl el30 hx27) rfl rfl rfl rfl rfl (Ds21 (LT.tstore (k := 0) (v := (.agg [(iC x25.A), (iC x25.B)])) (b' := x25) rfl rfl (infS inf112) sz112 (by exact rfl) hx27 (by exact rfl) (by exact Nat.le_of_ble_eq_true rfl) (by exact rfl)) rfl rfl rfl rfl rfl (AOD.bind fun x28 hx28 => (Dp21 (LT.tindexLoc (show s10.2.length = (s10.2.set a.toNat x25).length by simp only [List.length_set]) rfl el30 hx28) rfl rfl rfl rfl rfl (Ds21 (LT.tstore (k := 0) (v := (.agg [(iC x26.A), (iC x26.B)])) (b' := x26) rfl rfl (infS inf112) sz112 (by exact rfl) hx28 (by exact rfl) (by exact Nat.le_of_ble_eq_true rfl) (by exact rfl)) rfl rfl rfl rfl rfl ?_)))))))))))
    refine AOD.nil (by kernel_rfl) (en [(0, (Cc (lo 0 s10.2.length))), (3, (Cc (.fn 175 []))), (8, (Iv a)), (9, (Iv 0)), (12, (Iv s10.1))] [(0, (pR 112 encTBar ((s10.2.set a.toNat x25).set (w64 (a + s10.1)).toNat x26)))] ⟨rfl, rfl, rfl, rfl, rfl, trivial⟩ ⟨rfl, trivial⟩ (en [(0, (Cc (lo 0 (((s10.2.set a.toNat x25).set (w64 (a + s10.1)).toNat x26).length)))), (3, (Cc (.fn 175 []))), (8, (Iv a)), (9, (Iv 0)), (12, (Iv s10.1))] [(0, (pR 112 encTBar ((s10.2.set a.toNat x25).set (w64 (a + s10.1)).toNat x26)))] ⟨(congrArg (fun l1 => (some (AV.s (.c (lo 0 l1))) : Option AV)) (show s10.2.length = ((s10.2.set a.toNat x25).set (w64 (a + s10.1)).toNat x26).length by simp only [List.length_set])), rfl, rfl, rfl, rfl, trivial⟩ ⟨rfl, trivial⟩ (Wr (mv (Cc (lo 0 (((s10.2.set a.toNat x25).set (w64 (a + s10.1)).toNat x26).length))) rfl rfl rfl rfl (mv (Iv 0) rfl rfl rfl rfl (mv (Iv s10.1) rfl rfl rfl rfl (mv (Iv a) rfl rfl rfl rfl (mv (Cc (.fn 175 [])) rfl rfl rfl rfl (Ob' fun r29 hr29 => (AOR.step (@LT.callF Try.prog _ _ 242 _ _ [(.c (lo 0 (((s10.2.set a.toNat x25).set (w64 (a + s10.1)).toNat x26).length))), (.c (iC 0)), (.c (iC s10.1)), (.c (iC a)), (.c (.fn 175 []))] _ _ [] _ _ _ _ ((show Fw.Fn Try.prog 242 [(.c (lo 0 (((s10.2.set a.toNat x25).set (w64 (a + s10.1)).toNat x26).length))), (.c (iC 0)), (.c (iC s10.1)), (.c (iC a)), (.c (.fn 175 []))] [(0, (pR 112 encTBar ((s10.2.set a.toNat x25).set (w64 (a + s10.1)).toNat x26)))] (.tup []) [(0, (pR 112 encTBar r29))] [0] [] from Fw.Fn.ren [(0, 0)] (w_slices_siftDownCmpFunc_Bar ((s10.2.set a.toNat x25).set (w64 (a + s10.1)).toNat x26) 0 s10.1 a r29 hr29) rfl)) rfl cb242 (.cons (.c (.same rfl)) (.cons (.c (.same rfl)) (.cons (.c (.same rfl)) (.cons (.c (.same rfl)) (.cons (.c (.same rfl)) .nil))))) rfl rfl ⟨rfl, trivial⟩) ⟨rfl, rfl, rfl, rfl, rfl, rfl, trivial⟩ ⟨rfl, trivial⟩ rfl rfl (On (AWR.blk (Wr ?_)))))))))))))
    refine mv (Iv s10.1) rfl rfl rfl rfl (Op20 (LT.sub rfl) rfl ⟨rfl, rfl⟩ rfl rfl (asg (Iv (w64 (s10.1 - 1))) rfl rfl rfl rfl (On (AWR.bind fun u30 hu30 => (AWR.nil ⟨rfl, Ent.of ⟨(congrArg (fun l1 => (some (AV.s (.c (lo 0 l1))) : Option AV)) (same_eq hu30)), rfl, rfl, rfl, rfl, trivial⟩ ⟨rfl, trivial⟩⟩)))))
   ·refine AWR.exit_end rfl ⟨rfl, Ent.of trivial ⟨rfl, trivial⟩⟩
  ·refine AWR.nil (FPost.mk (.inl rfl) trivial ⟨rfl, trivial⟩ rfl trivial ⟨PermO.prow' perm_encTBar, trivial⟩)
theorem w_slices_pdqsortCmpFunc_Bar (data : (List TBar)) (a : Int) (b : Int) (limit : Int) : ∀ t, m_slices_pdqsortCmpFunc_Bar data a b limit = some t → Fw.Fn Try.prog 208 [(.c (lo 0 data.length)), (.c (iC a)), (.c (iC b)), (.c (iC limit)), (.c (.fn 175 []))] [(0, (pR 112 encTBar data))] (resA []) [(0, (pR 112 encTBar t))] [0] [] := by
 refine Fw.Fn.of (P := Try.prog) (X := []) (pn := [0]) (rs := (fun (t : (List TBar)) => [])) (dfs := (fun (t : (List TBar)) => [(0, (pR 112 encTBar t))])) Try.func208 rfl Try.ntmps208 (Nat.le_of_ble_eq_true rfl) rfl ?_
 intro w0 U0 R0 g0
 unfold m_slices_pdqsortCmpFunc_Bar
 refine Ws (Wr ?_)
 refine asg (Bv true) rfl ⟨rfl, rfl⟩ rfl rfl (On (Ws (Wr ?_)))
 refine asg (Bv true) rfl ⟨rfl, rfl⟩ rfl rfl (On (AWR.block ?_))
 refine AWR.loop0 (AWR.block (Ws (Wr ?_)))
 refine mv (Iv b) rfl rfl rfl rfl (mv (Iv a) rfl rfl rfl rfl (Op20 (LT.sub rfl) rfl rfl rfl rfl (asg (Iv (w64 (b - a))) rfl rfl rfl rfl (On (Ws (Ws (Wr ?_)))))))
 refine mv (Iv (w64 (b - a))) rfl rfl rfl rfl (Op20 (LT.leq rfl) rfl ⟨rfl, rfl⟩ rfl rfl (On (AWR.cond rfl (fun hc1 => ?_) (fun hc1 => ?_))))
 ·refine Ws (Wr ?_)
  refine mv (Cc (lo 0 data.length)) rfl rfl rfl rfl (mv (Iv a) rfl rfl rfl rfl (mv (Iv b) rfl rfl rfl rfl (mv (Cc (.fn 175 [])) rfl rfl rfl rfl (Ob' fun r2 hr2 => (AOR.step (@LT.callF Try.prog _ _ 225 _ _ [(.c (lo 0 data.length)), (.c (iC a)), (.c (iC b)), (.c (.fn 175 []))] _ _ [] _ _ _ _ ((show Fw.Fn Try.prog 225 [(.c (lo 0 data.length)), (.c (iC a)), (.c (iC b)), (.c (.fn 175 []))] [(0, (pR 112 encTBar data))] (.tup []) [(0, (pR 112 encTBar r2))] [0] [] from Fw.Fn.ren [(0, 0)] (w_slices_insertionSortCmpFunc_Bar data a b r2 hr2) rfl)) rfl cb225 (.cons (.c (.same rfl)) (.cons (.c (.same rfl)) (.cons (.c (.same rfl)) (.cons (.c (.same rfl)) .nil)))) rfl rfl ⟨rfl, trivial⟩) ⟨rfl, rfl, rfl, rfl, rfl, trivial⟩ ⟨rfl, trivial⟩ rfl rfl (On (AWR.ret ⟨rfl, FPost.mk (.inr rfl) trivial ⟨rfl, trivial⟩ rfl trivial ⟨PermO.prow' perm_encTBar, trivial⟩⟩)))))))
 ·refine AWR.skip (Ws (Ws (Wr ?_)))
  refine mv (Iv limit) rfl rfl rfl rfl (Op20 (LT.eql rfl) rfl ⟨rfl, rfl⟩ rfl rfl (On (AWR.cond rfl (fun hc3 => ?_) (fun hc3 => ?_))))
  ·refine Ws (Wr ?_)
   refine mv (Cc (lo 0 data.length)) rfl rfl rfl rfl (mv (Iv a) rfl rfl rfl rfl (mv (Iv b) rfl rfl rfl rfl (mv (Cc (.fn 175 [])) rfl rfl rfl rfl (Ob' fun r4 hr4 => (AOR.step (@LT.callF Try.prog _ _ 226 _ _ [(.c (lo 0 data.length)), (.c (iC a)), (.c (iC b)), (.c (.fn 175 []))] _ _ [] _ _ _ _ ((show Fw.Fn Try.prog 226 [(.c (lo 0 data.length)), (.c (iC a)), (.c (iC b)), (.c (.fn 175 []))] [(0, (pR 112 encTBar data))] (.tup []) [(0, (pR 112 encTBar r4))] [0] [] from Fw.Fn.ren [(0, 0)] (w_slices_heapSortCmpFunc_Bar data a b r4 hr4) rfl)) rfl cb226 (.cons (.c (.same rfl)) (.cons (.c (.same rfl)) (.cons (.c (.same rfl)) (.cons (.c (.same rfl)) .nil)))) rfl rfl ⟨rfl, trivial⟩) ⟨rfl, rfl, rfl, rfl, rfl, trivial⟩ ⟨rfl, trivial⟩ rfl rfl (On (AWR.ret ⟨rfl, FPost.mk (.inr rfl) trivial ⟨rfl, trivial⟩ rfl trivial ⟨PermO.prow' perm_encTBar, trivial⟩⟩)))))))
  ·exact AWR.none
theorem w_slices_SortFunc_Bar (x : (List TBar)) : ∀ t, m_slices_SortFunc_Bar x = some t → Fw.Fn Try.prog 174 [(.c (lo 0 x.length)), (.c (.fn 175 []))] [(0, (pR 112 encTBar x))] (resA []) [(0, (pR 112 encTBar t))] [0] [] := by
 refine Fw.Fn.of (P := Try.prog) (X := []) (pn := [0]) (rs := (fun (t : (List TBar)) => [])) (dfs := (fun (t : (List TBar)) => [(0, (pR 112 encTBar t))])) Try.func174 rfl Try.ntmps174 (Nat.le_of_ble_eq_true rfl) rfl ?_
 intro w0 U0 R0 g0
 unfold m_slices_SortFunc_Bar
 refine Ws (Wr ?_)
 refine mv (Cc (lo 0 x.length)) rfl rfl rfl rfl (Op10 (LT.lenLoc rfl und30) rfl rfl rfl (asg (Iv (x.length : Int)) rfl rfl rfl rfl (On (Wr ?_))))
 refine mv (Cc (lo 0 x.length)) rfl rfl rfl rfl (mv (Iv (x.length : Int)) rfl rfl rfl rfl (mv (Iv (x.length : Int)) rfl rfl rfl rfl (Op10 (LT.convInt rfl undS3 und166) rfl rfl rfl (Ob' fun r1 hr1 => (AOR.pure (@LT.callF Try.prog _ _ 209 _ _ [(.c (sC (.int .u64 (IntKind.u64.wrap (x.length : Int)))))] _ _ [] _ _ _ _ (w_bits_Len (IntKind.u64.wrap (x.length : Int)) r1 hr1) rfl cb209 (.cons (.c (.same rfl)) .nil) rfl rfl trivial) ⟨rfl, rfl, trivial⟩ trivial rfl rfl (mv (Cc (.fn 175 [])) rfl rfl rfl rfl (Ob' fun r2 hr2 => (AOR.step (@LT.callF Try.prog _ _ 208 _ _ [(.c (lo 0 x.length)), (.c (iC 0)), (.c (iC (x.length : Int))), (.c (iC r1)), (.c (.fn 175 []))] _ _ [] _ _ _ _ ((show Fw.Fn Try.prog 208 [(.c (lo 0 x.length)), (.c (iC 0)), (.c (iC (x.length : Int))), (.c (iC r1)), (.c (.fn 175 []))] [(0, (pR 112 encTBar x))] (.tup []) [(0, (pR 112 encTBar r2))] [0] [] from Fw.Fn.ren [(0, 0)] (w_slices_pdqsortCmpFunc_Bar x 0 (x.length : Int) r1 r2 hr2) rfl)) rfl cb208 (.cons (.c (.same rfl)) (.cons (.c (.same rfl)) (.cons (.c (.same rfl)) (.cons (.c (.same rfl)) (.cons (.c (.same rfl)) .nil))))) rfl rfl ⟨rfl, trivial⟩) ⟨rfl, rfl, ⟨rfl, rfl⟩, rfl, rfl, rfl, trivial⟩ ⟨rfl, trivial⟩ rfl rfl (On (AWR.nil (FPost.mk (.inl rfl) trivial ⟨rfl, trivial⟩ rfl trivial ⟨PermO.prow' perm_encTBar, trivial⟩)))))))))))
theorem w_impl_withBars (g : TGraph) (l : (List TBar)) : ∀ t, m_impl_withBars g l = some t → Fw.Fn Try.prog 114 [(.agg [(iC g.Points), (xF encTBar g.Bars)]), (.c (xF encTBar l))] [] (.s (.agg [(iC t.Points), (lo 0 t.Bars.length)])) [(0, (pR 112 encTBar t.Bars))] [] [0] := by
 refine Fw.Fn.of (P := Try.prog) (X := [0]) (pn := []) (rs := (fun (t : TGraph) => [(.agg [(iC t.Points), (lo 0 t.Bars.length)])])) (dfs := (fun (t : TGraph) => [(0, (pR 112 encTBar t.Bars))])) Try.func114 rfl Try.ntmps114 (Nat.le_of_ble_eq_true rfl) rfl ?_
 intro w0 U0 R0 g0
 unfold m_impl_withBars
 refine Ws (Wr ?_)
 refine Os10 (LT.box (n := 21) (v := (.agg [(iC g.Points), (xF encTBar g.Bars)])) rfl sz32 (by exact rfl)) rfl rfl rfl (Os00 (LT.alloc (n := 22) (cells := [(iC 0), (sC nilV)]) rfl ti32 rfl rfl rfl) rfl rfl (On (Ws (Wr ?_))))
 refine Op11 (LT.bloadN (out := [(iC g.Points), (xF encTBar g.Bars)]) rfl ag32 (infS inf32) sz32 (by exact rfl) (by exact rfl)) rfl rfl rfl rfl (Ob' fun r1 hr1 => (AOR.step (@LT.callF Try.prog _ _ 154 _ _ [(.agg [(iC g.Points), (xF encTBar g.Bars)])] _ _ [] _ _ _ _ ((show Fw.Fn Try.prog 154 [(.agg [(iC g.Points), (xF encTBar g.Bars)])] [] (Ag  [(iC r1.Points), (lo 24 r1.Bars.length)]) [(24, (pR 112 encTBar r1.Bars))] [] [24] from Fw.Fn.ren [(0, 24)] (w_impl_copyGraph g r1 hr1) rfl)) rfl cb154 (.cons (.agg (.cons (.same rfl) (.cons (.same rfl) .nil))) .nil) rfl rfl trivial) ⟨rfl, rfl, trivial⟩ trivial rfl rfl (Os00 (LT.alloc (n := 25) (cells := [(iC 0), (sC nilV)]) rfl ti32 rfl rfl rfl) rfl rfl (Os21 (LT.bstore (v := (.agg [(iC r1.Points), (lo 24 r1.Bars.length)])) (out := [(iC r1.Points), (lo 24 r1.Bars.length)]) rfl rfl (infS inf32) sz32 (by exact rfl) (by exact Nat.le_of_ble_eq_true rfl) (by exact rfl)) rfl rfl rfl rfl rfl (On (Ws ?_))))))
 refine en [(1, (Cc (xF encTBar l))), (4, (Cc (.pl 22 0))), (5, (Cc (.pl 25 0)))] [(22, (.row 32 [[(iC 0), (sC nilV)]])), (24, (pR 112 encTBar r1.Bars)), (25, (.row 32 [[(iC r1.Points), (lo 24 r1.Bars.length)]]))] ⟨rfl, rfl, rfl, trivial⟩ ⟨rfl, rfl, rfl, trivial⟩ (Wr (Op10 (LT.fieldPl rfl fo32_1) rfl rfl rfl (Op11 (LT.bload1 (c := (lo 24 r1.Bars.length)) rfl ag30 (by exact rfl)) rfl rfl rfl rfl (mv (Cc (xF encTBar l)) rfl rfl rfl rfl (Ob' fun u2 hu2 => (Os21 (LT.tappRO (enc := encTBar) rfl  rfl und30 ti112 rfl (by decide) (by decide) (fun _ => rfl) (lim_le hu2)) rfl rfl rfl rfl rfl (Op10 (LT.fieldPl rfl fo32_1) rfl rfl rfl (Os21 (LT.bstore (v := (.c (lo 24 ((r1.Bars ++ l).length)))) (out := [(iC r1.Points), (lo 24 ((r1.Bars ++ l).length))]) rfl rfl (infS inf30) sz30 (by exact rfl) (by exact Nat.le_of_ble_eq_true rfl) (by exact rfl)) rfl rfl rfl rfl rfl (On (Ws (Wr ?_)))))))))))
 refine Op10 (LT.fieldPl rfl fo32_1) rfl rfl rfl (Op11 (LT.bload1 (c := (lo 24 ((r1.Bars ++ l).length))) rfl ag30 (by exact rfl)) rfl rfl rfl rfl (Ob' fun r3 hr3 => (AOR.step (@LT.callF Try.prog _ _ 174 _ _ [(.c (lo 24 ((r1.Bars ++ l).length))), (.c (.fn 175 []))] _ _ [] _ _ _ _ ((show Fw.Fn Try.prog 174 [(.c (lo 24 ((r1.Bars ++ l).length))), (.c (.fn 175 []))] [(24, (pR 112 encTBar (r1.Bars ++ l)))] (.tup []) [(24, (pR 112 encTBar r3))] [24] [] from Fw.Fn.ren [(0, 24)] (w_slices_SortFunc_Bar (r1.Bars ++ l) r3 hr3) rfl)) rfl cb174 (.cons (.c (.same rfl)) (.cons (.c (.same rfl)) .nil)) rfl rfl ⟨rfl, trivial⟩) ⟨rfl, rfl, rfl, trivial⟩ ⟨rfl, trivial⟩ rfl rfl (On (Ws ?_)))))
 refine en [(4, (Cc (.pl 22 0))), (5, (Cc (.pl 25 0)))] [(22, (.row 32 [[(iC 0), (sC nilV)]])), (24, (pR 112 encTBar r3)), (25, (.row 32 [[(iC r1.Points), (lo 24 ((r1.Bars ++ l).length))]]))] ⟨rfl, rfl, trivial⟩ ⟨rfl, rfl, rfl, trivial⟩ (Wr (Op11 (LT.bloadN (out := [(iC r1.Points), (lo 24 ((r1.Bars ++ l).length))]) rfl ag32 (infS inf32) sz32 (by exact rfl) (by exact rfl)) rfl rfl rfl rfl (Os21 (LT.bstore (v := (.agg [(iC r1.Points), (lo 24 ((r1.Bars ++ l).length))])) (out := [(iC r1.Points), (lo 24 ((r1.Bars ++ l).length))]) rfl rfl (infS inf32) sz32 (by exact rfl) (by exact Nat.le_of_ble_eq_true rfl) (by exact rfl)) rfl rfl rfl rfl rfl (On (AWR.bind fun u4 hu4 => (en [(4, (Cc (.pl 22 0)))] [(22, (.row 32 [[(iC r1.Points), (lo 24 ((r1.Bars ++ l).length))]])), (24, (pR 112 encTBar r3))] ⟨rfl, trivial⟩ ⟨rfl, rfl, trivial⟩ (AWR.ent (Ent.mv 24 0 rfl rfl) (en [(4, (Cc (.pl 22 0)))] [(0, (pR 112 encTBar r3)), (22, (.row 32 [[(iC r1.Points), (lo 0 r3.length)]]))] ⟨rfl, trivial⟩ ⟨rfl, (congrArg (fun l1 => (some (Ob.row 32 [[(iC r1.Points), (lo 0 l1)]]) : Option Ob)) (same_eq hu4)), trivial⟩ (AWR.ret (FPost.mk (.inr rfl) ⟨⟨_, _, _, rfl, rfl, rfl, ag32, sz32, _, (infS inf32)⟩, trivial⟩ ⟨rfl, trivial⟩ rfl ⟨⟨PermP.sc, trivial, trivial⟩, trivial⟩ ⟨PermO.prow' perm_encTBar, trivial⟩))))))))))
end Go.Proofs.Yteognanhfpbghaa
end
section
set_option linter.unusedVariables false
set_option linter.unusedSimpArgs false
set_option linter.unnecessarySimpa false
set_option maxRecDepth 100000
set_option maxHeartbeats 8000000
open Go Go.Fw
namespace Go.Proofs.Yteognanhfpbghaa
theorem w_laws_heldBarS (a : (List TBar)) (k : Int) : ∀ t, m_laws_heldBarS a k = some t → Fw.Fn Try.prog 79 [(.c (xF encTBar a)), (.c (iC k))] [] (.s (.c (iC t))) [] [] [] := by
 refine Fw.Fn.of (P := Try.prog) (X := []) (pn := []) (rs := (fun (t : Int) => [(.c (iC t))])) (dfs := (fun (t : Int) => [])) Try.func79 rfl Try.ntmps79 (Nat.le_of_ble_eq_true rfl) rfl ?_
 intro w0 U0 R0 g0
 unfold m_laws_heldBarS
 refine Ws (Wr ?_)
 refine asg (Iv 0) rfl ⟨rfl, rfl⟩ rfl rfl (On (Ws (Ws (Wr ?_))))
 refine asg (Iv 0) rfl ⟨rfl, rfl⟩ rfl rfl (On (AWR.block ?_))
 refine AWR.loopR (id := 0) (m_laws_heldBarS_L1 a) (fun s1 => ([(0, (Cc (xF encTBar a))), (1, (Iv s1.1)), (5, (Iv s1.2))], [])) (fun b12 => ([(1, (Iv b12))], [])) (FPost Try.prog Try.f79.results.toList [] [] (fun (t : Int) => [(.c (iC t))]) (fun (t : Int) => [])) ?_ (Ent.of ⟨rfl, rfl, rfl, trivial⟩ trivial) rfl (fun b12 _ => ?_) (by intro r t σ m ht hk; injection ht with ht; subst ht; exact hk)
 ·intro s1
  unfold m_laws_heldBarS_L1
  refine Ws (Ws (Wr ?_))
  refine mv (Iv s1.2) rfl rfl rfl rfl (mv (Cc (xF encTBar a)) rfl rfl rfl rfl (Op10 (LT.tlenRO rfl und30) rfl rfl rfl (Op20 (LT.lss rfl) rfl rfl rfl rfl (On (AWR.cond rfl (fun hc13 => ?_) (fun hc13 => ?_))))))
  ·refine AWR.skip (Ws (AWR.block (Ws (Ws (Wr ?_)))))
   refine mv (Cc (xF encTBar a)) rfl rfl rfl rfl (mv (Iv s1.2) rfl rfl rfl rfl (Ob' fun x14 hx14 => (Op20 (LT.tindexRO (enc := encTBar) rfl el30 hx14 sz112) rfl rfl rfl rfl (Op10 (LT.fieldPx rfl fo112_0) rfl rfl rfl (Op10 (LT.loadPx1 rfl ag3) rfl rfl rfl (mv (Iv s1.1) rfl rfl rfl rfl (Op20 (LT.neq rfl) rfl rfl rfl rfl (On (AWR.cond rfl (fun hc15 => ?_) (fun hc15 => ?_))))))))))
   ·refine Ws (en [] [] trivial trivial (Wr (asg (Iv (-1)) rfl ⟨rfl, rfl⟩ rfl rfl (On (AWR.ret ⟨rfl, FPost.mk (.inr rfl) ⟨rfl, trivial⟩ trivial rfl ⟨PermP.sc, trivial⟩ trivial⟩)))))
   ·refine AWR.skip (Ws ?_)
    refine en [(0, (Cc (xF encTBar a))), (1, (Iv s1.1)), (5, (Iv s1.2))] [] ⟨rfl, rfl, rfl, trivial⟩ trivial (Wr (mv (Iv s1.1) rfl rfl rfl rfl (Op20 (LT.add rfl) rfl ⟨rfl, rfl⟩ rfl rfl (asg (Iv (w64 (s1.1 + 1))) rfl rfl rfl rfl (On (Ws (Ws (Wr ?_))))))))
    refine mv (Cc (xF encTBar a)) rfl rfl rfl rfl (mv (Iv s1.2) rfl rfl rfl rfl (Ob' fun x16 hx16 => (Op20 (LT.tindexRO (enc := encTBar) rfl el30 hx16 sz112) rfl rfl rfl rfl (Op10 (LT.fieldPx rfl fo112_1) rfl rfl rfl (Op10 (LT.loadPx1 rfl ag3) rfl rfl rfl (mv (Iv (w64 (s1.1 + 1))) rfl rfl rfl rfl (Op20 (LT.neq rfl) rfl rfl rfl rfl (On (AWR.cond rfl (fun hc17 => ?_) (fun hc17 => ?_))))))))))
    ·refine Ws (Wr ?_)
     refine asg (Iv (-1)) rfl ⟨rfl, rfl⟩ rfl rfl (On (AWR.ret ⟨rfl, FPost.mk (.inr rfl) ⟨rfl, trivial⟩ trivial rfl ⟨PermP.sc, trivial⟩ trivial⟩))
    ·refine AWR.skip (Wr ?_)
     refine mv (Iv (w64 (s1.1 + 1))) rfl rfl rfl rfl (Op20 (LT.add rfl) rfl ⟨rfl, rfl⟩ rfl rfl (asg (Iv (w64 ((w64 (s1.1 + 1)) + 1))) rfl rfl rfl rfl (On (AWR.blk ?_))))
     refine en [(0, (Cc (xF encTBar a))), (1, (Iv (w64 ((w64 (s1.1 + 1)) + 1)))), (5, (Iv s1.2))] [] ⟨rfl, rfl, rfl, trivial⟩ trivial (Wr (mv (Iv s1.2) rfl rfl rfl rfl (Op20 (LT.add rfl) rfl ⟨rfl, rfl⟩ rfl rfl (asg (Iv (w64 (s1.2 + 1))) rfl rfl rfl rfl (On (AWR.nil ⟨rfl, Ent.of ⟨rfl, rfl, rfl, trivial⟩ trivial⟩))))))
  ·refine AWR.exit_end rfl ⟨rfl, Ent.of ⟨rfl, trivial⟩ trivial⟩
 ·refine Ws (Wr ?_)
  refine mv (Iv b12) rfl rfl rfl rfl (asg (Iv b12) rfl rfl rfl rfl (On (AWR.ret (FPost.mk (.inr rfl) ⟨rfl, trivial⟩ trivial rfl ⟨PermP.sc, trivial⟩ trivial))))
end Go.Proofs.Yteognanhfpbghaa
end
section
set_option linter.unusedVariables false
set_option linter.unusedSimpArgs false
set_option linter.unnecessarySimpa false
set_option maxRecDepth 100000
set_option maxHeartbeats 8000000
open Go Go.Fw
namespace Go.Proofs.Yteognanhfpbghaa
theorem w_spec_RingOf (n : Int) : ∀ t, m_spec_RingOf n = some t → Fw.Fn Try.prog 35 [(.c (iC n))] [] (resA [(.agg [(iC t.1.Points), (lo 0 t.1.Bars.length)]), (.c (bC t.2))]) [(0, (pR 112 encTBar t.1.Bars))] [] [0] := by
 refine Fw.Fn.of (P := Try.prog) (X := [0]) (pn := []) (rs := (fun (t : (TGraph × Bool)) => [(.agg [(iC t.1.Points), (lo 0 t.1.Bars.length)]), (.c (bC t.2))])) (dfs := (fun (t : (TGraph × Bool)) => [(0, (pR 112 encTBar t.1.Bars))])) Try.func35 rfl Try.ntmps35 (Nat.le_of_ble_eq_true rfl) rfl ?_
 intro w0 U0 R0 g0
 unfold m_spec_RingOf
 refine Ws (Wr ?_)
 refine Os00 (LT.alloc (n := 21) (cells := [(iC 0), (sC nilV)]) rfl ti32 rfl rfl rfl) rfl rfl (asg (Bv false) rfl ⟨rfl, rfl⟩ rfl rfl (On (Ws (Ws (Wr ?_)))))
 refine mv (Iv n) rfl rfl rfl rfl (Ob' fun r1 hr1 => (AOR.pure (@LT.callF Try.prog _ _ 111 _ _ [(.c (iC n)), (.c (iC 2)), (.c (iC 8))] _ _ [] _ _ _ _ (w_spec_l1In n 2 8 r1 hr1) rfl cb111 (.cons (.c (.same rfl)) (.cons (.c (.same rfl)) (.cons (.c (.same rfl)) .nil))) rfl rfl trivial) ⟨rfl, rfl, ⟨rfl, rfl⟩, ⟨rfl, rfl⟩, trivial⟩ trivial rfl rfl (Op10 (LT.not rfl) rfl rfl rfl (On (AWR.cond rfl (fun hc2 => ?_) (fun hc2 => ?_))))))
 ·refine Ws (Wr ?_)
  refine Op00 (LT.build [] rfl rfl pl32 ti32 rfl rfl rfl) rfl rfl (Os21 (LT.bstore (v := (.agg [(iC 0), (sC nilV)])) (out := [(iC 0), (sC nilV)]) rfl rfl (infS inf32) sz32 (by exact rfl) (by exact Nat.le_of_ble_eq_true rfl) (by exact rfl)) rfl rfl rfl rfl rfl (asg (Bv false) rfl ⟨rfl, rfl⟩ rfl rfl (On (AWR.ent (Ent.nilB 21 1 0 112 rfl rfl rfl rfl) (en [(2, (Cc (.pl 21 0))), (3, (Bv false))] [(0, (pR 112 encTBar ([] : List TBar))), (21, (.row 32 [[(iC 0), (lo 0 (([] : List TBar).length))]]))] ⟨rfl, rfl, trivial⟩ ⟨rfl, rfl, trivial⟩ (AWR.ret (FPost.mk (.inr rfl) ⟨⟨_, _, _, rfl, rfl, rfl, ag32, sz32, _, (infS inf32)⟩, rfl, trivial⟩ ⟨rfl, trivial⟩ rfl ⟨⟨PermP.sc, trivial, trivial⟩, PermP.sc, trivial⟩ ⟨PermO.prow' perm_encTBar, trivial⟩)))))))
 ·refine AWR.skip (Ws (Wr ?_))
  refine mv (Iv n) rfl rfl rfl rfl (Os00 (LT.tbuildSlice (n := 23) (enc := encTBar) [] ([] : List TBar) rfl rfl und30 ti112 rfl rfl rfl rfl (by decide) (fun _ => rfl) rfl) rfl rfl (Op20 (LT.build [(0, .tmp 11, (.c (iC n))), (1, .tmp 12, (.c (lo 23 (([] : List TBar).length))))] rfl rfl pl32 ti32 rfl rfl rfl) rfl rfl rfl rfl (Os00 (LT.alloc (n := 24) (cells := [(iC 0), (sC nilV)]) rfl ti32 rfl rfl rfl) rfl rfl (Os21 (LT.bstore (v := (.agg [(iC n), (lo 23 (([] : List TBar).length))])) (out := [(iC n), (lo 23 (([] : List TBar).length))]) rfl rfl (infS inf32) sz32 (by exact rfl) (by exact Nat.le_of_ble_eq_true rfl) (by exact rfl)) rfl rfl rfl rfl rfl (On (Ws (Ws ?_)))))))
  refine en [(0, (Iv n)), (2, (Cc (.pl 21 0))), (4, (Cc (.pl 24 0)))] [(21, (.row 32 [[(iC 0), (sC nilV)]])), (23, (pR 112 encTBar ([] : List TBar))), (24, (.row 32 [[(iC n), (lo 23 (([] : List TBar).length))]]))] ⟨rfl, rfl, rfl, trivial⟩ ⟨rfl, rfl, rfl, trivial⟩ (Wr (asg (Iv 0) rfl ⟨rfl, rfl⟩ rfl rfl (On (AWR.block ?_))))
  refine AWR.loop1 (id := 0) (m_spec_RingOf_L1 n) (fun s3 => ([(0, (Iv n)), (2, (Cc (.pl 21 0))), (4, (Cc (.pl 24 0))), (5, (Iv s3.1))], [(21, (.row 32 [[(iC 0), (sC nilV)]])), (23, (pR 112 encTBar s3.2.2)), (24, (.row 32 [[(iC s3.2.1), (lo 23 s3.2.2.length)]]))])) (fun b10 => ([(2, (Cc (.pl 21 0))), (4, (Cc (.pl 24 0)))], [(21, (.row 32 [[(iC 0), (sC nilV)]])), (23, (pR 112 encTBar b10.1)), (24, (.row 32 [[(iC b10.2), (lo 23 b10.1.length)]]))])) ?_ (Ent.of ⟨rfl, rfl, rfl, rfl, trivial⟩ ⟨rfl, rfl, rfl, trivial⟩) rfl (fun b10 _ => ?_)
  ·intro s3
   unfold m_spec_RingOf_L1
   refine Ws (Ws (Wr ?_))
   refine mv (Iv s3.1) rfl rfl rfl rfl (mv (Iv n) rfl rfl rfl rfl (Op20 (LT.lss rfl) rfl rfl rfl rfl (On (AWR.cond rfl (fun hc11 => ?_) (fun hc11 => ?_)))))
   ·refine AWR.skip (Ws (AWR.block (Ws (Wr ?_))))
    refine mv (Iv s3.1) rfl rfl rfl rfl (Op20 (LT.add rfl) rfl ⟨rfl, rfl⟩ rfl rfl (mv (Iv n) rfl rfl rfl rfl (Ob' fun u12 hu12 => (Op20 (LT.rem rfl (nz_ne hu12)) rfl rfl rfl rfl (asg (Iv (Int.tmod (w64 (s3.1 + 1)) n)) rfl rfl rfl rfl (On (Wr ?_)))))))
    refine Op11 (LT.bloadN (out := [(iC s3.2.1), (lo 23 s3.2.2.length)]) rfl ag32 (infS inf32) sz32 (by exact rfl) (by exact rfl)) rfl rfl rfl rfl (mv (Iv s3.1) rfl rfl rfl rfl (mv (Iv (Int.tmod (w64 (s3.1 + 1)) n)) rfl rfl rfl rfl (Op20 (LT.min rfl) rfl rfl rfl rfl (mv (Iv s3.1) rfl rfl rfl rfl (mv (Iv (Int.tmod (w64 (s3.1 + 1)) n)) rfl rfl rfl rfl (Op20 (LT.max rfl) rfl rfl rfl rfl (Op20 (LT.build [(0, .tmp 26, (.c (iC (if (Int.tmod (w64 (s3.1 + 1)) n) < s3.1 then (Int.tmod (w64 (s3.1 + 1)) n) else s3.1)))), (1, .tmp 29, (.c (iC (if s3.1 < (Int.tmod (w64 (s3.1 + 1)) n) then (Int.tmod (w64 (s3.1 + 1)) n) else s3.1))))] rfl rfl pl112 ti112 rfl rfl rfl) rfl rfl rfl rfl (Ob' fun r13 hr13 => (AOR.step (@LT.callF Try.prog _ _ 112 _ _ [(.agg [(iC s3.2.1), (lo 23 s3.2.2.length)]), (.agg [(iC (if (Int.tmod (w64 (s3.1 + 1)) n) < s3.1 then (Int.tmod (w64 (s3.1 + 1)) n) else s3.1)), (iC (if s3.1 < (Int.tmod (w64 (s3.1 + 1)) n) then (Int.tmod (w64 (s3.1 + 1)) n) else s3.1))])] _ _ [(23, (pR 112 encTBar s3.2.2))] _ _ _ _ ((show Fw.Fn Try.prog 112 [(.agg [(iC ((TGraph.mk s3.2.1 s3.2.2).Points)), (xF encTBar ((TGraph.mk s3.2.1 s3.2.2).Bars))]), (.agg [(iC ((TBar.mk (if (Int.tmod (w64 (s3.1 + 1)) n) < s3.1 then (Int.tmod (w64 (s3.1 + 1)) n) else s3.1) (if s3.1 < (Int.tmod (w64 (s3.1 + 1)) n) then (Int.tmod (w64 (s3.1 + 1)) n) else s3.1)).A)), (iC ((TBar.mk (if (Int.tmod (w64 (s3.1 + 1)) n) < s3.1 then (Int.tmod (w64 (s3.1 + 1)) n) else s3.1) (if s3.1 < (Int.tmod (w64 (s3.1 + 1)) n) then (Int.tmod (w64 (s3.1 + 1)) n) else s3.1)).B))])] [] (Ag  [(iC r13.Points), (lo 26 r13.Bars.length)]) [(26, (pR 112 encTBar r13.Bars))] [] [26] from Fw.Fn.ren [(0, 26)] (w_spec_l2Put (TGraph.mk s3.2.1 s3.2.2) (TBar.mk (if (Int.tmod (w64 (s3.1 + 1)) n) < s3.1 then (Int.tmod (w64 (s3.1 + 1)) n) else s3.1) (if s3.1 < (Int.tmod (w64 (s3.1 + 1)) n) then (Int.tmod (w64 (s3.1 + 1)) n) else s3.1)) r13 hr13) rfl)) rfl cb112 (.cons (.agg (.cons (.same rfl) (.cons (.tloc rfl rfl) .nil))) (.cons (.agg (.cons (.same rfl) (.cons (.same rfl) .nil))) .nil)) rfl rfl trivial) ⟨rfl, rfl, rfl, trivial⟩ ⟨rfl, trivial⟩ rfl rfl (Os21 (LT.bstore (v := (.agg [(iC r13.Points), (lo 26 r13.Bars.length)])) (out := [(iC r13.Points), (lo 26 r13.Bars.length)]) rfl rfl (infS inf32) sz32 (by exact rfl) (by exact Nat.le_of_ble_eq_true rfl) (by exact rfl)) rfl rfl rfl rfl rfl (On (AWR.blk ?_))))))))))))
    refine en [(0, (Iv n)), (2, (Cc (.pl 21 0))), (4, (Cc (.pl 24 0))), (5, (Iv s3.1))] [(21, (.row 32 [[(iC 0), (sC nilV)]])), (24, (.row 32 [[(iC r13.Points), (lo 26 r13.Bars.length)]])), (26, (pR 112 encTBar r13.Bars))] ⟨rfl, rfl, rfl, rfl, trivial⟩ ⟨rfl, rfl, rfl, trivial⟩ (Wr (mv (Iv s3.1) rfl rfl rfl rfl (Op20 (LT.add rfl) rfl ⟨rfl, rfl⟩ rfl rfl (asg (Iv (w64 (s3.1 + 1))) rfl rfl rfl rfl (On (en [(0, (Iv n)), (2, (Cc (.pl 21 0))), (4, (Cc (.pl 24 0))), (5, (Iv (w64 (s3.1 + 1))))] [(21, (.row 32 [[(iC 0), (sC nilV)]])), (24, (.row 32 [[(iC r13.Points), (lo 26 r13.Bars.length)]])), (26, (pR 112 encTBar r13.Bars))] ⟨rfl, rfl, rfl, rfl, trivial⟩ ⟨rfl, rfl, rfl, trivial⟩ (AWR.ent (Ent.mv 26 23 rfl rfl) (AWR.nil ⟨rfl, Ent.of ⟨rfl, rfl, rfl, rfl, trivial⟩ ⟨rfl, rfl, rfl, trivial⟩⟩))))))))
   ·refine AWR.exit_end rfl ⟨rfl, Ent.of ⟨rfl, rfl, trivial⟩ ⟨rfl, rfl, rfl, trivial⟩⟩
  ·refine Ws (Wr ?_)
   refine Op11 (LT.bloadN (out := [(iC b10.2), (lo 23 b10.1.length)]) rfl ag32 (infS inf32) sz32 (by exact rfl) (by exact rfl)) rfl rfl rfl rfl (Os21 (LT.bstore (v := (.agg [(iC b10.2), (lo 23 b10.1.length)])) (out := [(iC b10.2), (lo 23 b10.1.length)]) rfl rfl (infS inf32) sz32 (by exact rfl) (by exact Nat.le_of_ble_eq_true rfl) (by exact rfl)) rfl rfl rfl rfl rfl (asg (Bv true) rfl ⟨rfl, rfl⟩ rfl rfl (On (en [(2, (Cc (.pl 21 0))), (3, (Bv true))] [(21, (.row 32 [[(iC b10.2), (lo 23 b10.1.length)]])), (23, (pR 112 encTBar b10.1))] ⟨rfl, rfl, trivial⟩ ⟨rfl, rfl, trivial⟩ (AWR.ent (Ent.mv 23 0 rfl rfl) (en [(2, (Cc (.pl 21 0))), (3, (Bv true))] [(0, (pR 112 encTBar b10.1)), (21, (.row 32 [[(iC b10.2), (lo 0 b10.1.length)]]))] ⟨rfl, rfl, trivial⟩ ⟨rfl, rfl, trivial⟩ (AWR.ret (FPost.mk (.inr rfl) ⟨⟨_, _, _, rfl, rfl, rfl, ag32, sz32, _, (infS inf32)⟩, rfl, trivial⟩ ⟨rfl, trivial⟩ rfl ⟨⟨PermP.sc, trivial, trivial⟩, PermP.sc, trivial⟩ ⟨PermO.prow' perm_encTBar, trivial⟩))))))))
theorem w_impl_RingOf (n : Int) : ∀ t, m_impl_RingOf n = some t → Fw.Fn Try.prog 36 [(.c (iC n))] [] (resA [(.agg [(iC t.1.Points), (lo 0 t.1.Bars.length)]), (.c (bC t.2))]) [(0, (pR 112 encTBar t.1.Bars))] [] [0] := by
 refine Fw.Fn.of (P := Try.prog) (X := [0]) (pn := []) (rs := (fun (t : (TGraph × Bool)) => [(.agg [(iC t.1.Points), (lo 0 t.1.Bars.length)]), (.c (bC t.2))])) (dfs := (fun (t : (TGraph × Bool)) => [(0, (pR 112 encTBar t.1.Bars))])) Try.func36 rfl Try.ntmps36 (Nat.le_of_ble_eq_true rfl) rfl ?_
 intro w0 U0 R0 g0
 unfold m_impl_RingOf
 refine Ws (Wr ?_)
 refine Os00 (LT.alloc (n := 21) (cells := [(iC 0), (sC nilV)]) rfl ti32 rfl rfl rfl) rfl rfl (asg (Bv false) rfl ⟨rfl, rfl⟩ rfl rfl (On (Ws (Ws (Wr ?_)))))
 refine mv (Iv n) rfl rfl rfl rfl (Ob' fun r1 hr1 => (AOR.pure (@LT.callF Try.prog _ _ 113 _ _ [(.c (iC n)), (.c (iC 2)), (.c (iC 8))] _ _ [] _ _ _ _ (w_impl_within n 2 8 r1 hr1) rfl cb113 (.cons (.c (.same rfl)) (.cons (.c (.same rfl)) (.cons (.c (.same rfl)) .nil))) rfl rfl trivial) ⟨rfl, rfl, ⟨rfl, rfl⟩, ⟨rfl, rfl⟩, trivial⟩ trivial rfl rfl (Op10 (LT.not rfl) rfl rfl rfl (On (AWR.cond rfl (fun hc2 => ?_) (fun hc2 => ?_))))))
 ·refine Ws (Wr ?_)
  refine Op00 (LT.build [] rfl rfl pl32 ti32 rfl rfl rfl) rfl rfl (Os21 (LT.bstore (v := (.agg [(iC 0), (sC nilV)])) (out := [(iC 0), (sC nilV)]) rfl rfl (infS inf32) sz32 (by exact rfl) (by exact Nat.le_of_ble_eq_true rfl) (by exact rfl)) rfl rfl rfl rfl rfl (asg (Bv false) rfl ⟨rfl, rfl⟩ rfl rfl (On (AWR.ent (Ent.nilB 21 1 0 112 rfl rfl rfl rfl) (en [(2, (Cc (.pl 21 0))), (3, (Bv false))] [(0, (pR 112 encTBar ([] : List TBar))), (21, (.row 32 [[(iC 0), (lo 0 (([] : List TBar).length))]]))] ⟨rfl, rfl, trivial⟩ ⟨rfl, rfl, trivial⟩ (AWR.ret (FPost.mk (.inr rfl) ⟨⟨_, _, _, rfl, rfl, rfl, ag32, sz32, _, (infS inf32)⟩, rfl, trivial⟩ ⟨rfl, trivial⟩ rfl ⟨⟨PermP.sc, trivial, trivial⟩, PermP.sc, trivial⟩ ⟨PermO.prow' perm_encTBar, trivial⟩)))))))
 ·refine AWR.skip (Ws (Wr ?_))
  refine mv (Iv n) rfl rfl rfl rfl (Op10 (LT.build [(0, .tmp 10, (.c (iC n)))] rfl rfl pl32 ti32 rfl rfl rfl) rfl rfl rfl (Os00 (LT.alloc (n := 23) (cells := [(iC 0), (sC nilV)]) rfl ti32 rfl rfl rfl) rfl rfl (Os21 (LT.bstore (v := (.agg [(iC n), (sC nilV)])) (out := [(iC n), (sC nilV)]) rfl rfl (infS inf32) sz32 (by exact rfl) (by exact Nat.le_of_ble_eq_true rfl) (by exact rfl)) rfl rfl rfl rfl rfl (On (Ws (Ws ?_))))))
  refine en [(0, (Iv n)), (2, (Cc (.pl 21 0))), (4, (Cc (.pl 23 0)))] [(21, (.row 32 [[(iC 0), (sC nilV)]])), (23, (.row 32 [[(iC n), (sC nilV)]]))] ⟨rfl, rfl, rfl, trivial⟩ ⟨rfl, rfl, trivial⟩ (Wr (mv (Iv n) rfl rfl rfl rfl (mv (Iv 0) rfl ⟨rfl, rfl⟩ rfl rfl (On (AWR.block ?_)))))
  refine AWR.ent (Ent.nilB 23 1 28 112 rfl rfl rfl rfl) (AWR.loop1 (id := 0) (m_impl_RingOf_L1 n) (fun s3 => ([(0, (Iv n)), (2, (Cc (.pl 21 0))), (4, (Cc (.pl 23 0))), (12, (Iv n)), (13, (Iv s3.1))], [(21, (.row 32 [[(iC 0), (sC nilV)]])), (23, (.row 32 [[(iC s3.2.1), (lo 28 s3.2.2.length)]])), (28, (pR 112 encTBar s3.2.2))])) (fun b12 => ([(2, (Cc (.pl 21 0))), (4, (Cc (.pl 23 0)))], [(21, (.row 32 [[(iC 0), (sC nilV)]])), (23, (.row 32 [[(iC b12.1), (lo 28 b12.2.length)]])), (28, (pR 112 encTBar b12.2))])) ?_ (Ent.of ⟨rfl, rfl, rfl, rfl, rfl, trivial⟩ ⟨rfl, rfl, rfl, trivial⟩) rfl (fun b12 _ => ?_))
  ·intro s3
   unfold m_impl_RingOf_L1
   refine Ws (Wr ?_)
   refine Op20 (LT.lss rfl) rfl rfl rfl rfl (On (Ws ?_))
   refine AWR.cond rfl (fun hc13 => ?_) (fun hc13 => ?_)
   ·refine AWR.skip (Ws (AWR.block (Ws (Wr ?_))))
    refine mv (Iv s3.1) rfl rfl rfl rfl (asg (Iv s3.1) rfl rfl rfl rfl (On (AWR.draw mixed ?_)))
    refine Dp11 (LT.bloadN (out := [(iC s3.2.1), (lo 28 s3.2.2.length)]) rfl ag32 (infS inf32) sz32 (by exact rfl) (by exact rfl)) rfl rfl rfl rfl (Dp10 (LT.move (v := (Iv s3.1)) rfl) rfl rfl rfl (Dp10 (LT.move (v := (Iv s3.1)) rfl) rfl rfl rfl (Dp20 (LT.add rfl) rfl ⟨rfl, rfl⟩ rfl rfl (Dp10 (LT.move (v := (Iv n)) rfl) rfl rfl rfl (AOD.bind fun u14 hu14 => (Dp20 (LT.rem rfl (nz_ne hu14)) rfl rfl rfl rfl (AOD.bind fun r15 hr15 => (AOD.pure (@LT.callF Try.prog _ _ 115 _ _ [(.c (iC s3.1)), (.c (iC (Int.tmod (w64 (s3.1 + 1)) n)))] _ _ [] _ _ _ _ (w_impl_bar s3.1 (Int.tmod (w64 (s3.1 + 1)) n) r15 hr15) rfl cb115 (.cons (.c (.same rfl)) (.cons (.c (.same rfl)) .nil)) rfl rfl trivial) ⟨rfl, rfl, rfl, trivial⟩ trivial rfl rfl (Ds10 (LT.tbuildSlice (n := 25) (enc := encTBar) [(0, .tmp 22, (.agg [(iC r15.A), (iC r15.B)]))] [r15] rfl rfl und30 ti112 rfl rfl rfl rfl (by decide) (fun _ => rfl) rfl) rfl rfl rfl (AOD.bind fun r16 hr16 => (AOD.step (@LT.callF Try.prog _ _ 114 _ _ [(.agg [(iC s3.2.1), (lo 28 s3.2.2.length)]), (.c (lo 25 ([r15].length)))] _ _ [(28, (pR 112 encTBar s3.2.2)), (25, (pR 112 encTBar [r15]))] _ _ _ _ ((show Fw.Fn Try.prog 114 [(.agg [(iC ((TGraph.mk s3.2.1 s3.2.2).Points)), (xF encTBar ((TGraph.mk s3.2.1 s3.2.2).Bars))]), (.c (xF encTBar [r15]))] [] (Ag  [(iC r16.Points), (lo 27 r16.Bars.length)]) [(27, (pR 112 encTBar r16.Bars))] [] [27] from Fw.Fn.ren [(0, 27)] (w_impl_withBars (TGraph.mk s3.2.1 s3.2.2) [r15] r16 hr16) rfl)) rfl cb114 (.cons (.agg (.cons (.same rfl) (.cons (.tloc rfl rfl) .nil))) (.cons (.c (.tloc rfl rfl)) .nil)) rfl rfl trivial) ⟨rfl, rfl, rfl, trivial⟩ ⟨rfl, rfl, trivial⟩ rfl rfl ?_)))))))))))
    refine Ds21 (LT.bstore (v := (.agg [(iC r16.Points), (lo 27 r16.Bars.length)])) (out := [(iC r16.Points), (lo 27 r16.Bars.length)]) rfl rfl (infS inf32) sz32 (by exact rfl) (by exact Nat.le_of_ble_eq_true rfl) (by exact rfl)) rfl rfl rfl rfl rfl (AOD.nil (by kernel_rfl) (AWR.blk (en [(0, (Iv n)), (2, (Cc (.pl 21 0))), (4, (Cc (.pl 23 0))), (12, (Iv n)), (13, (Iv s3.1))] [(21, (.row 32 [[(iC 0), (sC nilV)]])), (23, (.row 32 [[(iC r16.Points), (lo 27 r16.Bars.length)]])), (27, (pR 112 encTBar r16.Bars))] ⟨rfl, rfl, rfl, rfl, rfl, trivial⟩ ⟨rfl, rfl, rfl, trivial⟩ (Wr (Op20 (LT.add rfl) rfl ⟨rfl, rfl⟩ rfl rfl (mv (Iv (w64 (s3.1 + 1))) rfl rfl rfl rfl (On (en [(0, (Iv n)), (2, (Cc (.pl 21 0))), (4, (Cc (.pl 23 0))), (12, (Iv n)), (13, (Iv (w64 (s3.1 + 1))))] [(21, (.row 32 [[(iC 0), (sC nilV)]])), (23, (.row 32 [[(iC r16.Points), (lo 27 r16.Bars.length)]])), (27, (pR 112 encTBar r16.Bars))] ⟨rfl, rfl, rfl, rfl, rfl, trivial⟩ ⟨rfl, rfl, rfl, trivial⟩ (AWR.ent (Ent.mv 27 28 rfl rfl) (AWR.nil ⟨rfl, Ent.of ⟨rfl, rfl, rfl, rfl, rfl, trivial⟩ ⟨rfl, rfl, rfl, trivial⟩⟩))))))))))
   ·refine AWR.exit_end rfl ⟨rfl, Ent.of ⟨rfl, rfl, trivial⟩ ⟨rfl, rfl, rfl, trivial⟩⟩
  ·refine Ws (Wr ?_)
   refine Op11 (LT.bloadN (out := [(iC b12.1), (lo 28 b12.2.length)]) rfl ag32 (infS inf32) sz32 (by exact rfl) (by exact rfl)) rfl rfl rfl rfl (Os21 (LT.bstore (v := (.agg [(iC b12.1), (lo 28 b12.2.length)])) (out := [(iC b12.1), (lo 28 b12.2.length)]) rfl rfl (infS inf32) sz32 (by exact rfl) (by exact Nat.le_of_ble_eq_true rfl) (by exact rfl)) rfl rfl rfl rfl rfl (asg (Bv true) rfl ⟨rfl, rfl⟩ rfl rfl (On (en [(2, (Cc (.pl 21 0))), (3, (Bv true))] [(21, (.row 32 [[(iC b12.1), (lo 28 b12.2.length)]])), (28, (pR 112 encTBar b12.2))] ⟨rfl, rfl, trivial⟩ ⟨rfl, rfl, trivial⟩ (AWR.ent (Ent.mv 28 0 rfl rfl) (en [(2, (Cc (.pl 21 0))), (3, (Bv true))] [(0, (pR 112 encTBar b12.2)), (21, (.row 32 [[(iC b12.1), (lo 0 b12.2.length)]]))] ⟨rfl, rfl, trivial⟩ ⟨rfl, rfl, trivial⟩ (AWR.ret (FPost.mk (.inr rfl) ⟨⟨_, _, _, rfl, rfl, rfl, ag32, sz32, _, (infS inf32)⟩, rfl, trivial⟩ ⟨rfl, trivial⟩ rfl ⟨⟨PermP.sc, trivial, trivial⟩, PermP.sc, trivial⟩ ⟨PermO.prow' perm_encTBar, trivial⟩))))))))
theorem w_laws_heldGraph (a : TGraph) (k : Int) : ∀ t, m_laws_heldGraph a k = some t → Fw.Fn Try.prog 39 [(.agg [(iC a.Points), (xF encTBar a.Bars)]), (.c (iC k))] [] (.s (.c (iC t))) [] [] [] := by
 refine Fw.Fn.of (P := Try.prog) (X := []) (pn := []) (rs := (fun (t : Int) => [(.c (iC t))])) (dfs := (fun (t : Int) => [])) Try.func39 rfl Try.ntmps39 (Nat.le_of_ble_eq_true rfl) rfl ?_
 intro w0 U0 R0 g0
 unfold m_laws_heldGraph
 refine Ws (Wr ?_)
 refine Os10 (LT.box (n := 21) (v := (.agg [(iC a.Points), (xF encTBar a.Bars)])) rfl sz32 (by exact rfl)) rfl rfl rfl (asg (Iv 0) rfl ⟨rfl, rfl⟩ rfl rfl (On (Ws (Wr ?_))))
 refine Op10 (LT.fieldPl rfl fo32_1) rfl rfl rfl (Op11 (LT.bload1 (c := (xF encTBar a.Bars)) rfl ag30 (by exact rfl)) rfl rfl rfl rfl (mv (Iv k) rfl rfl rfl rfl (Ob' fun r1 hr1 => (AOR.pure (@LT.callF Try.prog _ _ 79 _ _ [(.c (xF encTBar a.Bars)), (.c (iC k))] _ _ [] _ _ _ _ (w_laws_heldBarS a.Bars k r1 hr1) rfl cb79 (.cons (.c (.same rfl)) (.cons (.c (.same rfl)) .nil)) rfl rfl trivial) ⟨rfl, rfl, rfl, trivial⟩ trivial rfl rfl (asg (Iv r1) rfl rfl rfl rfl (On (Ws (Ws (Wr ?_)))))))))
 refine mv (Iv r1) rfl rfl rfl rfl (Op20 (LT.lss rfl) rfl ⟨rfl, rfl⟩ rfl rfl (On (AWR.cond rfl (fun hc2 => ?_) (fun hc2 => ?_))))
 ·refine Ws (en [] [] trivial trivial (Wr (asg (Iv (-1)) rfl ⟨rfl, rfl⟩ rfl rfl (On (AWR.ret (FPost.mk (.inr rfl) ⟨rfl, trivial⟩ trivial rfl ⟨PermP.sc, trivial⟩ trivial))))))
 ·refine AWR.skip (Ws ?_)
  refine en [(1, (Iv r1))] [] ⟨rfl, trivial⟩ trivial (Wr (mv (Iv r1) rfl rfl rfl rfl (asg (Iv r1) rfl rfl rfl rfl (On (AWR.ret (FPost.mk (.inr rfl) ⟨rfl, trivial⟩ trivial rfl ⟨PermP.sc, trivial⟩ trivial))))))
theorem w_laws_FnExactRingOf (aN : Int) : ∀ t, m_laws_FnExactRingOf aN = some t → Fw.Fn Try.prog 7 [(.c (iC aN))] [] (.s (.c (bC t))) [] [] [] := by
 refine Fw.Fn.of (P := Try.prog) (X := []) (pn := []) (rs := (fun (t : Bool) => [(.c (bC t))])) (dfs := (fun (t : Bool) => [])) Try.func7 rfl Try.ntmps7 (Nat.le_of_ble_eq_true rfl) rfl ?_
 intro w0 U0 R0 g0
 unfold m_laws_FnExactRingOf
 refine Ws (Wr ?_)
 refine asg (Bv false) rfl ⟨rfl, rfl⟩ rfl rfl (On (Ws (Wr ?_)))
 refine mv (Iv aN) rfl rfl rfl rfl (Ob' fun r1 hr1 => (AOR.step (@LT.callF Try.prog _ _ 35 _ _ [(.c (iC aN))] _ _ [] _ _ _ _ ((show Fw.Fn Try.prog 35 [(.c (iC aN))] [] (.tup [(.agg [(iC r1.1.Points), (lo 22 r1.1.Bars.length)]), (.c (bC r1.2))]) [(22, (pR 112 encTBar r1.1.Bars))] [] [22] from Fw.Fn.ren [(0, 22)] (w_spec_RingOf aN r1 hr1) rfl)) rfl cb35 (.cons (.c (.same rfl)) .nil) rfl rfl trivial) ⟨rfl, rfl, trivial⟩ trivial rfl rfl (mv (.tup [(.agg [(iC r1.1.Points), (lo 22 r1.1.Bars.length)]), (.c (bC r1.2))]) rfl rfl rfl rfl (Op10 (LT.extract (v := (.agg [(iC r1.1.Points), (lo 22 r1.1.Bars.length)])) rfl (by exact rfl)) rfl rfl rfl (Op10 (LT.extract (v := (.c (bC r1.2))) rfl (by exact rfl)) rfl rfl rfl (Os00 (LT.alloc (n := 23) (cells := [(iC 0), (sC nilV)]) rfl ti32 rfl rfl rfl) rfl rfl (Os21 (LT.bstore (v := (.agg [(iC r1.1.Points), (lo 22 r1.1.Bars.length)])) (out := [(iC r1.1.Points), (lo 22 r1.1.Bars.length)]) rfl rfl (infS inf32) sz32 (by exact rfl) (by exact Nat.le_of_ble_eq_true rfl) (by exact rfl)) rfl rfl rfl rfl rfl (asg (Bv r1.2) rfl rfl rfl rfl (On (Ws ?_))))))))))
 refine en [(0, (Iv aN)), (3, (Cc (.pl 23 0))), (4, (Bv r1.2))] [(22, (pR 112 encTBar r1.1.Bars)), (23, (.row 32 [[(iC r1.1.Points), (lo 22 r1.1.Bars.length)]]))] ⟨rfl, rfl, rfl, trivial⟩ ⟨rfl, rfl, trivial⟩ (Wr (mv (Iv aN) rfl rfl rfl rfl (Ob' fun r2 hr2 => (AOR.step (@LT.callF Try.prog _ _ 36 _ _ [(.c (iC aN))] _ _ [] _ _ _ _ ((show Fw.Fn Try.prog 36 [(.c (iC aN))] [] (.tup [(.agg [(iC r2.1.Points), (lo 25 r2.1.Bars.length)]), (.c (bC r2.2))]) [(25, (pR 112 encTBar r2.1.Bars))] [] [25] from Fw.Fn.ren [(0, 25)] (w_impl_RingOf aN r2 hr2) rfl)) rfl cb36 (.cons (.c (.same rfl)) .nil) rfl rfl trivial) ⟨rfl, rfl, trivial⟩ trivial rfl rfl (mv (.tup [(.agg [(iC r2.1.Points), (lo 25 r2.1.Bars.length)]), (.c (bC r2.2))]) rfl rfl rfl rfl (Op10 (LT.extract (v := (.agg [(iC r2.1.Points), (lo 25 r2.1.Bars.length)])) rfl (by exact rfl)) rfl rfl rfl (Op10 (LT.extract (v := (.c (bC r2.2))) rfl (by exact rfl)) rfl rfl rfl (Os00 (LT.alloc (n := 26) (cells := [(iC 0), (sC nilV)]) rfl ti32 rfl rfl rfl) rfl rfl (Os21 (LT.bstore (v := (.agg [(iC r2.1.Points), (lo 25 r2.1.Bars.length)])) (out := [(iC r2.1.Points), (lo 25 r2.1.Bars.length)]) rfl rfl (infS inf32) sz32 (by exact rfl) (by exact Nat.le_of_ble_eq_true rfl) (by exact rfl)) rfl rfl rfl rfl rfl (asg (Bv r2.2) rfl rfl rfl rfl (On (Ws (Ws ?_)))))))))))))
 refine AWR.joinK (fun j5 => ([(0, (Iv aN)), (3, (Cc (.pl 23 0))), (4, (Bv r1.2)), (5, (Cc (.pl 26 0))), (29, (Bv j5))], [(22, (pR 112 encTBar r1.1.Bars)), (23, (.row 32 [[(iC r1.1.Points), (lo 22 r1.1.Bars.length)]])), (25, (pR 112 encTBar r2.1.Bars)), (26, (.row 32 [[(iC r2.1.Points), (lo 25 r2.1.Bars.length)]]))])) ?_ (fun j5 _ => ?_)
 ·refine en [(0, (Iv aN)), (3, (Cc (.pl 23 0))), (4, (Bv r1.2)), (5, (Cc (.pl 26 0))), (6, (Bv r2.2))] [(22, (pR 112 encTBar r1.1.Bars)), (23, (.row 32 [[(iC r1.1.Points), (lo 22 r1.1.Bars.length)]])), (25, (pR 112 encTBar r2.1.Bars)), (26, (.row 32 [[(iC r2.1.Points), (lo 25 r2.1.Bars.length)]]))] ⟨rfl, rfl, rfl, rfl, rfl, trivial⟩ ⟨rfl, rfl, rfl, rfl, trivial⟩ (Wr (Op11 (LT.bloadN (out := [(iC r2.1.Points), (lo 25 r2.1.Bars.length)]) rfl ag32 (infS inf32) sz32 (by exact rfl) (by exact rfl)) rfl rfl rfl rfl (Op11 (LT.bloadN (out := [(iC r1.1.Points), (lo 22 r1.1.Bars.length)]) rfl ag32 (infS inf32) sz32 (by exact rfl) (by exact rfl)) rfl rfl rfl rfl (Ob' fun r6 hr6 => (AOR.pure (@LT.callF Try.prog _ _ 37 _ _ [(.agg [(iC r2.1.Points), (lo 25 r2.1.Bars.length)]), (.agg [(iC r1.1.Points), (lo 22 r1.1.Bars.length)])] _ _ [(25, (pR 112 encTBar r2.1.Bars)), (22, (pR 112 encTBar r1.1.Bars))] _ _ _ _ (w_laws_eqGraph r2.1 r1.1 r6 hr6) rfl cb37 (.cons (.agg (.cons (.same rfl) (.cons (.tloc rfl rfl) .nil))) (.cons (.agg (.cons (.same rfl) (.cons (.tloc rfl rfl) .nil))) .nil)) rfl rfl trivial) ⟨rfl, rfl, rfl, trivial⟩ ⟨rfl, rfl, trivial⟩ rfl rfl (Op10 (LT.not rfl) rfl rfl rfl (mv (Bv (!r6)) rfl rfl rfl rfl (AOR.split (fun hb7 => ?_) (fun hb7 => ?_)))))))))
  ·refine Ok rfl rfl rfl (by rw [hb7]; rfl) rfl (Ok rfl rfl rfl (by rw [hb7]; rfl) rfl (Ok rfl rfl rfl (by rw [hb7]; rfl) rfl (Op20 (LT.pickT (v := (Bv true)) rfl hb7) rfl ⟨rfl, rfl⟩ rfl rfl (On (AWR.nil ⟨rfl, Ent.of ⟨rfl, rfl, rfl, rfl, rfl, trivial⟩ ⟨rfl, rfl, rfl, rfl, trivial⟩⟩)))))
  ·refine mv (Bv r2.2) rfl rfl ⟨_, rfl, .inl ⟨_, rfl, (by rw [hb7]; rfl)⟩⟩ rfl (mv (Bv r1.2) rfl rfl ⟨_, rfl, .inl ⟨_, rfl, (by rw [hb7]; rfl)⟩⟩ rfl (Op20 (LT.neqB rfl und4) rfl rfl ⟨_, rfl, .inl ⟨_, rfl, (by rw [hb7]; rfl)⟩⟩ rfl (Op20 (LT.pickF (v := (Bv (r2.2 != r1.2))) rfl hb7) rfl rfl rfl rfl (On (AWR.nil ⟨rfl, Ent.of ⟨rfl, rfl, rfl, rfl, rfl, trivial⟩ ⟨rfl, rfl, rfl, rfl, trivial⟩⟩)))))
 ·refine AWR.cond rfl (fun hc8 => ?_) (fun hc8 => ?_)
  ·refine Ws (Wr ?_)
   refine asg (Bv false) rfl ⟨rfl, rfl⟩ rfl rfl (On (AWR.ret (FPost.mk (.inr rfl) ⟨rfl, trivial⟩ trivial rfl ⟨PermP.sc, trivial⟩ trivial)))
  ·refine AWR.skip (Ws (Wr ?_))
   refine asg (Iv 1) rfl ⟨rfl, rfl⟩ rfl rfl (On (Ws (Wr ?_)))
   refine Op11 (LT.bloadN (out := [(iC r2.1.Points), (lo 25 r2.1.Bars.length)]) rfl ag32 (infS inf32) sz32 (by exact rfl) (by exact rfl)) rfl rfl rfl rfl (mv (Iv 1) rfl rfl rfl rfl (Ob' fun r9 hr9 => (AOR.step (@LT.callF Try.prog _ _ 38 _ _ [(.agg [(iC r2.1.Points), (lo 25 r2.1.Bars.length)]), (.c (iC 1))] _ _ [] _ _ _ _ ((show Fw.Fn Try.prog 38 [(.agg [(iC r2.1.Points), (lo 25 r2.1.Bars.length)]), (.c (iC 1))] [(25, (pR 112 encTBar r2.1.Bars))] (Iv r9.1) [(25, (pR 112 encTBar r9.2))] [25] [] from Fw.Fn.ren [(0, 25)] (w_laws_markGraph r2.1 1 r9 hr9) rfl)) rfl cb38 (.cons (.agg (.cons (.same rfl) (.cons (.same rfl) .nil))) (.cons (.c (.same rfl)) .nil)) rfl rfl ⟨rfl, trivial⟩) ⟨rfl, rfl, rfl, trivial⟩ ⟨rfl, trivial⟩ rfl rfl (asg (Iv r9.1) rfl rfl rfl rfl (On (Ws (Wr ?_)))))))
   refine asg (Iv 1) rfl ⟨rfl, rfl⟩ rfl rfl (On (Ws (Wr ?_)))
   refine Op11 (LT.bloadN (out := [(iC r2.1.Points), (lo 25 r2.1.Bars.length)]) rfl ag32 (infS inf32) sz32 (by exact rfl) (by exact rfl)) rfl rfl rfl rfl (mv (Iv 1) rfl rfl rfl rfl (Ob' fun u10 hu10 => (Ob' fun r11 hr11 => (AOR.pure (@LT.callF Try.prog _ _ 39 _ _ [(.agg [(iC r2.1.Points), (lo 25 r2.1.Bars.length)]), (.c (iC 1))] _ _ [(25, (pR 112 encTBar r9.2))] _ _ _ _ (w_laws_heldGraph (TGraph.mk r2.1.Points r9.2) 1 r11 hr11) rfl cb39 (.cons (.agg (.cons (.same rfl) (.cons (.tloc (same_eq hu10) rfl) .nil))) (.cons (.c (.same rfl)) .nil)) rfl rfl trivial) ⟨rfl, rfl, rfl, trivial⟩ ⟨rfl, trivial⟩ rfl rfl (asg (Iv r11) rfl rfl rfl rfl (On (Ws (Ws ?_))))))))
   refine en [(0, (Iv aN)), (3, (Cc (.pl 23 0))), (4, (Bv r1.2)), (5, (Cc (.pl 26 0))), (7, (Iv r9.1)), (8, (Iv r11))] [(22, (pR 112 encTBar r1.1.Bars)), (23, (.row 32 [[(iC r1.1.Points), (lo 22 r1.1.Bars.length)]])), (25, (pR 112 encTBar r9.2)), (26, (.row 32 [[(iC r2.1.Points), (lo 25 r2.1.Bars.length)]]))] ⟨rfl, rfl, rfl, rfl, rfl, rfl, trivial⟩ ⟨rfl, rfl, rfl, rfl, trivial⟩ (Wr (mv (Iv r11) rfl rfl rfl rfl (Op20 (LT.lss rfl) rfl ⟨rfl, rfl⟩ rfl rfl (On (AWR.cond rfl (fun hc12 => ?_) (fun hc12 => ?_))))))
   ·refine Ws (Wr ?_)
    refine asg (Bv false) rfl ⟨rfl, rfl⟩ rfl rfl (On (AWR.ret (FPost.mk (.inr rfl) ⟨rfl, trivial⟩ trivial rfl ⟨PermP.sc, trivial⟩ trivial)))
   ·refine AWR.skip (Ws (Ws (Wr ?_)))
    refine mv (Iv r11) rfl rfl rfl rfl (mv (Iv r9.1) rfl rfl rfl rfl (Op20 (LT.neq rfl) rfl rfl rfl rfl (On (AWR.cond rfl (fun hc13 => ?_) (fun hc13 => ?_)))))
    ·refine Ws (Wr ?_)
     refine asg (Bv false) rfl ⟨rfl, rfl⟩ rfl rfl (On (AWR.ret (FPost.mk (.inr rfl) ⟨rfl, trivial⟩ trivial rfl ⟨PermP.sc, trivial⟩ trivial)))
    ·refine AWR.skip (Ws (Wr ?_))
     refine mv (Iv aN) rfl rfl rfl rfl (Ob' fun r14 hr14 => (AOR.step (@LT.callF Try.prog _ _ 36 _ _ [(.c (iC aN))] _ _ [] _ _ _ _ ((show Fw.Fn Try.prog 36 [(.c (iC aN))] [] (.tup [(.agg [(iC r14.1.Points), (lo 31 r14.1.Bars.length)]), (.c (bC r14.2))]) [(31, (pR 112 encTBar r14.1.Bars))] [] [31] from Fw.Fn.ren [(0, 31)] (w_impl_RingOf aN r14 hr14) rfl)) rfl cb36 (.cons (.c (.same rfl)) .nil) rfl rfl trivial) ⟨rfl, rfl, trivial⟩ trivial rfl rfl (mv (.tup [(.agg [(iC r14.1.Points), (lo 31 r14.1.Bars.length)]), (.c (bC r14.2))]) rfl rfl rfl rfl (Op10 (LT.extract (v := (.agg [(iC r14.1.Points), (lo 31 r14.1.Bars.length)])) rfl (by exact rfl)) rfl rfl rfl (Op10 (LT.extract (v := (.c (bC r14.2))) rfl (by exact rfl)) rfl rfl rfl (Os00 (LT.alloc (n := 32) (cells := [(iC 0), (sC nilV)]) rfl ti32 rfl rfl rfl) rfl rfl (Os21 (LT.bstore (v := (.agg [(iC r14.1.Points), (lo 31 r14.1.Bars.length)])) (out := [(iC r14.1.Points), (lo 31 r14.1.Bars.length)]) rfl rfl (infS inf32) sz32 (by exact rfl) (by exact Nat.le_of_ble_eq_true rfl) (by exact rfl)) rfl rfl rfl rfl rfl (asg (Bv r14.2) rfl rfl rfl rfl (On (Ws (Ws ?_)))))))))))
     refine AWR.joinK (fun j17 => ([(5, (Cc (.pl 26 0))), (7, (Iv r9.1)), (54, (Bv j17))], [(25, (pR 112 encTBar r9.2)), (26, (.row 32 [[(iC r2.1.Points), (lo 25 r9.2.length)]]))])) ?_ (fun j17 _ => ?_)
     ·refine en [(3, (Cc (.pl 23 0))), (4, (Bv r1.2)), (5, (Cc (.pl 26 0))), (7, (Iv r9.1)), (9, (Cc (.pl 32 0))), (10, (Bv r14.2))] [(22, (pR 112 encTBar r1.1.Bars)), (23, (.row 32 [[(iC r1.1.Points), (lo 22 r1.1.Bars.length)]])), (25, (pR 112 encTBar r9.2)), (26, (.row 32 [[(iC r2.1.Points), (lo 25 r2.1.Bars.length)]])), (31, (pR 112 encTBar r14.1.Bars)), (32, (.row 32 [[(iC r14.1.Points), (lo 31 r14.1.Bars.length)]]))] ⟨rfl, rfl, rfl, rfl, rfl, rfl, trivial⟩ ⟨rfl, rfl, rfl, rfl, rfl, rfl, trivial⟩ (Wr (Op11 (LT.bloadN (out := [(iC r14.1.Points), (lo 31 r14.1.Bars.length)]) rfl ag32 (infS inf32) sz32 (by exact rfl) (by exact rfl)) rfl rfl rfl rfl (Op11 (LT.bloadN (out := [(iC r1.1.Points), (lo 22 r1.1.Bars.length)]) rfl ag32 (infS inf32) sz32 (by exact rfl) (by exact rfl)) rfl rfl rfl rfl (Ob' fun r18 hr18 => (AOR.pure (@LT.callF Try.prog _ _ 37 _ _ [(.agg [(iC r14.1.Points), (lo 31 r14.1.Bars.length)]), (.agg [(iC r1.1.Points), (lo 22 r1.1.Bars.length)])] _ _ [(31, (pR 112 encTBar r14.1.Bars)), (22, (pR 112 encTBar r1.1.Bars))] _ _ _ _ (w_laws_eqGraph r14.1 r1.1 r18 hr18) rfl cb37 (.cons (.agg (.cons (.same rfl) (.cons (.tloc rfl rfl) .nil))) (.cons (.agg (.cons (.same rfl) (.cons (.tloc rfl rfl) .nil))) .nil)) rfl rfl trivial) ⟨rfl, rfl, rfl, trivial⟩ ⟨rfl, rfl, trivial⟩ rfl rfl (Op10 (LT.not rfl) rfl rfl rfl (mv (Bv (!r18)) rfl rfl rfl rfl (AOR.split (fun hb19 => ?_) (fun hb19 => ?_)))))))))
      ·refine Ok rfl rfl rfl (by rw [hb19]; rfl) rfl (Ok rfl rfl rfl (by rw [hb19]; rfl) rfl (Ok rfl rfl rfl (by rw [hb19]; rfl) rfl (Op20 (LT.pickT (v := (Bv true)) rfl hb19) rfl ⟨rfl, rfl⟩ rfl rfl (On (AWR.bind fun u20 hu20 => (AWR.nil ⟨rfl, Ent.of ⟨rfl, rfl, rfl, trivial⟩ ⟨rfl, (congrArg (fun l1 => (some (Ob.row 32 [[(iC r2.1.Points), (lo 25 l1)]]) : Option Ob)) (same_eq hu20)), trivial⟩⟩))))))
      ·refine mv (Bv r14.2) rfl rfl ⟨_, rfl, .inl ⟨_, rfl, (by rw [hb19]; rfl)⟩⟩ rfl (mv (Bv r1.2) rfl rfl ⟨_, rfl, .inl ⟨_, rfl, (by rw [hb19]; rfl)⟩⟩ rfl (Op20 (LT.neqB rfl und4) rfl rfl ⟨_, rfl, .inl ⟨_, rfl, (by rw [hb19]; rfl)⟩⟩ rfl (Op20 (LT.pickF (v := (Bv (r14.2 != r1.2))) rfl hb19) rfl rfl rfl rfl (On (AWR.bind fun u21 hu21 => (AWR.nil ⟨rfl, Ent.of ⟨rfl, rfl, rfl, trivial⟩ ⟨rfl, (congrArg (fun l1 => (some (Ob.row 32 [[(iC r2.1.Points), (lo 25 l1)]]) : Option Ob)) (same_eq hu21)), trivial⟩⟩))))))
     ·refine AWR.cond rfl (fun hc22 => ?_) (fun hc22 => ?_)
      ·refine Ws (Wr ?_)
       refine asg (Bv false) rfl ⟨rfl, rfl⟩ rfl rfl (On (AWR.ret (FPost.mk (.inr rfl) ⟨rfl, trivial⟩ trivial rfl ⟨PermP.sc, trivial⟩ trivial)))
      ·refine AWR.skip (Ws (Wr ?_))
       refine asg (Iv 1) rfl ⟨rfl, rfl⟩ rfl rfl (On (Ws (Wr ?_)))
       refine Op11 (LT.bloadN (out := [(iC r2.1.Points), (lo 25 r9.2.length)]) rfl ag32 (infS inf32) sz32 (by exact rfl) (by exact rfl)) rfl rfl rfl rfl (mv (Iv 1) rfl rfl rfl rfl (Ob' fun r23 hr23 => (AOR.pure (@LT.callF Try.prog _ _ 39 _ _ [(.agg [(iC r2.1.Points), (lo 25 r9.2.length)]), (.c (iC 1))] _ _ [(25, (pR 112 encTBar r9.2))] _ _ _ _ (w_laws_heldGraph (TGraph.mk r2.1.Points r9.2) 1 r23 hr23) rfl cb39 (.cons (.agg (.cons (.same rfl) (.cons (.tloc rfl rfl) .nil))) (.cons (.c (.same rfl)) .nil)) rfl rfl trivial) ⟨rfl, rfl, rfl, trivial⟩ ⟨rfl, trivial⟩ rfl rfl (asg (Iv r23) rfl rfl rfl rfl (On (Ws (Ws (Wr ?_))))))))
       refine mv (Iv r23) rfl rfl rfl rfl (Op20 (LT.lss rfl) rfl ⟨rfl, rfl⟩ rfl rfl (On (AWR.cond rfl (fun hc24 => ?_) (fun hc24 => ?_))))
       ·refine Ws (Wr ?_)
        refine asg (Bv false) rfl ⟨rfl, rfl⟩ rfl rfl (On (AWR.ret (FPost.mk (.inr rfl) ⟨rfl, trivial⟩ trivial rfl ⟨PermP.sc, trivial⟩ trivial)))
       ·refine AWR.skip (Ws (Ws (Wr ?_)))
        refine mv (Iv r23) rfl rfl rfl rfl (mv (Iv r9.1) rfl rfl rfl rfl (Op20 (LT.neq rfl) rfl rfl rfl rfl (On (AWR.cond rfl (fun hc25 => ?_) (fun hc25 => ?_)))))
        ·refine Ws (Wr ?_)
         refine asg (Bv false) rfl ⟨rfl, rfl⟩ rfl rfl (On (AWR.ret (FPost.mk (.inr rfl) ⟨rfl, trivial⟩ trivial rfl ⟨PermP.sc, trivial⟩ trivial)))
        ·refine AWR.skip (Ws (Wr ?_))
         refine asg (Bv true) rfl ⟨rfl, rfl⟩ rfl rfl (On (AWR.ret (FPost.mk (.inr rfl) ⟨rfl, trivial⟩ trivial rfl ⟨PermP.sc, trivial⟩ trivial)))
end Go.Proofs.Yteognanhfpbghaa
end
section
set_option linter.unusedVariables false
set_option linter.unusedSimpArgs false
set_option linter.unnecessarySimpa false
namespace Go.Fw
open Go.ChangeShapes Go.WideShapes Go.ChangeAt Go.RowKit
open Go.Proofs.Yteognanhfpbghaa (Rows.uptoBulk Rows.uptoBulkAll)
abbrev Bof (W : World) : Nat → Prop := fun b => b < W.heap.size
abbrev Rno : Nat → Prop := fun _ => False
abbrev gno : Nat → GS := fun _ => .dead
def Opn {α : Type} (P : Program) (t : TypeId) (s : Nat) (enc : α → List PV) (wt : α → Nat) (ok : α → Prop) : Prop :=
  ∀ (H : Type) (e : TypeId × Value → H) (W : World) (base : Nat) (spare : Nat → Bool) (held : Bool) (fuel : Nat) (cs : List Value) (x : DataW H × List MemPlace), DataW.trod e P W base spare held fuel t cs = some x →
    ∃ a : α, ok a ∧ wt a ≤ Go.Proofs.Yteognanhfpbghaa.Rows.uptoBulk x.1 ∧ cs.length = s ∧ (enc a).length = s ∧ ∀ (k : Nat) p, (enc a)[k]? = some p → ∃ u, cs[k]? = some u ∧ RPV W Rno (Bof W) p u
def okI (n : Int) : Prop := -9223372036854775808 ≤ n ∧ n ≤ 9223372036854775807
def okL {α : Type} (ok : α → Prop) (xs : List α) : Prop := ∀ x ∈ xs, ok x
def wtI (_ : Int) : Nat := 1
def wtL {α : Type} (wt : α → Nat) (xs : List α) : Nat := (xs.map wt).sum + 1
section
variable {P : Program}
theorem one1 {p q : PV} {cs : List Value} {v : Value} {W : World} (hcs : cs = [v]) (h : RPV W Rno (Bof W) p v) : ∀ (k : Nat) r, [p][k]? = some r → ∃ u, cs[k]? = some u ∧ RPV W Rno (Bof W) r u := fun k r hk => by
  subst hcs
  cases k with
  | zero => simp at hk; subst hk; exact ⟨v, rfl, h⟩
  | succ k => simp at hk
theorem Opn.int {t : TypeId} (ht : P.underlying t = some (.int .i64)) : Opn P t 1 (fun n : Int => [.sc (.int .i64 n)]) wtI okI := fun H e W base spare held fuel cs x h => by
  obtain ⟨n, rfl, rfl, hw⟩ := DataW.trod_int ht h
  refine ⟨n, ?_, by simp [wtI, Go.Proofs.Yteognanhfpbghaa.Rows.uptoBulk], rfl, rfl, one1 (q := .sc (.int .i64 n)) rfl (.sc rfl)⟩
  simp [Lit.wf, IntKind.min, IntKind.max, IntKind.signed, IntKind.bits] at hw
  exact ⟨by omega, by omega⟩
theorem list_of {α : Type} {p : Nat → α → Prop} : ∀ n : Nat, (∀ i, i < n → ∃ a, p i a) → ∃ xs : List α, xs.length = n ∧ ∀ (i : Nat) a, xs[i]? = some a → p i a
  | 0, _ => ⟨[], rfl, fun i a h => by simp at h⟩
  | n + 1, h => by
    obtain ⟨xs, h1, h2⟩ := list_of n fun i hi => h i (by omega)
    obtain ⟨a, ha⟩ := h n (by omega)
    refine ⟨xs ++ [a], by simp [h1], fun i b hb => ?_⟩
    rw [List.getElem?_append] at hb
    split at hb
    · exact h2 i b hb
    · rename_i hn
      have hi : i - xs.length = 0 := by
        have := (List.getElem?_eq_some_iff.1 hb).1
        simp at this
        omega
      rw [hi] at hb
      simp at hb
      subst hb
      have : i = n := by omega
      subst this
      exact ha
theorem bulk_sum {α : Type} {H : Type} {wt : α → Nat} {D : Nat → DataW H} : ∀ (xs : List α) (k : Nat), (∀ (i : Nat) a, xs[i]? = some a → wt a ≤ Go.Proofs.Yteognanhfpbghaa.Rows.uptoBulk (D (k + i))) →
    (xs.map wt).sum ≤ Go.Proofs.Yteognanhfpbghaa.Rows.uptoBulkAll ((List.range' k xs.length).map D)
  | [], _, _ => by simp [Go.Proofs.Yteognanhfpbghaa.Rows.uptoBulkAll]
  | a :: r, k, h => by
    have h0 := h 0 a rfl
    have ih := bulk_sum r (k + 1) fun i b hb => by
      have := h (i + 1) b (by simpa using hb)
      rwa [show k + 1 + i = k + (i + 1) by omega]
    rw [Nat.add_zero] at h0
    simp only [List.map_cons, List.sum_cons, List.length_cons, List.range'_succ, Go.Proofs.Yteognanhfpbghaa.Rows.uptoBulkAll]
    omega
theorem cell_lt {w : World} {a : Addr} {v : Value} (h : w.cell? a = some v) : a.block < w.heap.size := by
  unfold World.cell? at h
  cases hb : w.heap[a.block]? with
  | none => rw [hb] at h; simp at h
  | some o => exact (Array.getElem?_eq_some_iff.1 hb).1
theorem Opn.slice {α : Type} {t e : TypeId} {s : Nat} {enc : α → List PV} {wt : α → Nat} {ok : α → Prop} (ht : P.underlying t = some (.slice e)) (hs : P.cellsOf e = s) (hs0 : 0 < s) (he : Opn P e s enc wt ok) :
    Opn P t 1 (fun xs : List α => [.xs false (xs.map enc)]) (wtL wt) (okL ok) := fun H en W base spare held fuel cs x h => by
  rcases Go.Deep.open_slice ht h with ⟨rfl, rfl⟩ | ⟨a, len, cap, m, n, D, Pl, rfl, hb, hl, hm, hmm, rfl, hi⟩
  · refine ⟨[], ?_, ?_, rfl, rfl, one1 (q := .xs false []) rfl .emp⟩
    · intro x hx; cases hx
    · simp [wtL, Go.Proofs.Yteognanhfpbghaa.Rows.uptoBulk]
  · have hml : len ≤ m := by rw [hmm]; split <;> omega
    obtain ⟨xs, hxl, hx⟩ := list_of (p := fun i (b : α) => ok b ∧ wt b ≤ Go.Proofs.Yteognanhfpbghaa.Rows.uptoBulk (D i) ∧ (enc b).length = s ∧ ∀ (k : Nat) p, (enc b)[k]? = some p → ∃ u, W.cell? (a.add (i * s + k)) = some u ∧ RPV W Rno (Bof W) p u) len (fun i hil => by
      obtain ⟨cs', hc, htr⟩ := hi i (by omega)
      obtain ⟨b, h1, h2, h3, h4, h5⟩ := he _ _ _ _ _ _ _ _ _ htr
      obtain ⟨_, hcl, hat⟩ := World.cells?_some hc
      refine ⟨b, h1, h2, h4, fun k p hk => ?_⟩
      obtain ⟨u, hu, hr⟩ := h5 k p hk
      refine ⟨u, ?_, hr⟩
      have hks : k < s := by rw [← h4]; exact (List.getElem?_eq_some_iff.1 hk).1
      have := hat k (by rw [hs]; exact hks)
      rw [add_add, hs] at this
      rw [this]
      exact hu)
    refine ⟨xs, fun b hb => ?_, ?_, rfl, rfl, one1 (q := .sc undef) rfl ?_⟩
    · obtain ⟨i, hib⟩ := List.getElem?_of_mem hb
      exact (hx i b hib).1
    · have := bulk_sum (wt := wt) (D := D) xs 0 (fun i b hb => by rw [Nat.zero_add]; exact (hx i b hb).2.1)
      simp only [wtL, Go.Proofs.Yteognanhfpbghaa.Rows.uptoBulk]
      rw [hxl, ← List.range_eq_range'] at this
      omega
    · cases hxs : xs with
      | nil =>
        have : len = 0 := by rw [← hxl, hxs]; rfl
        subst this
        exact .emp
      | cons b r =>
        rw [← hxs]
        have hget : ∀ (j k : Nat) cs p, (xs.map enc)[j]? = some cs → cs[k]? = some p → ∃ u, W.cell? (a.add (j * s + k)) = some u ∧ RPV W Rno (Bof W) p u := fun j k cs p hj hk => by
          rw [List.getElem?_map] at hj
          cases hjx : xs[j]? with
          | none => rw [hjx] at hj; cases hj
          | some c =>
            rw [hjx] at hj
            injection hj with hj
            subst hj
            exact (hx j c hjx).2.2.2 k p hk
        refine .xs (s := s) (fun j k => (W.cell? (a.add (j * s + k))).getD undef) (by simp [hxl]) ?_ (by simp [hxl]; exact hl) (fun cs hcs => ?_) (fun j k cs p hj hk => ?_) (fun j k cs p hj hk => ?_)
        · have h0 := hx 0 b (by rw [hxs]; rfl)
          have hlt : 0 < (enc b).length := by rw [h0.2.2.1]; exact hs0
          obtain ⟨u, hu, _⟩ := h0.2.2.2 0 (enc b)[0] (List.getElem?_eq_getElem hlt)
          have := cell_lt hu
          rw [add_block] at this
          exact this
        · obtain ⟨c, hc, rfl⟩ := List.mem_map.1 hcs
          obtain ⟨i, hic⟩ := List.getElem?_of_mem hc
          exact (hx i c hic).2.2.1
        · obtain ⟨u, hu, _⟩ := hget j k cs p hj hk
          rw [hu]; rfl
        · obtain ⟨u, hu, hr⟩ := hget j k cs p hj hk
          rw [hu]
          exact hr
theorem Opn.arg1 {α : Type} {t : TypeId} {enc : α → List PV} {wt : α → Nat} {ok : α → Prop} (h : Opn P t 1 enc wt ok) {p : α → PV} (hp : ∀ a, enc a = [p a]) {H : Type} {e : TypeId × Value → H} {W : World} {sp : Nat → Bool} {v : Value} {d : DataW H} {ps : List MemPlace}
    (hv : v.oneCell' = true) (hd : DataW.Trod e P W 0 sp true t v d ps) : ∃ a : α, ok a ∧ wt a ≤ Go.Proofs.Yteognanhfpbghaa.Rows.uptoBulk d ∧ RS P W Rno (Bof W) gno (.c (.pv (p a))) v := by
  obtain ⟨fuel, hf⟩ := hd
  obtain ⟨a, h1, h2, h3, h4, h5⟩ := h _ _ _ _ _ _ _ _ _ hf
  refine ⟨a, h1, h2, ?_⟩
  have hc : v.cells = #[v] := oneCell_ne hv
  obtain ⟨u, hu, hr⟩ := h5 0 (p a) (by rw [hp]; rfl)
  rw [hc] at hu
  have : v = u := by simpa using hu
  subst this
  exact ⟨hv, hr⟩
def ArgR (P : Program) (W : World) : List SV → List Value → Prop
  | [], [] => True
  | x :: xs, v :: vs => RS P W Rno (Bof W) gno x v ∧ ArgR P W xs vs
  | _, _ => False
theorem ArgR.spec {W : World} : ∀ {xs : List SV} {vs : List Value}, ArgR P W xs vs → vs.length = xs.length ∧ ∀ (k : Nat) x, xs[k]? = some x → ∃ u, vs[k]? = some u ∧ RS P W Rno (Bof W) gno x u
  | [], [], _ => ⟨rfl, fun k x hk => by simp at hk⟩
  | [], _ :: _, h => h.elim
  | _ :: _, [], h => h.elim
  | x :: xs, v :: vs, h => by
    obtain ⟨h1, h2⟩ := ArgR.spec h.2
    refine ⟨by simp [h1], fun k y hk => ?_⟩
    cases k with
    | zero => simp at hk; subst hk; exact ⟨v, rfl, h.1⟩
    | succ k => exact h2 k y (by simpa using hk)
theorem Fn.called {f : FuncId} {xs : List SV} (hf : Fw.Fn P f xs [] (.s (.c (bC true))) [] [] []) {W : World} {args : Array Value} (ha : ArgR P W xs args.toList) : Calls P f args W fun e W' => e = .returned (.bool true) ∧ Below W.heap.size W W' := by
  obtain ⟨h1, h2⟩ := ha.spec
  have hw : WF Rno (Bof W) gno W := ⟨fun b hb => hb.elim, fun b hb => hb, fun n b hg => hg.elim, fun n m b hg => hg.elim, fun n j k b h => (by cases h)⟩
  have := hf Rno (Bof W) gno W args.toList hw h1 h2 (fun p hp => by cases hp)
  rw [show args.toList.toArray = args from by simp] at this
  refine this.mono fun e W' hp => ?_
  obtain ⟨u, R', B', g', rfl, had, _, hv, _⟩ := hp
  have hu : u = .bool true := by
    obtain ⟨_, h3⟩ := hv
    cases h3
    rfl
  subst hu
  exact ⟨rfl, had.os, had.tape, had.output, had.size, fun k hk => had.heap k hk fun n hn => by cases hn⟩
theorem trodAll_stays {H : Type} {e : TypeId × Value → H} (hl : laidOutB P = true) {W W' : World} {sp : Nat → Bool} (hb : Below W.heap.size W W') : ∀ {ts : List TypeId} {vs : List Value} {ds : List (DataW H)} {ps : List MemPlace}, (ts.all fun t => P.readableRec t && decide (t < P.types.size)) = true →
    DataW.TrodAll e P W 0 (fun _ => true) true ts vs ds ps → (∀ p ∈ ps, p.block < W.heap.size) → (∀ p ∈ ps, sp p.block = true) → DataW.TrodAll e P W' 0 sp true ts vs ds ps
  | [], [], [], _, _, h, _, _ => h
  | t :: ts, v :: vs, d :: ds, ps, hr, h, hlt, hs => by
    obtain ⟨p, q, h1, h2, rfl⟩ := h
    simp only [List.all_cons, Bool.and_eq_true, decide_eq_true_eq] at hr
    exact ⟨p, q, Go.WideElems.Trod_stays hl hr.1.1 hr.1.2 h1 (fun x hx => hb.same (hlt x (List.mem_append_left _ hx))) (fun x hx => hs x (List.mem_append_left _ hx)), trodAll_stays hl hb hr.2 h2 (fun x hx => hlt x (List.mem_append_right _ hx)) (fun x hx => hs x (List.mem_append_right _ hx)), rfl⟩
  | [], [], _ :: _, _, _, h, _, _ => h.elim
  | [], _ :: _, _, _, _, h, _, _ => h.elim
  | _ :: _, [], _, _, _, h, _, _ => h.elim
  | _ :: _, _ :: _, [], _, _, h, _, _ => h.elim
theorem post_of_fw {H : Type} {e : TypeId × Value → H} {f : Func} {s : ChangeSpec} {apart handsOn again : Bool} {fresh : Bool} {W W' : World} {args : Array Value} {ds gs : List (DataW H)} {before : List MemPlace} {tb : TypeId} (hW : DataW.Whole e P f.params.toList s.vars apart W args.toList ds gs before) (hl : laidOutB P = true)
    (hr : (f.params.toList.all fun t => P.readableRec t && decide (t < P.types.size)) = true) (hb : Below W.heap.size W W') (hv : s.vars = []) (hf : s.fn H ds = { results := [.lit (.bool true)], args := ds }) (hrt : f.resultTypes = #[tb]) (htb : P.underlying tb = some .bool) :
    s.post e P f apart fresh handsOn again W args (.bool true) W' := by
  have hlt : ∀ p ∈ before, p.block < W.heap.size := fun p hp => hW.lt p hp
  have hW0 := hW
  obtain ⟨p, q, hA, hV, hpq, hz, hn⟩ := hW
  rw [hv] at hV
  obtain ⟨rfl, rfl⟩ : gs = [] ∧ q = [] := by
    cases gs with
    | nil => exact ⟨rfl, hV⟩
    | cons _ _ => exact hV.elim
  rw [List.append_nil] at hpq
  subst hpq
  have hargs : ∀ sp : Nat → Bool, (∀ p ∈ before, sp p.block = true) → DataW.TrodAll e P W' 0 sp true f.params.toList args.toList ds before := fun sp hs => trodAll_stays hl hb hr hA hlt hs
  have hres : ∀ (b : Nat) (sp : Nat → Bool) (hd : Bool), DataW.TrodAll e P W' b sp hd f.resultTypes.toList ((Value.bool true).resultList f.resultTypes.size) [.lit (.bool true)] [] := fun b sp hd => by
    rw [hrt]
    exact ⟨[], [], shut_bool htb _, rfl, rfl⟩
  have hfd : s.fn H (ds ++ []) = { results := [.lit (.bool true)], args := ds } := by rw [List.append_nil]; exact hf
  have hold : ∀ p ∈ before, (fun b => decide (b < W.heap.size)) p.block = true := fun p hp => by simpa using hlt p hp
  have hvs : ∀ sp : Nat → Bool, DataW.TrodVars e P W' sp s.vars [] [] := fun sp => by rw [hv]; rfl
  refine ⟨ds, [], before, [], before, [], hW0, ?_, ?_, ?_, World.keptBut_mono (fun p hp => ⟨hp, ?_⟩) (hb.frame (· ∈ before)), fun _ => ?_⟩
  · rw [hfd]; exact hres _ _ _
  · rw [hfd]; exact hargs _ hold
  · rw [hfd]; exact hvs _
  · exact Or.inr (Or.inl hp)
  · refine ⟨ok_one hrt rfl (okWide_bool_mk htb _), ?_⟩
    · refine ⟨_, _, ([] ++ before) ++ [], ⟨[] ++ before, [], trodAll_append (hargs _ (fun _ _ => rfl)) (hres _ _ _), hvs _, rfl, ?_, ?_⟩, ?_⟩
      · intro b off hp
        have hin : MemPlace.cell b off ∈ before := by simpa using hp
        rw [hb.frozen (hlt _ hin)]
        exact hz b off hin
      · intro ha
        simpa using hn ha
      · intro p hp _
        simpa using hp
end
end Go.Fw
end
section
set_option linter.unusedVariables false
set_option linter.unusedSimpArgs false
set_option linter.unnecessarySimpa false
open Go Go.Fw
namespace Go.Proofs.Yteognanhfpbghaa
theorem oU3 : Try.prog.underlying 3 = some (.int .i64) := by kernel_rfl
end Go.Proofs.Yteognanhfpbghaa
end
