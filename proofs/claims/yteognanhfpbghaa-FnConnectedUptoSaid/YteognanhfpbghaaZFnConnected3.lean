/- Parts of a proof that a law of the program holds: what the program computes, and why that is right. -/
import Derived.Test.YteognanhfpbghaaProg
import Derived.Test.YteognanhfpbghaaZFnConnected2
section
set_option linter.unusedVariables false
set_option linter.unusedSimpArgs false
set_option linter.unnecessarySimpa false
open Go Go.Fw
namespace Go.Proofs.Yteognanhfpbghaa
def Ex {α : Type} (o : Option α) (Q : α → Prop) : Prop := ∃ r, o = some r ∧ Q r
section
variable {α β : Type} {o x y : Option α} {f : α → Option β} {Q Q' : α → Prop} {R : β → Prop} {b : Bool}
theorem Ex.bind (h : Ex o Q) (hf : ∀ r, Q r → Ex (f r) R) : Ex (o.bind f) R := by
  obtain ⟨r, rfl, hq⟩ := h
  exact hf r hq
theorem Ex.ret {r : α} (h : Q r) : Ex (some r) Q := ⟨r, rfl, h⟩
theorem Ex.bif (h1 : b = true → Ex x Q) (h2 : b = false → Ex y Q) : Ex (bif b then x else y) Q := by
  cases b
  · exact h2 rfl
  · exact h1 rfl
theorem Ex.mono (h : Ex o Q) (hq : ∀ r, Q r → Q' r) : Ex o Q' := by
  obtain ⟨r, e, hr⟩ := h
  exact ⟨r, e, hq r hr⟩
theorem Ex.lim {n : Nat} {f : Unit → Option β} (hn : n ≤ 2147483648) (hf : Ex (f ()) R) : Ex ((Fw.lim n).bind f) R := by
  rw [lim_ok hn]
  exact hf
theorem Ex.nz {n : Int} {f : Unit → Option β} (hn : n ≠ 0) (hf : Ex (f ()) R) : Ex ((Fw.nz n).bind f) R := by
  unfold Fw.nz
  rw [if_pos hn]
  exact hf
theorem Ex.idx {l : List α} {i : Int} (h0 : 0 ≤ i) (h1 : i < (l.length : Int)) (hf : ∀ v, v ∈ l → Ex (f v) R) : Ex ((Fw.idx l i).bind f) R := by
  unfold Fw.idx
  rw [if_pos h0, List.getElem?_eq_getElem (by omega)]
  exact hf _ (List.getElem_mem _)
end
structure CO (c : Tl1Cur) : Prop where
  b : c.b.length ≤ 1048576
  i0 : 0 ≤ c.i
  i1 : c.i ≤ 1048576
theorem and255 (z : Int) : 0 ≤ bits .and .i64 z 255 ∧ bits .and .i64 z 255 ≤ 255 := by
  have h : (BitVec.ofInt 64 z &&& BitVec.ofInt 64 255).toNat ≤ 255 := by
    rw [BitVec.toNat_and]
    exact Nat.le_trans Nat.and_le_right (by decide)
  have e : bits .and .i64 z 255 = ((BitVec.ofInt 64 z &&& BitVec.ofInt 64 255).toNat : Int) := by
    show w64 ((BitVec.ofInt 64 z &&& BitVec.ofInt 64 255).toNat : Int) = _
    exact w64_small (by omega) (by omega)
  rw [e]
  omega
theorem new_ex {code : List Int} (h : code.length ≤ 1048576) : Ex (m_spec_l1New code) CO := by
  have hb : ∀ (k : Nat) (hh : Int), k < 4000 → k < code.length → ∃ h', m_spec_l1New_L1 code (hh, (k : Int)) = some (.inl (h', ((k + 1 : Nat) : Int))) := fun k hh h4 hk => by
    unfold m_spec_l1New_L1
    rw [decide_eq_true (by simp only; omega), decide_eq_true (by simp only; omega)]
    simp only [cond_true, Option.bind_some, idx_at hk, w64_succ (show k ≤ 1099511627776 by omega)]
    exact ⟨_, rfl⟩
  obtain ⟨r, hr, _⟩ := loop_inv (b := m_spec_l1New_L1 code) (s := (w64 (10101 + (code.length : Int)), 0)) (fun k s => s.2 = (k : Int)) (fun _ => True) (min code.length 4000) (by omega) rfl (fun k s hk hs => by
    obtain ⟨hh, i⟩ := s
    simp only at hs
    subst hs
    obtain ⟨h', e⟩ := hb k hh (by omega) (by omega)
    exact .inl ⟨_, e, rfl⟩) (fun s hs => by
    obtain ⟨hh, i⟩ := s
    simp only at hs
    subst hs
    refine ⟨hh, ?_, trivial⟩
    unfold m_spec_l1New_L1
    by_cases h4 : code.length < 4000
    · rw [decide_eq_false (by simp only; omega)]
      rfl
    · rw [decide_eq_false (show ¬ (hh, ((min code.length 4000 : Nat) : Int)).2 < 4000 by simp only; omega)]
      cases decide ((hh, ((min code.length 4000 : Nat) : Int)).2 < (code.length : Int)) <;> rfl)
  unfold m_spec_l1New
  rw [hr]
  exact ⟨_, rfl, h, Int.le_refl _, by simp⟩
theorem byte_ex {c : Tl1Cur} (h : CO c) : Ex (m_spec_l1Byte c) fun r => CO r.2 ∧ 0 ≤ r.1 ∧ r.1 ≤ 255 := by
  have hb := h.b
  have h0 := h.i0
  have h1 := h.i1
  unfold m_spec_l1Byte
  refine Ex.bind (Q := fun j => 0 ≤ j.1 ∧ j.1 ≤ 255 ∧ 0 ≤ j.2 ∧ j.2 ≤ 1048576) (Ex.bif (fun hd => ?_) (fun hd => ?_)) fun j hj => ?_
  · rw [decide_eq_true_eq] at hd
    refine Ex.idx h0 hd fun v _ => Ex.ret ?_
    have := and255 (w64 ((bits .and .i64 (bits .xor .i64 (shrI (w64 ((w64 (c.h * 6364136223846793005)) + 1442695040888963407)) 33) (shrI (w64 ((w64 (c.h * 6364136223846793005)) + 1442695040888963407)) 45)) 255) + (w64 v)))
    refine ⟨this.1, this.2, ?_, ?_⟩
    · simp only
      rw [w64_small (by omega) (by omega)]
      omega
    · simp only
      rw [w64_small (by omega) (by omega)]
      omega
  · have := and255 (bits .xor .i64 (shrI (w64 ((w64 (c.h * 6364136223846793005)) + 1442695040888963407)) 33) (shrI (w64 ((w64 (c.h * 6364136223846793005)) + 1442695040888963407)) 45))
    exact Ex.ret ⟨this.1, this.2, h0, h1⟩
  · exact Ex.ret ⟨⟨hb, hj.2.2.1, hj.2.2.2⟩, hj.1, hj.2.1⟩
theorem tmod_rng {x n : Int} (hx : 0 ≤ x) (hn : 0 < n) : 0 ≤ Int.tmod x n ∧ Int.tmod x n < n := ⟨Int.tmod_nonneg _ hx, Int.tmod_lt_of_pos _ hn⟩
theorem below_ex0 {c : Tl1Cur} (h : CO c) (n : Int) : Ex (m_spec_l1Below c n) fun r => CO r.2 ∧ 0 ≤ r.1 ∧ (0 < n → r.1 < n) ∧ (n ≤ 0 → r.1 = 0) := by
  unfold m_spec_l1Below
  refine Ex.bif (fun hd => Ex.ret ⟨h, Int.le_refl _, fun hn => ?_, fun _ => rfl⟩) (fun hd => ?_)
  · rw [decide_eq_true_eq] at hd
    omega
  · rw [decide_eq_false_iff_not] at hd
    refine Ex.bif (fun _ => ?_) (fun _ => ?_)
    · refine (byte_ex h).bind fun r hr => Ex.nz (by omega) (Ex.ret ⟨hr.1, ?_, fun hn => ?_, fun hn => absurd hn hd⟩)
      · exact (tmod_rng hr.2.1 (by omega)).1
      · exact (tmod_rng hr.2.1 hn).2
    · refine (byte_ex h).bind fun r1 h1 => (byte_ex h1.1).bind fun r2 h2 => (byte_ex h2.1).bind fun r3 h3 => (byte_ex h3.1).bind fun r4 h4 => Ex.nz (by omega) (Ex.ret ?_)
      obtain ⟨_, a0, a1⟩ := h1
      obtain ⟨_, b0, b1⟩ := h2
      obtain ⟨_, c0, c1⟩ := h3
      obtain ⟨h5, d0, d1⟩ := h4
      have e : w64 (w64 (w64 (w64 (r1.1 * 16777216) + w64 (r2.1 * 65536)) + w64 (r3.1 * 256)) + r4.1) = r1.1 * 16777216 + r2.1 * 65536 + r3.1 * 256 + r4.1 := by
        rw [w64_small (n := r1.1 * 16777216) (by omega) (by omega), w64_small (n := r2.1 * 65536) (by omega) (by omega), w64_small (n := r3.1 * 256) (by omega) (by omega), w64_small (n := r1.1 * 16777216 + r2.1 * 65536) (by omega) (by omega), w64_small (n := r1.1 * 16777216 + r2.1 * 65536 + r3.1 * 256) (by omega) (by omega), w64_small (by omega) (by omega)]
      have := tmod_rng (x := r1.1 * 16777216 + r2.1 * 65536 + r3.1 * 256 + r4.1) (n := n) (by omega) (by omega)
      simp only [e]
      exact ⟨h5, this.1, fun _ => this.2, fun hn => absurd hn hd⟩
theorem below_ex {c : Tl1Cur} (h : CO c) (n : Int) : Ex (m_spec_l1Below c n) fun r => CO r.2 ∧ 0 ≤ r.1 ∧ (0 < n → r.1 < n) := (below_ex0 h n).mono fun r hr => ⟨hr.1, hr.2.1, hr.2.2.1⟩
theorem once_ex {c : Tl1Cur} (h : CO c) (n : Int) : Ex (m_spec_l1Once c n) fun r => CO r.2 := by
  unfold m_spec_l1Once
  exact (below_ex h n).bind fun r hr => Ex.ret hr.1
theorem pick_ex {c : Tl1Cur} (h : CO c) (l : List Int) (hl : 0 < l.length) : Ex (m_spec_l1PickInt c l) fun r => CO r.2 ∧ r.1 ∈ l := by
  unfold m_spec_l1PickInt
  refine (below_ex h _).bind fun r hr => Ex.idx hr.2.1 (hr.2.2 (by omega)) fun v hv => Ex.ret ⟨hr.1, hv⟩
def InR (P : Int) (x : TBar) : Prop := 0 ≤ x.A ∧ x.A < P ∧ 0 ≤ x.B ∧ x.B < P
structure GI (g : TGraph) : Prop where
  p0 : 0 ≤ g.Points
  p8 : g.Points ≤ 8
  len : g.Bars.length ≤ 100
  inr : ∀ x ∈ g.Bars, InR g.Points x
theorem simple_ex {c : Tl1Cur} (h : CO c) {n : Int} (n0 : 0 ≤ n) (n8 : n ≤ 8) (odd : Int) : Ex (m_spec_l2Simple c n odd) fun r => CO r.2 ∧ GI r.1 ∧ r.1.Points = n ∧ r.1.Bars.length ≤ 24 := by
  let J : Tl1Cur → List TBar → Prop := fun c l => CO c ∧ l.length ≤ 24 ∧ ∀ x ∈ l, InR n x
  have hin : ∀ (a : Nat) (s1 : Int × List Int × Int × Int × List TBar), s1.1 = (a : Int) → (a : Int) < n → J ⟨s1.2.1, s1.2.2.1, s1.2.2.2.1⟩ s1.2.2.2.2 →
      Ex (loopM (m_spec_l2Simple_L4 n odd s1) BIG ((w64 (s1.1 + 1)), s1.2.1, s1.2.2.1, s1.2.2.2.1, s1.2.2.2.2)) fun r => r.1 = (a : Int) ∧ J ⟨r.2.1, r.2.2.1, r.2.2.2.1⟩ r.2.2.2.2 := by
    intro a s1 hs ha hJ
    refine loop_inv (fun k s => s.1 = ((a + 1 + k : Nat) : Int) ∧ J ⟨s.2.1, s.2.2.1, s.2.2.2.1⟩ s.2.2.2.2) _ (n.toNat - (a + 1)) (by omega) ⟨by simp only; rw [hs, w64_succ (by omega)], hJ⟩ (fun k s hk hI => ?_) (fun s hI => ?_)
    · obtain ⟨i, b, ci, hh, l⟩ := s
      obtain ⟨rfl, hc, hl, hr⟩ := hI
      change l.length ≤ 24 at hl
      change ∀ x ∈ l, InR n x at hr
      obtain ⟨r, hr1, hr2⟩ := below_ex hc 10
      left
      unfold m_spec_l2Simple_L4
      rw [decide_eq_true (by simp only; omega), cond_true]
      simp only [hr1, Option.bind_some]
      have hnew : ∀ x ∈ l ++ [(⟨s1.1, ((a + 1 + k : Nat) : Int)⟩ : TBar)], InR n x := fun x hx => by
        rcases List.mem_append.1 hx with h1 | h1
        · exact hr x h1
        · rw [List.mem_singleton] at h1
          subst h1
          rw [hs]
          exact ⟨by simp only; omega, by simp only; omega, by simp only; omega, by simp only; omega⟩
      rw [lim_ok (show l.length + [(⟨s1.1, ((a + 1 + k : Nat) : Int)⟩ : TBar)].length ≤ 2147483648 by simp; omega), w64_succ (show a + 1 + k ≤ 1099511627776 by omega)]
      cases h1 : decide (r.1 < odd) with
      | false => exact ⟨_, rfl, rfl, hr2.1, hl, hr⟩
      | true =>
        simp only [cond_true, Option.bind_some]
        cases h2 : decide ((l.length : Int) < 24) with
        | false => exact ⟨_, rfl, rfl, hr2.1, hl, hr⟩
        | true =>
          rw [decide_eq_true_eq] at h2
          exact ⟨_, rfl, rfl, hr2.1, by simp; omega, hnew⟩
    · obtain ⟨i, b, ci, hh, l⟩ := s
      obtain ⟨rfl, hJ⟩ := hI
      refine ⟨(s1.1, b, ci, hh, l), ?_, hs, hJ⟩
      unfold m_spec_l2Simple_L4
      rw [decide_eq_false (by simp only; omega)]
      rfl
  unfold m_spec_l2Simple
  refine Ex.bind (Q := fun r => J ⟨r.1, r.2.1, r.2.2.1⟩ r.2.2.2) ?_ fun r hr => Ex.ret ⟨hr.1, ⟨n0, n8, Nat.le_trans hr.2.1 (by omega), hr.2.2⟩, rfl, hr.2.1⟩
  refine loop_inv (fun k s => s.1 = (k : Int) ∧ J ⟨s.2.1, s.2.2.1, s.2.2.2.1⟩ s.2.2.2.2) _ n.toNat (by omega) ⟨rfl, h, by simp, fun x hx => by cases hx⟩ (fun k s hk hI => ?_) (fun s hI => ?_)
  · obtain ⟨r, hr1, hr2, hr3⟩ := hin k s hI.1 (by omega) hI.2
    left
    unfold m_spec_l2Simple_L3
    rw [decide_eq_true (by rw [hI.1]; omega), cond_true, hr1]
    simp only [Option.bind_some]
    exact ⟨_, rfl, by simp only; rw [hr2, w64_succ (by omega)], hr3⟩
  · refine ⟨_, ?_, hI.2⟩
    unfold m_spec_l2Simple_L3
    rw [decide_eq_false (by rw [hI.1]; omega)]
    rfl
def addB (g : TGraph) (a b : Int) : TGraph := bif vG g && decide (0 ≤ a) && decide (0 ≤ b) && decide (a < g.Points) && decide (b < g.Points) && !(a == b) && decide (g.Bars.length < 24) then ⟨g.Points, insB (nrm a b) g.Bars⟩ else g
def addOk (g : TGraph) (a b : Int) : Bool := vG g && decide (0 ≤ a) && decide (0 ≤ b) && decide (a < g.Points) && decide (b < g.Points) && !(a == b) && decide (g.Bars.length < 24)
theorem addS_eq (g : TGraph) (h : g.Bars.length ≤ 1048576) (a b : Int) : m_spec_AddBar g a b = some (addB g a b, addOk g a b) := by
  unfold m_spec_AddBar addB addOk
  rw [isGraphS_eq g (by omega), l2Copy_eq g (by omega), show TBar.mk (if b < a then b else a) (if a < b then b else a) = nrm a b from rfl, l2Put_eq g _ h]
  have e1 : ∀ x : Int, decide (x < 0) = !decide (0 ≤ x) := fun x => by rw [← decide_not, decide_eq_decide]; omega
  have e2 : ∀ x : Int, decide (g.Points ≤ x) = !decide (x < g.Points) := fun x => by rw [← decide_not, decide_eq_decide]; omega
  have e3 : decide (24 ≤ (g.Bars.length : Int)) = !decide (g.Bars.length < 24) := by rw [← decide_not, decide_eq_decide]; omega
  rw [e1 a, e1 b, e2 a, e2 b, e3]
  cases vG g
  · rfl
  · cases decide (0 ≤ a)
    · rfl
    · cases decide (0 ≤ b)
      · rfl
      · cases decide (a < g.Points)
        · rfl
        · cases decide (b < g.Points)
          · rfl
          · cases a == b
            · cases decide (g.Bars.length < 24) <;> rfl
            · rfl
theorem addB_pts (g : TGraph) (a b : Int) : (addB g a b).Points = g.Points := by
  unfold addB
  cases vG g && decide (0 ≤ a) && decide (0 ≤ b) && decide (a < g.Points) && decide (b < g.Points) && !(a == b) && decide (g.Bars.length < 24) <;> rfl
theorem addB_len (g : TGraph) (a b : Int) : (addB g a b).Bars.length ≤ g.Bars.length + 1 ∧ g.Bars.length ≤ (addB g a b).Bars.length := by
  unfold addB
  cases vG g && decide (0 ≤ a) && decide (0 ≤ b) && decide (a < g.Points) && decide (b < g.Points) && !(a == b) && decide (g.Bars.length < 24)
  · exact ⟨by simp, by simp⟩
  · simp only [cond_true, insB_len]
    omega
theorem addB_inr {g : TGraph} (h : ∀ x ∈ g.Bars, InR g.Points x) (a b : Int) : ∀ x ∈ (addB g a b).Bars, InR g.Points x := by
  unfold addB
  cases hb : vG g && decide (0 ≤ a) && decide (0 ≤ b) && decide (a < g.Points) && decide (b < g.Points) && !(a == b) && decide (g.Bars.length < 24)
  · exact h
  · simp only [Bool.and_eq_true, decide_eq_true_eq] at hb
    intro x hx
    rcases List.mem_cons.1 ((insB_perm _ _).mem_iff.1 hx) with rfl | h1
    · unfold nrm InR
      simp only
      refine ⟨?_, ?_, ?_, ?_⟩ <;> split <;> omega
    · exact h x h1
theorem insB_inr {P : Int} {L : List TBar} {y : TBar} (h : ∀ x ∈ L, InR P x) (hy : InR P y) : ∀ x ∈ insB y L, InR P x := fun x hx => by
  rcases List.mem_cons.1 ((insB_perm _ _).mem_iff.1 hx) with rfl | h1
  · exact hy
  · exact h x h1
def remB (g : TGraph) (k : Int) : TGraph := bif vG g && decide (0 ≤ k) && decide (k < (g.Bars.length : Int)) then ⟨g.Points, g.Bars.take k.toNat ++ g.Bars.drop (k.toNat + 1)⟩ else g
theorem remS_ex (g : TGraph) (h : g.Bars.length ≤ 1048576) (k : Int) (hk : k ≤ 1048576) : Ex (m_spec_RemoveBar g k) fun r => r.1 = remB g k := by
  unfold m_spec_RemoveBar remB
  rw [isGraphS_eq g (by omega), l2Copy_eq g (by omega)]
  have e1 : decide (k < 0) = !decide (0 ≤ k) := by rw [← decide_not, decide_eq_decide]; omega
  have e2 : decide ((g.Bars.length : Int) ≤ k) = !decide (k < (g.Bars.length : Int)) := by rw [← decide_not, decide_eq_decide]; omega
  rw [e1, e2]
  cases vG g
  · exact Ex.ret rfl
  · cases h1 : decide (0 ≤ k)
    · exact Ex.ret rfl
    · cases h2 : decide (k < (g.Bars.length : Int))
      · exact Ex.ret rfl
      · rw [decide_eq_true_eq] at h1 h2
        have s1 : slc g.Bars 0 k = some ((g.Bars.take k.toNat).drop 0) := by unfold slc; rw [if_pos (by omega)]; rfl
        have ew : w64 (k + 1) = k + 1 := w64_small (by omega) (by omega)
        have s2 : slc g.Bars (k + 1) (g.Bars.length : Int) = some ((g.Bars.take g.Bars.length).drop (k + 1).toNat) := by unfold slc; rw [if_pos (by omega)]; rfl
        simp only [Option.bind_some, Bool.not_true, cond_false, s1, ew, s2]
        rw [lim_ok (by simp; omega), Option.bind_some, lim_ok (by simp; omega)]
        refine Ex.ret ?_
        simp only [Bool.and_self, cond_true, List.nil_append, List.drop_zero, List.take_length]
        rw [show (k + 1).toNat = k.toNat + 1 by omega]
theorem remB_ok (g : TGraph) (k : Int) : (remB g k).Points = g.Points ∧ (remB g k).Bars.length ≤ g.Bars.length ∧ (∀ x ∈ (remB g k).Bars, x ∈ g.Bars) := by
  unfold remB
  cases vG g && decide (0 ≤ k) && decide (k < (g.Bars.length : Int))
  · exact ⟨rfl, Nat.le_refl _, fun x hx => hx⟩
  · refine ⟨rfl, ?_, fun x hx => ?_⟩
    · simp only [cond_true, List.length_append, List.length_take, List.length_drop]
      omega
    · rcases List.mem_append.1 hx with h1 | h1
      · exact List.mem_of_mem_take h1
      · exact List.mem_of_mem_drop h1
def Gs (g : TGraph) : Prop := g.Bars.length ≤ 200
theorem graph_ex {c : Tl1Cur} (h : CO c) : Ex (m_spec_l2Graph c) fun r => CO r.2 ∧ GI r.1 := by
  unfold m_spec_l2Graph
  refine (below_ex h 5).bind fun r1 h1 => (below_ex h1.1 4).bind fun r2 h2 => ?_
  have a1 := h1.2.2 (by omega)
  have a2 := h2.2.2 (by omega)
  have a3 := h1.2.1
  rw [w64_small (n := 2 + r1.1) (by omega) (by omega)]
  refine (simple_ex h2.1 (by omega) (by omega) _).bind fun r3 h3 => (below_ex h3.1 3).bind fun r4 h4 => (below_ex h4.1 2).bind fun r5 h5 => ?_
  have b1 := h4.2.2 (by omega)
  have b2 := h5.2.2 (by omega)
  have b3 := h4.2.1
  have b4 := h5.2.1
  have hm : 0 ≤ r4.1 * r5.1 ∧ r4.1 * r5.1 ≤ 2 := by
    have : r5.1 = 0 ∨ r5.1 = 1 := by omega
    rcases this with e | e <;> rw [e] <;> omega
  rw [w64_small (n := r4.1 * r5.1) (by omega) (by omega)]
  refine Ex.bind (Q := fun b => CO ⟨b.1, b.2.1, b.2.2.1⟩ ∧ GI ⟨b.2.2.2.2, b.2.2.2.1⟩) ?_ fun b hb => Ex.ret hb
  refine loop_inv (fun k s => s.1 = r4.1 * r5.1 - (k : Int) ∧ CO ⟨s.2.1, s.2.2.1, s.2.2.2.1⟩ ∧ s.2.2.2.2.1 = r3.1.Points ∧ s.2.2.2.2.2.length ≤ 24 + k ∧ ∀ x ∈ s.2.2.2.2.2, InR r3.1.Points x) _ (r4.1 * r5.1).toNat (by omega) ⟨by simp only; omega, h5.1, rfl, by have := h3.2.2.2; simp only; omega, h3.2.1.inr⟩ (fun k s hk hI => ?_) (fun s hI => ?_)
  · obtain ⟨n, b, i, hh, p, l⟩ := s
    obtain ⟨rfl, hc, rfl, hl, hin⟩ := hI
    obtain ⟨u, hu1, hu2⟩ := below_ex hc r3.1.Points
    obtain ⟨v, hv1, hv2⟩ := below_ex hu2.1 r3.1.Points
    have hal := addB_len ⟨r3.1.Points, l⟩ u.1 v.1
    have hai := addB_inr (g := ⟨r3.1.Points, l⟩) hin u.1 v.1
    left
    unfold m_spec_l2Graph_L1
    rw [decide_eq_true (by simp only; omega), cond_true]
    simp only [hu1, hv1, addS_eq ⟨r3.1.Points, l⟩ (show l.length ≤ 1048576 by simp only at hl; omega), Option.bind_some]
    refine ⟨_, rfl, ?_, hv2.1, addB_pts _ _ _, ?_, hai⟩
    · simp only
      rw [w64_small (by omega) (by omega)]
      omega
    · simp only at hl hal ⊢
      omega
  · obtain ⟨n, b, i, hh, p, l⟩ := s
    obtain ⟨rfl, hc, rfl, hl, hin⟩ := hI
    refine ⟨(b, i, hh, l, r3.1.Points), ?_, hc, h3.2.1.p0, h3.2.1.p8, ?_, hin⟩
    · unfold m_spec_l2Graph_L1
      rw [decide_eq_false (by simp only; omega)]
      rfl
    · simp only at hl ⊢
      omega
theorem any2_ex {c : Tl1Cur} (h : CO c) : Ex (m_spec_l2Any c) fun r => CO r.2 ∧ Gs r.1 := by
  unfold m_spec_l2Any
  refine (graph_ex h).bind fun r1 h1 => (below_ex h1.1 16).bind fun r2 h2 => ?_
  have hl := h1.2.len
  refine Ex.bind (Q := fun j => CO ⟨j.1, j.2.1, j.2.2.1⟩ ∧ j.2.2.2.2.length ≤ 200) ?_ fun j hj => Ex.ret ⟨hj.1, hj.2⟩
  refine Ex.bif (fun _ => ?_) (fun _ => Ex.bif (fun _ => ?_) (fun _ => ?_))
  · exact (pick_ex h2.1 _ (by simp)).bind fun r hr => Ex.ret ⟨hr.1, by simp only; omega⟩
  · refine (below_ex h2.1 3).bind fun r3 h3 => (below_ex h3.1 9).bind fun r4 h4 => Ex.lim (by simp; omega) (Ex.ret ⟨h4.1, by simp; omega⟩)
  · exact Ex.ret ⟨h2.1, by simp only; omega⟩
theorem third_ex {c : Tl1Cur} (h : CO c) {n w : Int} (hn : 0 < n) (hw : 0 ≤ w ∧ w < n) (x : TBar) : Ex (m_spec_l6Third c n x w) fun r => CO r.2 ∧ 0 ≤ r.1 ∧ r.1 < n := by
  unfold m_spec_l6Third
  refine (below_ex h n).bind fun r hr => Ex.bind (Q := fun _ => True) (Ex.bif (fun _ => Ex.ret trivial) (fun _ => Ex.ret trivial)) fun j _ => Ex.bif (fun _ => Ex.ret ⟨hr.1, hw.1, hw.2⟩) (fun _ => Ex.ret ⟨hr.1, hr.2.1, hr.2.2 hn⟩)
theorem laman7_ex (s3 : Int × List Int × Int × Int × Int × List TBar) (r : Int × Tl1Cur) (x : TBar) : Ex (loopM (m_spec_l6Laman_L7 s3 r x) BIG 0) fun b => b.1 = s3.1 ∧ b.2.1 = r.1 ∧ 0 ≤ b.2.2.1 ∧ b.2.2.1 ≤ 2 ∧ b.2.2.2.1 = r.2.b ∧ b.2.2.2.2.1 = r.2.i ∧ b.2.2.2.2.2.1 = r.2.h ∧ b.2.2.2.2.2.2.1 = s3.2.2.2.2.1 ∧ b.2.2.2.2.2.2.2.1 = s3.2.2.2.2.2 ∧ b.2.2.2.2.2.2.2.2 = (x.A, x.B) := by
  refine loop_inv (fun k s => s = (k : Int) ∧ ∀ j : Nat, j < k → (j : Int) = x.A ∨ (j : Int) = x.B) _ 3 (by omega) ⟨rfl, fun j hj => by omega⟩ (fun k s hk hI => ?_) (fun s hI => ?_)
  · obtain ⟨rfl, hI⟩ := hI
    unfold m_spec_l6Laman_L7
    by_cases hA : (k : Int) = x.A ∨ (k : Int) = x.B
    · left
      refine ⟨((k + 1 : Nat) : Int), ?_, rfl, fun j hj => ?_⟩
      · have e : ((bif (k : Int) == x.A then some true else some ((k : Int) == x.B)) : Option Bool) = some true := by
          rcases hA with h | h
          · rw [h, beq_self_eq_true]; rfl
          · cases (k : Int) == x.A
            · rw [h, beq_self_eq_true]; rfl
            · rfl
        rw [e, Option.bind_some, cond_true, w64_succ (by omega)]
      · by_cases hjk : j = k
        · subst hjk; exact hA
        · exact hI j (by omega)
    · right
      have e : ((bif (k : Int) == x.A then some true else some ((k : Int) == x.B)) : Option Bool) = some false := by
        have h1 : ((k : Int) == x.A) = false := by simp; exact fun e => hA (.inl e)
        have h2 : ((k : Int) == x.B) = false := by simp; exact fun e => hA (.inr e)
        rw [h1, h2]; rfl
      rw [e, Option.bind_some, cond_false]
      exact ⟨_, rfl, rfl, rfl, by simp only; omega, by simp only; omega, rfl, rfl, rfl, rfl, rfl, rfl⟩
  · obtain ⟨rfl, hI⟩ := hI
    have h0 := hI 0 (by omega)
    have h1 := hI 1 (by omega)
    have h2 := hI 2 (by omega)
    omega
theorem laman_ex {c : Tl1Cur} (h : CO c) {n : Int} (n1 : 1 ≤ n) (n6 : n ≤ 6) : Ex (m_spec_l6Laman c n) fun r => CO r.2 ∧ GI r.1 ∧ r.1.Points = n := by
  unfold m_spec_l6Laman
  refine Ex.bif (fun hd => Ex.ret ⟨h, ⟨by simp only; omega, by simp only; omega, by simp, fun x hx => by cases hx⟩, rfl⟩) (fun hd => ?_)
  rw [decide_eq_false_iff_not] at hd
  rw [l2Put_eq ⟨n, []⟩ _ (by simp)]
  simp only [Option.bind_some]
  refine Ex.bind (Q := fun b => CO ⟨b.1, b.2.1, b.2.2.1⟩ ∧ b.2.2.2.1 = n ∧ b.2.2.2.2.length ≤ 100 ∧ ∀ x ∈ b.2.2.2.2, InR n x) ?_ fun b hb => Ex.ret ⟨hb.1, ⟨by simp only; rw [hb.2.1]; omega, by simp only; rw [hb.2.1]; omega, hb.2.2.1, by rw [hb.2.1]; exact hb.2.2.2⟩, hb.2.1⟩
  refine loop_inv (fun k s => s.1 = ((k + 2 : Nat) : Int) ∧ CO ⟨s.2.1, s.2.2.1, s.2.2.2.1⟩ ∧ s.2.2.2.2.1 = n ∧ 0 < s.2.2.2.2.2.length ∧ s.2.2.2.2.2.length ≤ 1 + 3 * k ∧ ∀ x ∈ s.2.2.2.2.2, InR n x) _ (n.toNat - 2) (by omega) ⟨rfl, h, rfl, by simp [insB], by simp [insB], fun x hx => by
    simp only [insB, List.mem_singleton] at hx
    subst hx
    exact ⟨by simp, by simp only; omega, by simp, by simp only; omega⟩⟩ (fun k s hk hI => ?_) (fun s hI => ?_)
  · obtain ⟨v, b, i, hh, p, l⟩ := s
    obtain ⟨rfl, hc, hp, hl0, hl, hin⟩ := hI
    change p = n at hp
    subst hp
    change 0 < l.length at hl0
    change l.length ≤ 1 + 3 * k at hl
    change ∀ x ∈ l, InR p x at hin
    left
    have key : Ex (m_spec_l6Laman_L5 p (((k + 2 : Nat) : Int), b, i, hh, p, l)) fun r => ∃ t, r = .inl t ∧ t.1 = ((k + 1 + 2 : Nat) : Int) ∧ CO ⟨t.2.1, t.2.2.1, t.2.2.2.1⟩ ∧ t.2.2.2.2.1 = p ∧ 0 < t.2.2.2.2.2.length ∧ t.2.2.2.2.2.length ≤ 1 + 3 * (k + 1) ∧ ∀ x ∈ t.2.2.2.2.2, InR p x := by
      unfold m_spec_l6Laman_L5
      rw [decide_eq_true (show ((k + 2 : Nat) : Int) < p by omega), cond_true]
      simp only
      refine (below_ex hc _).bind fun r1 h1 => ?_
      have a1 := h1.2.2 (by omega)
      refine (below_ex h1.1 _).bind fun r2 h2 => Ex.nz (by omega) ?_
      rw [w64_small (n := ((k + 2 : Nat) : Int) - 1) (by omega) (by omega)] at h2
      have a2 := h2.2.2 (by omega)
      have a3 := h1.2.1
      have a4 := h2.2.1
      refine Ex.bind (Q := fun j => CO ⟨j.2.1, j.2.2.1, j.2.2.2⟩ ∧ (j.1 = true → 2 < k + 2)) ?_ fun j hj => ?_
      · refine (once_ex h2.1 2).bind fun r3 h3 => Ex.bif (fun _ => Ex.ret ⟨h3, fun hd => ?_⟩) (fun _ => Ex.ret ⟨h3, fun hd => by cases hd⟩)
        rw [decide_eq_true_eq] at hd
        omega
      · refine Ex.bind (Q := fun t => t.1 = ((k + 2 : Nat) : Int) ∧ CO ⟨t.2.1, t.2.2.1, t.2.2.2.1⟩ ∧ t.2.2.2.2.1 = p ∧ 0 < t.2.2.2.2.2.length ∧ t.2.2.2.2.2.length ≤ 1 + 3 * (k + 1) ∧ ∀ x ∈ t.2.2.2.2.2, InR p x) (Ex.bif (fun hj1 => ?_) (fun hj1 => ?_)) fun t ht => Ex.ret ⟨_, rfl, ?_, ht.2⟩
        · have hk2 := hj.2 hj1
          refine (below_ex hj.1 _).bind fun r4 h4 => Ex.idx h4.2.1 (h4.2.2 (by omega)) fun x hx => (laman7_ex _ _ x).bind fun bb hb => ?_
          obtain ⟨w1, w2, w3, w4, w5, w6, w7, w8, w9, w10⟩ := hb
          obtain ⟨e1, e2, e3, e4, e5, e6, e7, e8, e9⟩ := bb
          obtain ⟨e9, e10⟩ := e9
          simp only [Prod.mk.injEq] at w1 w2 w3 w4 w5 w6 w7 w8 w9 w10
          obtain ⟨rfl, rfl⟩ := w10
          subst w1 w2 w5 w6 w7 w8 w9
          have hxi := hin x hx
          have h4' := h4.2.2 (by omega)
          refine (third_ex h4.1 (n := ((k + 2 : Nat) : Int)) (by omega) ⟨w3, by omega⟩ x).bind fun r5 h5 => (remS_ex ⟨e7, e8⟩ (by simp only; omega) r4.1 (by omega)).bind fun r6 h6 => ?_
          obtain ⟨q1, q2, q3⟩ := remB_ok ⟨e7, e8⟩ r4.1
          rw [← h6] at q1 q2 q3
          simp only at q1 q2 q3
          have p1 : InR e7 ⟨x.A, ((k + 2 : Nat) : Int)⟩ := ⟨hxi.1, hxi.2.1, by simp only; omega, by simp only; omega⟩
          have p2 : InR e7 ⟨x.B, ((k + 2 : Nat) : Int)⟩ := ⟨hxi.2.2.1, hxi.2.2.2, by simp only; omega, by simp only; omega⟩
          have p3 : InR e7 ⟨r5.1, ((k + 2 : Nat) : Int)⟩ := ⟨h5.2.1, by have := h5.2.2; simp only; omega, by simp only; omega, by simp only; omega⟩
          have hin6 : ∀ y ∈ r6.1.Bars, InR e7 y := fun y hy => hin y (q3 y hy)
          rw [l2Put_eq r6.1 _ (by omega)]
          simp only [Option.bind_some]
          rw [l2Put_eq _ _ (by simp only [insB_len]; omega)]
          simp only [Option.bind_some]
          rw [l2Put_eq _ _ (by simp only [insB_len]; omega)]
          refine Ex.ret ⟨rfl, h5.1, q1, ?_, ?_, insB_inr (insB_inr (insB_inr hin6 p1) p2) p3⟩
          · simp only [insB_len]; omega
          · simp only [insB_len]; omega
        · have hm := tmod_rng (x := r1.1 + 1 + r2.1) (n := ((k + 2 : Nat) : Int)) (by omega) (by omega)
          rw [w64_small (n := r1.1 + 1) (by omega) (by omega), w64_small (n := r1.1 + 1 + r2.1) (by omega) (by omega)]
          rw [l2Put_eq ⟨p, l⟩ _ (by simp only; omega)]
          simp only [Option.bind_some]
          rw [l2Put_eq _ _ (by simp only [insB_len]; omega)]
          refine Ex.ret ⟨rfl, hj.1, rfl, ?_, ?_, insB_inr (insB_inr hin ⟨h1.2.1, by simp only; omega, by simp only; omega, by simp only; omega⟩) ⟨hm.1, by have := hm.2; simp only; omega, by simp only; omega, by simp only; omega⟩⟩
          · simp only [insB_len]; omega
          · simp only [insB_len]; omega
        · simp only
          rw [ht.1, w64_succ (by omega)]
    obtain ⟨r, e, t, rfl, ht⟩ := key
    exact ⟨t, e, ht⟩
  · obtain ⟨v, b, i, hh, p, l⟩ := s
    obtain ⟨rfl, hc, hp, hl0, hl, hin⟩ := hI
    change p = n at hp
    subst hp
    refine ⟨(b, i, hh, p, l), ?_, hc, rfl, ?_, hin⟩
    · unfold m_spec_l6Laman_L5
      rw [decide_eq_false (by simp only; omega)]
      rfl
    · simp only at hl ⊢
      omega
theorem any6_ex {c : Tl1Cur} (h : CO c) : Ex (m_spec_l6Any c) fun r => CO r.2 ∧ Gs r.1 := by
  unfold m_spec_l6Any
  refine (below_ex h 4).bind fun r1 h1 => Ex.bif (fun _ => ?_) (fun _ => Ex.bif (fun _ => ?_) (fun _ => Ex.bif (fun _ => ?_) (fun _ => ?_)))
  · exact (any2_ex h1.1).bind fun r hr => Ex.ret hr
  · refine (below_ex h1.1 5).bind fun r2 h2 => ?_
    have a := h2.2.2 (by omega)
    have a0 := h2.2.1
    rw [w64_small (by omega) (by omega)]
    refine (laman_ex h2.1 (by omega) (by omega)).bind fun r3 h3 => (below_ex0 h3.1 _).bind fun r4 h4 => ?_
    have hl := h3.2.1.len
    have h4u : r4.1 ≤ 1048576 := by
      by_cases h0 : 0 < (r3.1.Bars.length : Int)
      · have := h4.2.2.1 h0; omega
      · have := h4.2.2.2 (by omega); omega
    refine (remS_ex r3.1 (by omega) r4.1 h4u).bind fun r5 h5 => Ex.ret ⟨h4.1, ?_⟩
    have := (remB_ok r3.1 r4.1).2.1
    unfold Gs
    simp only
    rw [h5]
    omega
  · refine (below_ex h1.1 5).bind fun r2 h2 => ?_
    have a := h2.2.2 (by omega)
    have a0 := h2.2.1
    rw [w64_small (by omega) (by omega)]
    refine (laman_ex h2.1 (by omega) (by omega)).bind fun r3 h3 => (below_ex h3.1 _).bind fun r4 h4 => (below_ex h4.1 _).bind fun r5 h5 => ?_
    have hl := h3.2.1.len
    rw [addS_eq r3.1 (by omega)]
    refine Ex.ret ⟨h5.1, ?_⟩
    have := (addB_len r3.1 r4.1 r5.1).1
    unfold Gs
    simp only
    omega
  · refine (below_ex h1.1 6).bind fun r2 h2 => ?_
    have a := h2.2.2 (by omega)
    have a0 := h2.2.1
    rw [w64_small (by omega) (by omega)]
    refine (laman_ex h2.1 (by omega) (by omega)).bind fun r3 h3 => Ex.ret ⟨h3.1, ?_⟩
    have := h3.2.1.len
    unfold Gs
    simp only
    omega
end Go.Proofs.Yteognanhfpbghaa
end
section
set_option linter.unusedVariables false
set_option linter.unusedSimpArgs false
set_option linter.unnecessarySimpa false
open Go Go.Fw
namespace Go.Proofs.Yteognanhfpbghaa
theorem Ex.if {α : Type} {b : Prop} [Decidable b] {x y : Option α} {Q : α → Prop} (h1 : b → Ex x Q) (h2 : ¬ b → Ex y Q) : Ex (if b then x else y) Q := by
  split
  · exact h1 ‹_›
  · exact h2 ‹_›
theorem countS_ex (g : TGraph) (h : g.Bars.length ≤ 1048576) (a b : Int) : Ex (m_spec_CountBar g a b) fun _ => True := by
  unfold m_spec_CountBar
  refine Ex.bind (Q := fun _ => True) ?_ fun r _ => Ex.ret trivial
  refine loop_inv (fun k s => s.2 = (k : Int)) _ g.Bars.length (by omega) rfl (fun k s hk hI => ?_) (fun s hI => ?_)
  · obtain ⟨n, i⟩ := s
    change i = (k : Int) at hI
    subst hI
    have hx := List.getElem?_eq_getElem hk
    have key : Ex (m_spec_CountBar_L1 g a b (n, (k : Int))) fun r => ∃ t, r = .inl t ∧ t.2 = ((k + 1 : Nat) : Int) := by
      unfold m_spec_CountBar_L1
      rw [decide_eq_true (by simp only; omega), cond_true]
      simp only [idx_of hx, Option.bind_some]
      refine Ex.bind (Q := fun _ => True) (Ex.bif (fun _ => Ex.bif (fun _ => Ex.ret trivial) (fun _ => Ex.bif (fun _ => Ex.ret trivial) (fun _ => Ex.ret trivial))) (fun _ => Ex.bif (fun _ => Ex.ret trivial) (fun _ => Ex.ret trivial))) fun j _ => Ex.bind (Q := fun _ => True) (Ex.bif (fun _ => Ex.ret trivial) (fun _ => Ex.ret trivial)) fun j2 _ => Ex.ret ⟨_, rfl, ?_⟩
      simp only
      rw [w64_succ (by omega)]
    obtain ⟨r, e, t, rfl, ht⟩ := key
    exact .inl ⟨t, e, ht⟩
  · obtain ⟨n, i⟩ := s
    change i = _ at hI
    subst hI
    refine ⟨n, ?_, trivial⟩
    unfold m_spec_CountBar_L1
    rw [decide_eq_false (by simp only; omega)]
    rfl
theorem any15_ex {c : Tl1Cur} (h : CO c) : Ex (m_spec_l15Any c) fun r => CO r.2 ∧ r.1.Bars.length ≤ 300 := by
  unfold m_spec_l15Any
  refine (any6_ex h).bind fun r1 h1 => (below_ex h1.1 4).bind fun r2 h2 => ?_
  have a := h2.2.2 (by omega)
  have a0 := h2.2.1
  have hl : r1.1.Bars.length ≤ 200 := h1.2
  refine Ex.bind (Q := fun b => CO ⟨b.1, b.2.1, b.2.2.1⟩ ∧ b.2.2.2.1.length ≤ 300) ?_ fun b hb => Ex.ret hb
  refine loop_inv (fun k s => s.1 = r2.1 - (k : Int) ∧ CO ⟨s.2.1, s.2.2.1, s.2.2.2.1⟩ ∧ s.2.2.2.2.2.length ≤ 200 + k) _ r2.1.toNat (by omega) ⟨by simp only; omega, h2.1, by simp only; omega⟩ (fun k s hk hI => ?_) (fun s hI => ?_)
  · obtain ⟨n, b, i, hh, p, l⟩ := s
    obtain ⟨hn, hc, hll⟩ := hI
    change n = r2.1 - (k : Int) at hn
    subst hn
    change l.length ≤ 200 + k at hll
    have key : Ex (m_spec_l15Any_L1 (r2.1 - (k : Int), b, i, hh, p, l)) fun r => ∃ t, r = .inl t ∧ t.1 = r2.1 - ((k + 1 : Nat) : Int) ∧ CO ⟨t.2.1, t.2.2.1, t.2.2.2.1⟩ ∧ t.2.2.2.2.2.length ≤ 200 + (k + 1) := by
      unfold m_spec_l15Any_L1
      rw [decide_eq_true (by simp only; omega), cond_true]
      simp only
      refine (below_ex hc 6).bind fun u hu => (below_ex hu.1 6).bind fun v hv => (countS_ex ⟨p, l⟩ (show l.length ≤ _ by omega) _ _).bind fun w _ => ?_
      rw [addS_eq ⟨p, l⟩ (show l.length ≤ _ by omega)]
      have hal := (addB_len ⟨p, l⟩ u.1 v.1).1
      refine Ex.bind (Q := fun j => j.2.length ≤ 200 + (k + 1)) (Ex.bif (fun _ => Ex.ret ?_) (fun _ => Ex.ret (by simp only; omega))) fun j hj => Ex.ret ⟨_, rfl, ?_, hv.1, hj⟩
      · simp only at hal ⊢
        omega
      · simp only
        rw [w64_small (by omega) (by omega)]
        omega
    obtain ⟨r, e, t, rfl, ht⟩ := key
    exact .inl ⟨t, e, ht⟩
  · obtain ⟨n, b, i, hh, p, l⟩ := s
    obtain ⟨hn, hc, hll⟩ := hI
    change n = r2.1 - ((r2.1.toNat : Nat) : Int) at hn
    change l.length ≤ _ at hll
    refine ⟨(b, i, hh, l, p), ?_, hc, by simp only; omega⟩
    unfold m_spec_l15Any_L1
    rw [decide_eq_false (by simp only; omega)]
    rfl
theorem draw16_ex {code : List Int} (h : code.length ≤ 1048576) : Ex (m_spec_l16Draw code) fun r => r.1.Bars.length ≤ 300 ∧ -1 ≤ r.2 ∧ r.2 ≤ 4 := by
  unfold m_spec_l16Draw
  refine (new_ex h).bind fun c hc => (any15_ex hc).bind fun r1 h1 => (below_ex h1.1 6).bind fun r2 h2 => Ex.ret ⟨h1.2, ?_⟩
  have a := h2.2.2 (by omega)
  have a0 := h2.2.1
  simp only
  rw [w64_small (by omega) (by omega)]
  omega
theorem drawConn_ex {code : List Int} (h : code.length ≤ 1048576) : Ex (m_spec_DrawConnectivityOf code) fun g => g.Bars.length ≤ 300 := by
  unfold m_spec_DrawConnectivityOf
  exact (new_ex h).bind fun c hc => (any15_ex hc).bind fun r hr => Ex.ret hr.2
theorem drawWhy_ex {code : List Int} (h : code.length ≤ 1048576) : Ex (m_spec_DrawWhyNotGlobal code) fun g => g.Bars.length ≤ 300 := by
  unfold m_spec_DrawWhyNotGlobal
  exact (new_ex h).bind fun c hc => (any15_ex hc).bind fun r hr => Ex.ret hr.2
theorem drawCut_ex {code : List Int} (h : code.length ≤ 1048576) : Ex (m_spec_DrawCutSets code) fun r => r.1.Bars.length ≤ 300 ∧ -1 ≤ r.2 ∧ r.2 ≤ 4 := by
  unfold m_spec_DrawCutSets
  exact (draw16_ex h).bind fun r hr => Ex.ret hr
theorem drawKC_ex {code : List Int} (h : code.length ≤ 1048576) : Ex (m_spec_DrawIsKConnected code) fun r => r.1.Bars.length ≤ 300 ∧ -1 ≤ r.2 ∧ r.2 ≤ 4 := by
  unfold m_spec_DrawIsKConnected
  exact (draw16_ex h).bind fun r hr => Ex.ret hr
theorem drawWo_ex {code : List Int} (h : code.length ≤ 1048576) : Ex (m_spec_DrawWithoutPoints code) fun r => r.1.Bars.length ≤ 300 ∧ r.2.length ≤ 6 := by
  unfold m_spec_DrawWithoutPoints
  refine (new_ex h).bind fun c hc => (any2_ex hc).bind fun r1 h1 => (below_ex h1.1 64).bind fun r2 h2 => ?_
  rw [l3Set_eq r2.1 (by omega) (by omega)]
  have : r1.1.Bars.length ≤ 200 := h1.2
  exact Ex.ret ⟨by simp only; omega, maskSet_len _ _⟩
end Go.Proofs.Yteognanhfpbghaa
end
section
set_option linter.unusedVariables false
set_option linter.unusedSimpArgs false
set_option linter.unnecessarySimpa false
open Go Go.Fw
namespace Go.Proofs.Yteognanhfpbghaa
def eqL {α : Type} (e : α → α → Bool) : List α → List α → Bool
  | [], [] => true
  | x :: a, y :: b => e x y && eqL e a b
  | _, _ => false
theorem eqL_iff {α : Type} {e : α → α → Bool} (he : ∀ x y, e x y = true ↔ x = y) : ∀ a b : List α, eqL e a b = true ↔ a = b
  | [], [] => by simp [eqL]
  | [], y :: b => by simp [eqL]
  | x :: a, [] => by simp [eqL]
  | x :: a, y :: b => by
    unfold eqL
    rw [Bool.and_eq_true, he, eqL_iff he a b, List.cons.injEq]
theorem eqL_range {α : Type} {e : α → α → Bool} : ∀ (a b : List α), a.length = b.length → (List.range' 0 a.length).any (fun k => match a[k]?, b[k]? with | some x, some y => !e x y | _, _ => false) = !eqL e a b
  | [], [], _ => rfl
  | [], y :: b, h => by simp at h
  | x :: a, [], h => by simp at h
  | x :: a, y :: b, h => by
    have ih := eqL_range (e := e) a b (by simpa using h)
    rw [List.length_cons, List.range'_succ, List.any_cons]
    unfold eqL
    rw [Bool.not_and, ← ih, List.range'_eq_map_range, List.range'_eq_map_range, List.any_map, List.any_map]
    congr 1
    congr 1
    funext k
    simp [Function.comp, Nat.add_comm]
theorem eqL_loop {α : Type} {b : Int → Option (Int ⊕ (Unit ⊕ Bool))} (e : α → α → Bool) (a c : List α) (ha : SM a.length) (hl : a.length = c.length) (h : ∀ (k : Nat) x y, k < a.length → a[k]? = some x → c[k]? = some y → b k = bif !e x y then some (.inr (.inr false)) else some (.inl (w64 ((k : Int) + 1)))) (hr : b a.length = some (.inr (.inl ()))) :
    ((loopM b BIG 0).bind (Sum.elim (fun _ => some true) (fun r => some r))) = some (eqL e a c) := by
  have h1 := any_loop0 (b := b) (fun k => match a[k]?, c[k]? with | some x, some y => !e x y | _, _ => false) false a.length (by omega) (fun k hk => by
    rw [h k a[k] (c[k]'(by omega)) hk (List.getElem?_eq_getElem hk) (List.getElem?_eq_getElem (by omega)), List.getElem?_eq_getElem hk, List.getElem?_eq_getElem (by omega)]) hr
  rw [h1, eqL_range a c hl]
  cases eqL e a c <;> rfl
theorem eqL_len {α : Type} {e : α → α → Bool} : ∀ {a b : List α}, eqL e a b = true → a.length = b.length
  | [], [], _ => rfl
  | [], y :: b, h => by simp [eqL] at h
  | x :: a, [], h => by simp [eqL] at h
  | x :: a, y :: b, h => by
    unfold eqL at h
    rw [Bool.and_eq_true] at h
    simp [eqL_len h.2]
def eBar (x y : TBar) : Bool := eqI [x.A, x.B] [y.A, y.B]
theorem eqI_two {a b c d : Int} : eqI [a, b] [c, d] = true ↔ a = c ∧ b = d := by
  rw [eqI_eq, decide_eq_true_eq]
  simp
theorem eBar_iff (x y : TBar) : eBar x y = true ↔ x = y := by
  unfold eBar
  rw [eqI_two]
  cases x; cases y
  simp
def eqG (a b : TGraph) : Bool := (a.Points == b.Points) && eqL eBar a.Bars b.Bars
theorem eqG_iff (a b : TGraph) : eqG a b = true ↔ a = b := by
  unfold eqG
  rw [Bool.and_eq_true, beq_iff_eq, eqL_iff eBar_iff]
  cases a; cases b
  simp
theorem bne_len {α : Type} {a b : List α} (h : ¬ a.length = b.length) : ((a.length : Int) != (b.length : Int)) = true := by simp; omega
theorem eqL_false {α : Type} {e : α → α → Bool} {a b : List α} (h : ¬ a.length = b.length) : eqL e a b = false := by
  rw [← Bool.not_eq_true]
  exact fun h2 => h (eqL_len h2)
theorem eqGS_eq (a b : TGraph) (ha : SM a.Bars.length) : m_spec_EqualGraphs a b = some (eqG a b) := by
  unfold m_spec_EqualGraphs eqG
  rw [show (a.Points != b.Points) = !(a.Points == b.Points) from rfl]
  cases a.Points == b.Points
  · rfl
  · simp only [Bool.not_true, cond_false, Option.bind_some, Bool.true_and]
    by_cases hl : a.Bars.length = b.Bars.length
    · rw [bne_int.2 (by rw [hl]), cond_false]
      refine eqL_loop eBar a.Bars b.Bars ha hl (fun k x y hk hx hy => ?_) (by simp [m_spec_EqualGraphs_L1])
      unfold m_spec_EqualGraphs_L1
      rw [decide_eq_true (by omega), cond_true, idx_of hx, idx_of hy, Option.bind_some, Option.bind_some]
      rfl
    · rw [bne_len hl, eqL_false hl]
      rfl
end Go.Proofs.Yteognanhfpbghaa
end
section
set_option linter.unusedVariables false
set_option linter.unusedSimpArgs false
set_option linter.unnecessarySimpa false
open Go Go.Fw Go.Sp
namespace Go.Proofs.Yteognanhfpbghaa
theorem sameInts_refl (l : List Int) (h : l.length ≤ 100000) : m_laws_sameInts l l = some true := by
  unfold m_laws_sameInts
  rw [bne_self_eq_false, cond_false]
  have := any_loop0 (b := m_laws_sameInts_L1 l l) (fun _ => false) false l.length (by omega) (fun k hk => by
    unfold m_laws_sameInts_L1
    rw [decide_eq_true (by omega), cond_true, idx_at hk, Option.bind_some, Option.bind_some, bne_self_eq_false]) (by simp [m_laws_sameInts_L1])
  rw [this, any_range_false.2 fun _ _ _ => rfl]
  rfl
theorem sameSets_refl (l : List (List Int)) (h : l.length ≤ 100000) (hr : ∀ r ∈ l, r.length ≤ 100000) : m_laws_sameSets l l = some true := by
  unfold m_laws_sameSets
  rw [bne_self_eq_false, cond_false]
  have := any_loop0 (b := m_laws_sameSets_L1 l l) (fun _ => false) false l.length (by omega) (fun k hk => by
    unfold m_laws_sameSets_L1
    rw [decide_eq_true (by omega), cond_true, idx_at hk, Option.bind_some, Option.bind_some, sameInts_refl _ (hr _ (List.getElem_mem hk))]
    rfl) (by simp [m_laws_sameSets_L1])
  rw [this, any_range_false.2 fun _ _ _ => rfl]
  rfl
theorem cutRow (g : TGraph) (k : Int) : ∀ r ∈ cuts g k, r.length ≤ 100000 := by
  unfold cuts
  cases hc : vG g && (decide (0 ≤ k) && decide (k ≤ 3)) with
  | false => intro r hr; cases hr
  | true =>
    simp only [Bool.and_eq_true] at hc
    have h8 := (vG_VG hc.1).p8
    have key : ∀ n, ∀ r ∈ pieces (fun mask => bif isCut g k mask then [maskSet (mask : Int) g.Points.toNat] else []) n, r.length ≤ 100000 := by
      intro n
      induction n with
      | zero => intro r hr; cases hr
      | succ n ih =>
        intro r hr
        rcases List.mem_append.1 hr with hr | hr
        · exact ih r hr
        · have hr : r ∈ (bif isCut g k n then [maskSet (n : Int) g.Points.toNat] else []) := hr
          cases hcut : isCut g k n with
          | false => rw [hcut] at hr; cases hr
          | true =>
            rw [hcut] at hr
            have := List.mem_singleton.1 hr
            rw [this]
            have := maskSet_len (n : Int) g.Points.toNat
            omega
    exact key _
theorem cuts_refl (g : TGraph) (k : Int) : m_laws_sameSets (cuts g k) (cuts g k) = some true := sameSets_refl _ (by have := cuts_len g k; omega) (cutRow g k)
theorem K2_rank : pr 2 [⟨0, 1⟩] = 1 := by decide +kernel
theorem K3_rank : pr 3 [⟨0, 1⟩, ⟨0, 2⟩, ⟨1, 2⟩] = 3 := by decide +kernel
theorem mult_sub {K L : List TBar} (hk : ∀ i, i < 64 → mult K i ≤ 1) (h : ∀ x ∈ K, x ∈ L) : ∀ i, i < 64 → mult K i ≤ mult L i := fun i hi => by
  by_cases h0 : mult K i = 0
  · omega
  · obtain ⟨x, hx, rfl⟩ := mult_pos (L := K) (i := i) (by omega)
    have := mult_mem (h x hx)
    have := hk _ hi
    omega
theorem pr_sub {P : Int} {K L : List TBar} (hK : GB P K) (hL : GB P L) (hk : ∀ i, i < 64 → mult K i ≤ 1) (h : ∀ x ∈ K, x ∈ L) : pr P K ≤ pr P L :=
  (pr_rank hK).mono (pr_rank hL) (mult_sub hk h)
theorem pr_top {P : Int} {L : List TBar} (hg : GB P L) : pr P L = 0 ∨ pr P L + 3 ≤ 2 * P.toNat := by
  by_cases h0 : pr P L = 0
  · exact .inl h0
  · refine .inr ?_
    have p8 := hg.p8
    have := (pr_rank hg).le_in (X := fun v => decide (v < P.toNat)) (fun i hi hm => by
      obtain ⟨x, hx, rfl⟩ := mult_pos hm
      have hb := hg.inb x hx
      rw [(hg.okm x hx).inn]
      have := hb.a0; have := hb.b0; have := hb.ap; have := hb.bp
      rw [decide_eq_true (by omega), decide_eq_true (by omega)]
      rfl) (by omega)
    rw [size_below (by omega)] at this
    exact this
theorem miss_mem {g : TGraph} (hv : vG g = true) (hm : miss g = []) {a b : Nat} (hab : a < b) (hb : (b : Int) < g.Points) : ⟨(a : Int), (b : Int)⟩ ∈ g.Bars := by
  have hV := vG_VG hv
  have h0 : cnt g (a : Int) (b : Int) ≠ 0 := fun h0 => by
    have h1 : missRow g a = [] := by
      have key : ∀ n, pieces (missRow g) n = [] → ∀ k, k < n → missRow g k = [] := by
        intro n
        induction n with
        | zero => intro _ k hk; omega
        | succ n ih =>
          intro h k hk
          have h' : pieces (missRow g) n ++ missRow g n = [] := h
          obtain ⟨e1, e2⟩ := List.append_eq_nil_iff.1 h'
          by_cases e : k = n
          · rw [e]; exact e2
          · exact ih e1 k (by omega)
      exact key _ hm a (by omega)
    have key : ∀ n, pieces (fun j => bif cnt g a ((a + 1 + j : Nat) : Int) == 0 then [(⟨a, ((a + 1 + j : Nat) : Int)⟩ : TBar)] else []) n = [] → ∀ j, j < n → cnt g a ((a + 1 + j : Nat) : Int) ≠ 0 := by
      intro n
      induction n with
      | zero => intro _ k hk; omega
      | succ n ih =>
        intro h k hk
        obtain ⟨e1, e2⟩ := List.append_eq_nil_iff.1 (show pieces _ n ++ (bif cnt g a ((a + 1 + n : Nat) : Int) == 0 then [(⟨a, ((a + 1 + n : Nat) : Int)⟩ : TBar)] else []) = [] from h)
        by_cases e : k = n
        · subst e
          intro h0
          rw [h0] at e2
          cases e2
        · exact ih e1 k (by omega)
    exact key _ h1 (b - (a + 1)) (by omega) (by rw [show a + 1 + (b - (a + 1)) = b by omega]; exact h0)
  have h2 := (cnt_eq g hV.sm (a : Int) (b : Int)).2
  apply Classical.byContradiction
  intro hn
  refine h0 (h2.2 fun x hx => ⟨fun ⟨e1, e2⟩ => hn (by rw [← e1, ← e2]; exact hx), fun ⟨e1, e2⟩ => ?_⟩)
  obtain ⟨k, hk, rfl⟩ := List.getElem_of_mem hx
  have := hV.ab (List.getElem?_eq_getElem hk)
  omega
theorem small_rigid {g : TGraph} (hv : vG g = true) (hm : miss g = []) (hP : g.Points ≤ 3) : rigid g = true := by
  have hV := vG_VG hv
  have p1 := hV.p1
  have hgb := hV.gb
  have htop := pr_top hgb
  have hlow : 2 * g.Points - 3 ≤ (pr g.Points g.Bars : Int) := by
    have h3 : g.Points = 1 ∨ g.Points = 2 ∨ g.Points = 3 := by omega
    rcases h3 with h | h | h
    · omega
    · have hK : GB g.Points [⟨0, 1⟩] := GB.of p1 hV.p8 (by decide) fun x hx => by
        rw [h]
        have := List.mem_singleton.1 hx
        rw [this]
        exact ⟨by decide, by decide, by decide, by decide, by decide⟩
      have := pr_sub hK hgb (by decide) fun x hx => by
        have := List.mem_singleton.1 hx
        rw [this]
        exact miss_mem hv hm (a := 0) (b := 1) (by decide) (by rw [h]; decide)
      rw [h] at this ⊢
      rw [K2_rank] at this
      omega
    · have hK : GB g.Points [⟨0, 1⟩, ⟨0, 2⟩, ⟨1, 2⟩] := GB.of p1 hV.p8 (by decide) fun x hx => by
        rw [h]
        simp only [List.mem_cons, List.not_mem_nil, or_false] at hx
        rcases hx with rfl | rfl | rfl <;> exact ⟨by decide, by decide, by decide, by decide, by decide⟩
      have := pr_sub hK hgb (by decide) fun x hx => by
        simp only [List.mem_cons, List.not_mem_nil, or_false] at hx
        rcases hx with rfl | rfl | rfl
        · exact miss_mem hv hm (a := 0) (b := 1) (by decide) (by rw [h]; decide)
        · exact miss_mem hv hm (a := 0) (b := 2) (by decide) (by rw [h]; decide)
        · exact miss_mem hv hm (a := 1) (b := 2) (by decide) (by rw [h]; decide)
      rw [h] at this ⊢
      rw [K3_rank] at this
      omega
  have hle := pr_le hgb
  have hl := hV.len
  unfold rigid freedom
  rw [hv, rk_pr hv, cond_true, w64_small (n := 2 * g.Points) (by omega) (by omega), w64_small (n := 2 * g.Points - 3) (by omega) (by omega)]
  split
  · rw [w64_small (by omega) (by omega), beq_iff_eq]; omega
  · rw [w64_small (by omega) (by omega), beq_iff_eq]; omega
theorem why_facts {g : TGraph} (h : g.Bars.length ≤ 1048576) {w : ByteArray} (hw : m_impl_WhyNotGlobal g = some w) (he : (w.toList == ByteArray.empty.toList) = true) : rigid g = true ∧ (4 ≤ g.Points → kconn g 3 = true ∧ redRigid g = true) := by
  have hs : SM g.Bars.length := by omega
  unfold m_impl_WhyNotGlobal at hw
  simp only [isGraphI_eq g hs, twinsI_eq g hs, Option.bind_some, rigidI_eq g hs, kconnI_eq g hs, redRigidI_eq g hs] at hw
  have no : ∀ b : ByteArray, some b = some w → (b.toList == ByteArray.empty.toList) = false → False := fun b hb hf => by
    injection hb with hb
    rw [← hb, hf] at he
    cases he
  cases hv : vG g with
  | false => rw [hv] at hw; exact (no _ hw (by decide +kernel)).elim
  | true =>
    rw [hv] at hw
    cases hd : twins g with
    | true => rw [hd] at hw; exact (no _ hw (by decide +kernel)).elim
    | false =>
      rw [hd] at hw
      simp only [missI_eq hv, Option.bind_some, Bool.not_true, Bool.not_false, cond_true, cond_false] at hw
      by_cases hp : g.Points ≤ 3
      · rw [decide_eq_true hp, decide_eq_false (show ¬ 3 < g.Points by omega)] at hw
        refine ⟨?_, fun h4 => by omega⟩
        cases hm : miss g with
        | nil => exact small_rigid hv hm hp
        | cons a l =>
          rw [hm, decide_eq_true (by simp)] at hw
          exact (no _ hw (by decide +kernel)).elim
      · rw [decide_eq_false hp, decide_eq_true (show 3 < g.Points by omega)] at hw
        simp only [cond_true, cond_false, Option.bind_some] at hw
        cases hr : rigid g with
        | false => rw [hr] at hw; exact (no _ hw (by decide +kernel)).elim
        | true =>
          rw [hr] at hw
          cases hk : kconn g 3 with
          | false => rw [hk] at hw; exact (no _ hw (by decide +kernel)).elim
          | true =>
            rw [hk] at hw
            cases hrr : redRigid g with
            | false => rw [hrr] at hw; exact (no _ hw (by decide +kernel)).elim
            | true => exact ⟨rfl, fun _ => ⟨rfl, rfl⟩⟩
theorem hingeI_eq3 (g : TGraph) (h : g.Bars.length ≤ 1048576) : m_impl_HingePairs g = some (cuts g 2) := by
  unfold m_impl_HingePairs
  simp only [cutsI_eq g (show SM g.Bars.length by show g.Bars.length ≤ _; omega), Option.bind_some]
theorem hingeS_eq3 (g : TGraph) (h : g.Bars.length ≤ 1048576) : m_spec_HingePairs g = some (cuts g 2) := by
  unfold m_spec_HingePairs
  simp only [cutsS_eq g (show SM g.Bars.length by show g.Bars.length ≤ _; omega), Option.bind_some]
theorem fragile_none {g : TGraph} (h : redRigid g = true) : decide (0 < ((bridges g 2 3).length : Int)) = false := by
  unfold redRigid at h
  simp only [Bool.and_eq_true, beq_iff_eq] at h
  rw [h.2]
  rfl
theorem connOf3 {g : TGraph} (h : kconn g 3 = true) : connOf g = 3 := by unfold connOf; rw [h]; rfl
theorem law_FnConnected (code : List Int) : m_laws_FnConnected code = some true := by
  unfold m_laws_FnConnected m_laws_big
  rw [Option.bind_some]
  by_cases hbig : (1048576 : Int) < (code.length : Int)
  · rw [decide_eq_true hbig]
    rfl
  · rw [decide_eq_false hbig, cond_false]
    obtain ⟨g, hg, hgl⟩ := drawConn_ex (code := code) (by omega)
    obtain ⟨r85, h85, l85, a85, b85⟩ := drawCut_ex (code := code) (by omega)
    obtain ⟨r86, h86, l86, a86, b86⟩ := drawKC_ex (code := code) (by omega)
    obtain ⟨r87, h87, l87, m87⟩ := drawWo_ex (code := code) (by omega)
    obtain ⟨r88, h88, l88⟩ := drawWhy_ex (code := code) (by omega)
    have hs : SM g.Bars.length := by show _ ≤ _; omega
    obtain ⟨w, ws, wi⟩ := both_WhyNotGlobal g (by omega)
    have gi : m_impl_IsGloballyRigid g = some (w.toList == ByteArray.empty.toList) := by unfold m_impl_IsGloballyRigid; rw [wi]; rfl
    have gs : m_spec_IsGloballyRigid g = some (w.toList == ByteArray.empty.toList) := by unfold m_spec_IsGloballyRigid; rw [ws]; rfl
    obtain ⟨w2, _, wi2⟩ := both_WhyNotGlobal r88 (by omega)
    have gi2 : m_impl_IsGloballyRigid r88 = some (w2.toList == ByteArray.empty.toList) := by unfold m_impl_IsGloballyRigid; rw [wi2]; rfl
    have hfacts := fun he => why_facts (g := g) (by omega) wi he
    have hwo : m_impl_WithoutPoints r87.1 r87.2 = some (wo r87.1 r87.2) := withoutI_eq _ _ (by show _ ≤ _; omega) (by show _ ≤ _; omega)
    have hwoS : m_spec_WithoutPoints r87.1 r87.2 = some (wo r87.1 r87.2) := withoutS_eq _ _ (by show _ ≤ _; omega) (by show _ ≤ _; omega)
    have hwl : SM (wo r87.1 r87.2).Bars.length := by
      have := barsN_len r87.1 (names r87.2 (cnt8 r87.1.Points)).1
      show _ ≤ _
      unfold wo
      cases vG r87.1
      · simp
      · simp only [cond_true]; omega
    have s85 : SM r85.1.Bars.length := by show _ ≤ _; omega
    have s86 : SM r86.1.Bars.length := by show _ ≤ _; omega
    have hkm : ¬ r86.2 < 2 → kconn r86.1 r86.2 = true → kconn r86.1 (w64 (r86.2 - 1)) = true := fun h2 hk => by
      rw [w64_small (by omega) (by omega)]
      exact kconn_mono hk (by omega)
    simp only [hg, Option.bind_some, (conn_both g (by omega)).1, (conn_both g (by omega)).2, bne_self_eq_false, cond_false, gi, gs, wi, ws, beq_self_eq_true, Bool.not_true, hingeI_eq3 g (by omega), hingeS_eq3 g (by omega), cuts_refl,
      isGraphS_eq g hs, rigidI_eq g hs, fragileI_eq g hs, h85, h86, h87, h88, cutsI_eq _ s85, cutsS_eq _ s85, cond_true, kconnI_eq _ s86, kconnS_eq _ s86, hwo, hwoS, eqGS_eq _ _ hwl, (eqG_iff _ _).2 rfl, wi2, gi2]
    have hglob : ((bif (w.toList == ByteArray.empty.toList) then (bif !(rigid g) then some true else bif decide (4 ≤ g.Points) then bif decide (connOf g < 3) then some true else some (decide (0 < ((bridges g 2 3).length : Int))) else some false) else some false) : Option Bool) = some false := by
      cases he : (w.toList == ByteArray.empty.toList) with
      | false => rfl
      | true =>
        obtain ⟨hr, h4⟩ := hfacts he
        rw [hr]
        by_cases hp : 4 ≤ g.Points
        · obtain ⟨hk, hrr⟩ := h4 hp
          rw [decide_eq_true hp, connOf3 hk, fragile_none hrr]
          rfl
        · rw [decide_eq_false hp]
          rfl
    simp only [hglob]
    have hrig : ((bif vG g then bif rigid g then bif decide (3 ≤ g.Points) then bif decide (connOf g < 2) then some true else some false else some false else some false else some false) : Option Bool) = some false := by
      cases hv : vG g with
      | false => rfl
      | true =>
        cases hr : rigid g with
        | false => rfl
        | true =>
          by_cases hp : 3 ≤ g.Points
          · rw [decide_eq_true hp, rigid_connOf hr hp]; rfl
          · rw [decide_eq_false hp]; rfl
    rw [hrig]
    simp only [Option.bind_some, cond_false]
    by_cases h2 : r86.2 < 2
    · rw [decide_eq_true h2]; rfl
    · rw [decide_eq_false h2]
      simp only [cond_false]
      cases hk : kconn r86.1 r86.2 with
      | false => rfl
      | true => rw [hkm h2 hk]; rfl
end Go.Proofs.Yteognanhfpbghaa
end
section
set_option linter.unusedVariables false
set_option linter.unusedSimpArgs false
set_option linter.unnecessarySimpa false
set_option maxRecDepth 100000
set_option maxHeartbeats 8000000
open Go Go.Fw
namespace Go.Proofs.Yteognanhfpbghaa
theorem Q {α : Type} {a : α} : a = a := rfl
theorem J : True := trivial
theorem K {n m : Nat} (h : n.ble m = true) : n ≤ m := Nat.le_of_ble_eq_true h
def gdv (ops : Array Oper) (σ : Slots) (o : Oper) : Option (Bool × Bool) := match o.guard with
  | none => none
  | some (j, want) => ((ops[j]?).bind (·.dst)).bind fun d => match lk σ d with
    | some (.s (.c (.pv (.sc (.bool c))))) => some (c, want)
    | some (.tup []) => some (!want, want)
    | _ => none
theorem gH {ops : Array Oper} {σ : Slots} {o : Oper} {c c0 want b : Bool} (hc : c = c0) (h : gdv ops σ o = some (c, want)) (hb : b = (c0 == want)) : GuardIs ops σ o b := by
  subst hc hb
  unfold gdv at h
  unfold GuardIs
  cases hg : o.guard with
  | none => rw [hg] at h; cases h
  | some p =>
    obtain ⟨j, wt⟩ := p
    rw [hg] at h
    dsimp only at h
    cases hd : (ops[j]?).bind (·.dst) with
    | none => rw [hd] at h; cases h
    | some d =>
      rw [hd] at h
      refine ⟨d, hd, ?_⟩
      simp only [Option.bind_some] at h
      split at h
      · rename_i cc hl; injection h with h; injection h with h1 h2; subst h1 h2; exact .inl ⟨cc, hl, rfl⟩
      · rename_i hl; injection h with h; injection h with h1 h2; subst h1 h2; exact .inr ⟨hl, by cases wt <;> rfl⟩
      · cases h
theorem gS {ops : Array Oper} {σ : Slots} {o : Oper} {c want b : Bool} (h : gdv ops σ o = some (c, want)) (hb : b = (c == want)) : GuardIs ops σ o b := gH rfl h hb
theorem z1 {α0 : Type} {a0 : α0} : a0 = a0 ∧ True := ⟨rfl, trivial⟩
theorem z2 {α0 α1 : Type} {a0 : α0} {a1 : α1} : a0 = a0 ∧ a1 = a1 ∧ True := ⟨rfl, rfl, trivial⟩
theorem y2 {α0 α1 : Type} {a0 : α0} {a1 : α1} : a0 = a0 ∧ a1 = a1 := ⟨rfl, rfl⟩
theorem z3 {α0 α1 α2 : Type} {a0 : α0} {a1 : α1} {a2 : α2} : a0 = a0 ∧ a1 = a1 ∧ a2 = a2 ∧ True := ⟨rfl, rfl, rfl, trivial⟩
theorem z4 {α0 α1 α2 α3 : Type} {a0 : α0} {a1 : α1} {a2 : α2} {a3 : α3} : a0 = a0 ∧ a1 = a1 ∧ a2 = a2 ∧ a3 = a3 ∧ True := ⟨rfl, rfl, rfl, rfl, trivial⟩
theorem z5 {α0 α1 α2 α3 α4 : Type} {a0 : α0} {a1 : α1} {a2 : α2} {a3 : α3} {a4 : α4} : a0 = a0 ∧ a1 = a1 ∧ a2 = a2 ∧ a3 = a3 ∧ a4 = a4 ∧ True := ⟨rfl, rfl, rfl, rfl, rfl, trivial⟩
theorem z6 {α0 α1 α2 α3 α4 α5 : Type} {a0 : α0} {a1 : α1} {a2 : α2} {a3 : α3} {a4 : α4} {a5 : α5} : a0 = a0 ∧ a1 = a1 ∧ a2 = a2 ∧ a3 = a3 ∧ a4 = a4 ∧ a5 = a5 ∧ True := ⟨rfl, rfl, rfl, rfl, rfl, rfl, trivial⟩
theorem z7 {α0 α1 α2 α3 α4 α5 α6 : Type} {a0 : α0} {a1 : α1} {a2 : α2} {a3 : α3} {a4 : α4} {a5 : α5} {a6 : α6} : a0 = a0 ∧ a1 = a1 ∧ a2 = a2 ∧ a3 = a3 ∧ a4 = a4 ∧ a5 = a5 ∧ a6 = a6 ∧ True := ⟨rfl, rfl, rfl, rfl, rfl, rfl, rfl, trivial⟩
theorem z8 {α0 α1 α2 α3 α4 α5 α6 α7 : Type} {a0 : α0} {a1 : α1} {a2 : α2} {a3 : α3} {a4 : α4} {a5 : α5} {a6 : α6} {a7 : α7} : a0 = a0 ∧ a1 = a1 ∧ a2 = a2 ∧ a3 = a3 ∧ a4 = a4 ∧ a5 = a5 ∧ a6 = a6 ∧ a7 = a7 ∧ True := ⟨rfl, rfl, rfl, rfl, rfl, rfl, rfl, rfl, trivial⟩
theorem z9 {α0 α1 α2 α3 α4 α5 α6 α7 α8 : Type} {a0 : α0} {a1 : α1} {a2 : α2} {a3 : α3} {a4 : α4} {a5 : α5} {a6 : α6} {a7 : α7} {a8 : α8} : a0 = a0 ∧ a1 = a1 ∧ a2 = a2 ∧ a3 = a3 ∧ a4 = a4 ∧ a5 = a5 ∧ a6 = a6 ∧ a7 = a7 ∧ a8 = a8 ∧ True := ⟨rfl, rfl, rfl, rfl, rfl, rfl, rfl, rfl, rfl, trivial⟩
theorem z10 {α0 α1 α2 α3 α4 α5 α6 α7 α8 α9 : Type} {a0 : α0} {a1 : α1} {a2 : α2} {a3 : α3} {a4 : α4} {a5 : α5} {a6 : α6} {a7 : α7} {a8 : α8} {a9 : α9} : a0 = a0 ∧ a1 = a1 ∧ a2 = a2 ∧ a3 = a3 ∧ a4 = a4 ∧ a5 = a5 ∧ a6 = a6 ∧ a7 = a7 ∧ a8 = a8 ∧ a9 = a9 ∧ True := ⟨rfl, rfl, rfl, rfl, rfl, rfl, rfl, rfl, rfl, rfl, trivial⟩
theorem z11 {α0 α1 α2 α3 α4 α5 α6 α7 α8 α9 α10 : Type} {a0 : α0} {a1 : α1} {a2 : α2} {a3 : α3} {a4 : α4} {a5 : α5} {a6 : α6} {a7 : α7} {a8 : α8} {a9 : α9} {a10 : α10} : a0 = a0 ∧ a1 = a1 ∧ a2 = a2 ∧ a3 = a3 ∧ a4 = a4 ∧ a5 = a5 ∧ a6 = a6 ∧ a7 = a7 ∧ a8 = a8 ∧ a9 = a9 ∧ a10 = a10 ∧ True := ⟨rfl, rfl, rfl, rfl, rfl, rfl, rfl, rfl, rfl, rfl, rfl, trivial⟩
theorem z12 {α0 α1 α2 α3 α4 α5 α6 α7 α8 α9 α10 α11 : Type} {a0 : α0} {a1 : α1} {a2 : α2} {a3 : α3} {a4 : α4} {a5 : α5} {a6 : α6} {a7 : α7} {a8 : α8} {a9 : α9} {a10 : α10} {a11 : α11} : a0 = a0 ∧ a1 = a1 ∧ a2 = a2 ∧ a3 = a3 ∧ a4 = a4 ∧ a5 = a5 ∧ a6 = a6 ∧ a7 = a7 ∧ a8 = a8 ∧ a9 = a9 ∧ a10 = a10 ∧ a11 = a11 ∧ True := ⟨rfl, rfl, rfl, rfl, rfl, rfl, rfl, rfl, rfl, rfl, rfl, rfl, trivial⟩
theorem z13 {α0 α1 α2 α3 α4 α5 α6 α7 α8 α9 α10 α11 α12 : Type} {a0 : α0} {a1 : α1} {a2 : α2} {a3 : α3} {a4 : α4} {a5 : α5} {a6 : α6} {a7 : α7} {a8 : α8} {a9 : α9} {a10 : α10} {a11 : α11} {a12 : α12} : a0 = a0 ∧ a1 = a1 ∧ a2 = a2 ∧ a3 = a3 ∧ a4 = a4 ∧ a5 = a5 ∧ a6 = a6 ∧ a7 = a7 ∧ a8 = a8 ∧ a9 = a9 ∧ a10 = a10 ∧ a11 = a11 ∧ a12 = a12 ∧ True := ⟨rfl, rfl, rfl, rfl, rfl, rfl, rfl, rfl, rfl, rfl, rfl, rfl, rfl, trivial⟩
theorem ag112 : agB Try.prog 112 = some true := by kernel_rfl
theorem ag133 : agB Try.prog 133 = some true := by kernel_rfl
theorem ag3 : agB Try.prog 3 = some false := by kernel_rfl
theorem ag30 : agB Try.prog 30 = some false := by kernel_rfl
theorem ag32 : agB Try.prog 32 = some true := by kernel_rfl
theorem ag4 : agB Try.prog 4 = some false := by kernel_rfl
theorem ag45 : agB Try.prog 45 = some false := by kernel_rfl
theorem ag5 : agB Try.prog 5 = some false := by kernel_rfl
theorem ag55 : agB Try.prog 55 = some false := by kernel_rfl
theorem cb103 : callB Try.prog 103 = true := by kernel_rfl
theorem cb104 : callB Try.prog 104 = true := by kernel_rfl
theorem cb111 : callB Try.prog 111 = true := by kernel_rfl
theorem cb112 : callB Try.prog 112 = true := by kernel_rfl
theorem cb113 : callB Try.prog 113 = true := by kernel_rfl
theorem cb130 : callB Try.prog 130 = true := by kernel_rfl
theorem cb131 : callB Try.prog 131 = true := by kernel_rfl
theorem cb132 : callB Try.prog 132 = true := by kernel_rfl
theorem cb133 : callB Try.prog 133 = true := by kernel_rfl
theorem cb134 : callB Try.prog 134 = true := by kernel_rfl
theorem cb135 : callB Try.prog 135 = true := by kernel_rfl
theorem cb136 : callB Try.prog 136 = true := by kernel_rfl
theorem cb137 : callB Try.prog 137 = true := by kernel_rfl
theorem cb138 : callB Try.prog 138 = true := by kernel_rfl
theorem cb139 : callB Try.prog 139 = true := by kernel_rfl
theorem cb140 : callB Try.prog 140 = true := by kernel_rfl
theorem cb141 : callB Try.prog 141 = true := by kernel_rfl
theorem cb142 : callB Try.prog 142 = true := by kernel_rfl
theorem cb143 : callB Try.prog 143 = true := by kernel_rfl
theorem cb144 : callB Try.prog 144 = true := by kernel_rfl
theorem cb145 : callB Try.prog 145 = true := by kernel_rfl
theorem cb146 : callB Try.prog 146 = true := by kernel_rfl
theorem cb147 : callB Try.prog 147 = true := by kernel_rfl
theorem cb148 : callB Try.prog 148 = true := by kernel_rfl
theorem cb149 : callB Try.prog 149 = true := by kernel_rfl
theorem cb150 : callB Try.prog 150 = true := by kernel_rfl
theorem cb151 : callB Try.prog 151 = true := by kernel_rfl
theorem cb154 : callB Try.prog 154 = true := by kernel_rfl
theorem cb163 : callB Try.prog 163 = true := by kernel_rfl
theorem cb164 : callB Try.prog 164 = true := by kernel_rfl
theorem cb165 : callB Try.prog 165 = true := by kernel_rfl
theorem cb166 : callB Try.prog 166 = true := by kernel_rfl
theorem cb168 : callB Try.prog 168 = true := by kernel_rfl
theorem cb171 : callB Try.prog 171 = true := by kernel_rfl
theorem cb175 : callB Try.prog 175 = true := by kernel_rfl
theorem cb177 : callB Try.prog 177 = true := by kernel_rfl
theorem cb182 : callB Try.prog 182 = true := by kernel_rfl
theorem cb183 : callB Try.prog 183 = true := by kernel_rfl
theorem cb187 : callB Try.prog 187 = true := by kernel_rfl
theorem cb188 : callB Try.prog 188 = true := by kernel_rfl
theorem cb189 : callB Try.prog 189 = true := by kernel_rfl
theorem cb190 : callB Try.prog 190 = true := by kernel_rfl
theorem cb191 : callB Try.prog 191 = true := by kernel_rfl
theorem cb192 : callB Try.prog 192 = true := by kernel_rfl
theorem cb193 : callB Try.prog 193 = true := by kernel_rfl
theorem cb194 : callB Try.prog 194 = true := by kernel_rfl
theorem cb195 : callB Try.prog 195 = true := by kernel_rfl
theorem cb196 : callB Try.prog 196 = true := by kernel_rfl
theorem cb197 : callB Try.prog 197 = true := by kernel_rfl
theorem cb198 : callB Try.prog 198 = true := by kernel_rfl
theorem cb199 : callB Try.prog 199 = true := by kernel_rfl
theorem cb201 : callB Try.prog 201 = true := by kernel_rfl
theorem cb202 : callB Try.prog 202 = true := by kernel_rfl
theorem cb203 : callB Try.prog 203 = true := by kernel_rfl
theorem cb204 : callB Try.prog 204 = true := by kernel_rfl
theorem cb205 : callB Try.prog 205 = true := by kernel_rfl
theorem cb206 : callB Try.prog 206 = true := by kernel_rfl
theorem cb207 : callB Try.prog 207 = true := by kernel_rfl
theorem cb210 : callB Try.prog 210 = true := by kernel_rfl
theorem cb212 : callB Try.prog 212 = true := by kernel_rfl
theorem cb213 : callB Try.prog 213 = true := by kernel_rfl
theorem cb217 : callB Try.prog 217 = true := by kernel_rfl
theorem cb219 : callB Try.prog 219 = true := by kernel_rfl
theorem cb220 : callB Try.prog 220 = true := by kernel_rfl
theorem cb221 : callB Try.prog 221 = true := by kernel_rfl
theorem cb222 : callB Try.prog 222 = true := by kernel_rfl
theorem cb223 : callB Try.prog 223 = true := by kernel_rfl
theorem cb224 : callB Try.prog 224 = true := by kernel_rfl
theorem cb235 : callB Try.prog 235 = true := by kernel_rfl
theorem cb241 : callB Try.prog 241 = true := by kernel_rfl
theorem cb247 : callB Try.prog 247 = true := by kernel_rfl
theorem cb249 : callB Try.prog 249 = true := by kernel_rfl
theorem cb29 : callB Try.prog 29 = true := by kernel_rfl
theorem cb51 : callB Try.prog 51 = true := by kernel_rfl
theorem cb52 : callB Try.prog 52 = true := by kernel_rfl
theorem cb53 : callB Try.prog 53 = true := by kernel_rfl
theorem cb54 : callB Try.prog 54 = true := by kernel_rfl
theorem cb55 : callB Try.prog 55 = true := by kernel_rfl
theorem cb56 : callB Try.prog 56 = true := by kernel_rfl
theorem cb57 : callB Try.prog 57 = true := by kernel_rfl
theorem cb58 : callB Try.prog 58 = true := by kernel_rfl
theorem cb59 : callB Try.prog 59 = true := by kernel_rfl
theorem cb60 : callB Try.prog 60 = true := by kernel_rfl
theorem cb61 : callB Try.prog 61 = true := by kernel_rfl
theorem cb62 : callB Try.prog 62 = true := by kernel_rfl
theorem cb63 : callB Try.prog 63 = true := by kernel_rfl
theorem cb64 : callB Try.prog 64 = true := by kernel_rfl
theorem cb65 : callB Try.prog 65 = true := by kernel_rfl
theorem cb66 : callB Try.prog 66 = true := by kernel_rfl
theorem cb67 : callB Try.prog 67 = true := by kernel_rfl
theorem cb68 : callB Try.prog 68 = true := by kernel_rfl
theorem cb69 : callB Try.prog 69 = true := by kernel_rfl
theorem cb70 : callB Try.prog 70 = true := by kernel_rfl
theorem cb71 : callB Try.prog 71 = true := by kernel_rfl
theorem cb72 : callB Try.prog 72 = true := by kernel_rfl
theorem cb73 : callB Try.prog 73 = true := by kernel_rfl
theorem cb74 : callB Try.prog 74 = true := by kernel_rfl
theorem el170 : elB Try.prog 170 = some 4 := by kernel_rfl
theorem el30 : elB Try.prog 30 = some 112 := by kernel_rfl
theorem el45 : elB Try.prog 45 = some 3 := by kernel_rfl
theorem el55 : elB Try.prog 55 = some 5 := by kernel_rfl
theorem el65 : elB Try.prog 65 = some 45 := by kernel_rfl
theorem fo112_0 : foB Try.prog 112 0 = some 0 := by kernel_rfl
theorem fo112_1 : foB Try.prog 112 1 = some 1 := by kernel_rfl
theorem fo133_0 : foB Try.prog 133 0 = some 0 := by kernel_rfl
theorem fo133_1 : foB Try.prog 133 1 = some 1 := by kernel_rfl
theorem fo133_2 : foB Try.prog 133 2 = some 2 := by kernel_rfl
theorem fo139_0 : foB Try.prog 139 0 = some 0 := by kernel_rfl
theorem fo139_1 : foB Try.prog 139 1 = some 1 := by kernel_rfl
theorem fo139_2 : foB Try.prog 139 2 = some 2 := by kernel_rfl
theorem fo32_0 : foB Try.prog 32 0 = some 0 := by kernel_rfl
theorem fo32_1 : foB Try.prog 32 1 = some 1 := by kernel_rfl
theorem inf112 : (Try.prog.info? 112).isSome = true := by kernel_rfl
theorem inf133 : (Try.prog.info? 133).isSome = true := by kernel_rfl
theorem inf3 : (Try.prog.info? 3).isSome = true := by kernel_rfl
theorem inf30 : (Try.prog.info? 30).isSome = true := by kernel_rfl
theorem inf32 : (Try.prog.info? 32).isSome = true := by kernel_rfl
theorem inf4 : (Try.prog.info? 4).isSome = true := by kernel_rfl
theorem inf45 : (Try.prog.info? 45).isSome = true := by kernel_rfl
theorem ist112 : istB Try.prog 112 = some 2 := by kernel_rfl
theorem map200 : mapB Try.prog 200 = some (3, 3) := by kernel_rfl
theorem mixed : Try.prog.follows .mixedOrders = true := by kernel_rfl
theorem pl112 : plB Try.prog 112 = some [(0, 1), (1, 1)] := by kernel_rfl
theorem pl133 : plB Try.prog 133 = some [(0, 1), (1, 1), (2, 1)] := by kernel_rfl
theorem pl139 : plB Try.prog 139 = some [(0, 1), (1, 1), (2, 1)] := by kernel_rfl
theorem pl32 : plB Try.prog 32 = some [(0, 1), (1, 1)] := by kernel_rfl
theorem sz112 : szP Try.prog 112 = 2 := by kernel_rfl
theorem sz133 : szP Try.prog 133 = 3 := by kernel_rfl
theorem sz139 : szP Try.prog 139 = 3 := by kernel_rfl
theorem sz3 : szP Try.prog 3 = 1 := by kernel_rfl
theorem sz30 : szP Try.prog 30 = 1 := by kernel_rfl
theorem sz32 : szP Try.prog 32 = 2 := by kernel_rfl
theorem sz4 : szP Try.prog 4 = 1 := by kernel_rfl
theorem sz45 : szP Try.prog 45 = 1 := by kernel_rfl
theorem sz5 : szP Try.prog 5 = 1 := by kernel_rfl
theorem ti112 : TI Try.prog 112 (.agg #[(.int .i64 0), (.int .i64 0)]) 2 16 := by unfold TI; kernel_rfl
theorem ti133 : TI Try.prog 133 (.agg #[(.slice none 0 0), (.slice none 0 0), (.slice none 0 0)]) 3 72 := by unfold TI; kernel_rfl
theorem ti139 : TI Try.prog 139 (.agg #[(.slice none 0 0), (.int .i64 0), (.int .i64 0)]) 3 40 := by unfold TI; kernel_rfl
theorem ti3 : TI Try.prog 3 (.int .i64 0) 1 8 := by unfold TI; kernel_rfl
theorem ti32 : TI Try.prog 32 (.agg #[(.int .i64 0), (.slice none 0 0)]) 2 32 := by unfold TI; kernel_rfl
theorem ti4 : TI Try.prog 4 (.bool false) 1 1 := by unfold TI; kernel_rfl
theorem ti45 : TI Try.prog 45 (.slice none 0 0) 1 24 := by unfold TI; kernel_rfl
theorem und170 : Try.prog.underlying 170 = some (.slice 4) := by kernel_rfl
theorem und3 : Try.prog.underlying 3 = some (.int .i64) := by kernel_rfl
theorem und30 : Try.prog.underlying 30 = some (.slice 112) := by kernel_rfl
theorem und4 : Try.prog.underlying 4 = some .bool := by kernel_rfl
theorem und45 : Try.prog.underlying 45 = some (.slice 3) := by kernel_rfl
theorem und55 : Try.prog.underlying 55 = some (.slice 5) := by kernel_rfl
theorem und65 : Try.prog.underlying 65 = some (.slice 45) := by kernel_rfl
theorem undS5 : (Try.prog.underlying 5).isSome = true := by kernel_rfl
end Go.Proofs.Yteognanhfpbghaa
end
section
set_option linter.unusedVariables false
set_option linter.unusedSimpArgs false
set_option linter.unnecessarySimpa false
set_option maxRecDepth 100000
set_option maxHeartbeats 8000000
open Go Go.Fw
namespace Go.Proofs.Yteognanhfpbghaa
theorem w_spec_l1In (x : Int) (low : Int) (high : Int) : ∀ t,m_spec_l1In x low high = some t → Fw.Fn Try.prog 111 [(.c (iC x)),(.c (iC low)),(.c (iC high))] [] (.s (.c (bC t))) [] [] [] := by
 refine Fw.Fn.of (P := Try.prog) (X := []) (pn := []) (rs := (fun (t : Bool) => [(.c (bC t))])) (dfs := (fun (t : Bool) => [])) Try.func111 Q Try.ntmps111 (K Q) Q ?_
 intro w0 U0 R0 g0
 unfold m_spec_l1In
 refine Ws (Wr ?_)
 refine asg (Bv false) Q y2 Q Q (On (Ws ?_))
 refine AWR.joinK (fun j2 => ([(6,(Bv j2))],[])) ?_ (fun j2 _ => ?_)
 ·refine Wr (mv (Iv x) Q Q Q Q (mv (Iv low) Q Q Q Q (Op20 (LT.geq Q) Q Q Q Q (mv (Bv (decide (low ≤ x))) Q Q Q Q (AOR.split (fun hb3 => ?_) (fun hb3 => ?_))))))
  ·refine mv (Iv x) Q Q (gH hb3 Q Q) Q (mv (Iv high) Q Q (gH hb3 Q Q) Q (Op20 (LT.leq Q) Q Q (gH hb3 Q Q) Q (Op20 (LT.pickT (v := (Bv (decide (x ≤ high)))) Q hb3) Q Q Q Q (asg (Bv (decide (x ≤ high))) Q Q Q Q (On (AWR.nil ⟨Q,Ent.of z1 J⟩))))))
  ·refine Ok Q Q Q (by rw [hb3]; rfl) Q (Ok Q Q Q (by rw [hb3]; rfl) Q (Ok Q Q Q (by rw [hb3]; rfl) Q (Op20 (LT.pickF (v := (Bv false)) Q hb3) Q y2 Q Q (asg (Bv false) Q Q Q Q (On (AWR.nil ⟨Q,Ent.of z1 J⟩))))))
 ·refine AWR.ret (FPost.mk (.inr Q) z1 J Q ⟨PermP.sc,J⟩ J)
theorem w_spec_l2After (a : TBar) (b : TBar) : ∀ t,m_spec_l2After a b = some t → Fw.Fn Try.prog 139 [(.agg [(iC a.A),(iC a.B)]),(.agg [(iC b.A),(iC b.B)])] [] (.s (.c (bC t))) [] [] [] := by
 refine Fw.Fn.of (P := Try.prog) (X := []) (pn := []) (rs := (fun (t : Bool) => [(.c (bC t))])) (dfs := (fun (t : Bool) => [])) Try.func139 Q Try.ntmps139 (K Q) Q ?_
 intro w0 U0 R0 g0
 unfold m_spec_l2After
 refine Ws (Wr ?_)
 refine Os10 (LT.box (n := 21) (v := (.agg [(iC a.A),(iC a.B)])) Q sz112 (by exact Q)) Q Q Q (Os10 (LT.box (n := 22) (v := (.agg [(iC b.A),(iC b.B)])) Q sz112 (by exact Q)) Q Q Q (asg (Bv false) Q y2 Q Q (On (Ws ?_))))
 refine AWR.joinK (fun j3 => ([(4,(Bv j3))],[])) ?_ (fun j3 _ => ?_)
 ·refine Wr (Op10 (LT.fieldPl Q fo112_0) Q Q Q (Op11 (LT.bload1 (c := (iC a.A)) Q ag3 (by exact Q)) Q Q Q Q (Op10 (LT.fieldPl Q fo112_0) Q Q Q (Op11 (LT.bload1 (c := (iC b.A)) Q ag3 (by exact Q)) Q Q Q Q (Op20 (LT.lss Q) Q Q Q Q (mv (Bv (decide (a.A < b.A))) Q Q Q Q (AOR.split (fun hb4 => ?_) (fun hb4 => ?_))))))))
  ·refine Ok Q Q Q (by rw [hb4]; rfl) Q (Ok Q Q Q (by rw [hb4]; rfl) Q (Ok Q Q Q (by rw [hb4]; rfl) Q (Ok Q Q Q (by rw [hb4]; rfl) Q (Ok Q Q Q (by rw [hb4]; rfl) Q (Ok Q Q Q (by rw [hb4]; rfl) Q (Oj Q Q Q Q (Oj Q Q Q Q (Oj Q Q Q Q (Oj Q Q Q Q (Oj Q Q Q Q (Ok Q Q Q (by rw [hb4]; rfl) Q ?_)))))))))))
   refine Op20 (LT.pickT (v := (Bv true)) Q hb4) Q y2 Q Q (asg (Bv true) Q Q Q Q (On (AWR.nil ⟨Q,Ent.of z1 J⟩)))
  ·refine Op10 (LT.fieldPl Q fo112_0) Q (gH hb4 Q Q) Q (Op11 (LT.bload1 (c := (iC a.A)) Q ag3 (by exact Q)) Q Q (gH hb4 Q Q) Q (Op10 (LT.fieldPl Q fo112_0) Q (gH hb4 Q Q) Q (Op11 (LT.bload1 (c := (iC b.A)) Q ag3 (by exact Q)) Q Q (gH hb4 Q Q) Q (Op20 (LT.eql Q) Q Q (gH hb4 Q Q) Q (mv (Bv (a.A == b.A)) Q Q (gH hb4 Q Q) Q (AOR.split (fun hb5 => ?_) (fun hb5 => ?_)))))))
   ·refine Op10 (LT.fieldPl Q fo112_1) Q (gH hb5 Q Q) Q (Op11 (LT.bload1 (c := (iC a.B)) Q ag3 (by exact Q)) Q Q (gH hb5 Q Q) Q (Op10 (LT.fieldPl Q fo112_1) Q (gH hb5 Q Q) Q (Op11 (LT.bload1 (c := (iC b.B)) Q ag3 (by exact Q)) Q Q (gH hb5 Q Q) Q (Op20 (LT.leq Q) Q Q (gH hb5 Q Q) Q (Op20 (LT.pickT (v := (Bv (decide (a.B ≤ b.B)))) Q hb5) Q Q (gH hb4 Q Q) Q (Op20 (LT.pickF (v := (Bv (decide (a.B ≤ b.B)))) Q hb4) Q Q Q Q (asg (Bv (decide (a.B ≤ b.B))) Q Q Q Q (On (AWR.nil ⟨Q,Ent.of z1 J⟩)))))))))
   ·refine Ok Q Q Q (by rw [hb5]; rfl) Q (Ok Q Q Q (by rw [hb5]; rfl) Q (Ok Q Q Q (by rw [hb5]; rfl) Q (Ok Q Q Q (by rw [hb5]; rfl) Q (Ok Q Q Q (by rw [hb5]; rfl) Q (Op20 (LT.pickF (v := (Bv false)) Q hb5) Q y2 (gH hb4 Q Q) Q (Op20 (LT.pickF (v := (Bv false)) Q hb4) Q Q Q Q (asg (Bv false) Q Q Q Q (On (AWR.nil ⟨Q,Ent.of z1 J⟩)))))))))
 ·refine AWR.ret (FPost.mk (.inr Q) z1 J Q ⟨PermP.sc,J⟩ J)
theorem w_impl_within (x : Int) (loV : Int) (hi : Int) : ∀ t,m_impl_within x loV hi = some t → Fw.Fn Try.prog 113 [(.c (iC x)),(.c (iC loV)),(.c (iC hi))] [] (.s (.c (bC t))) [] [] [] := by
 refine Fw.Fn.of (P := Try.prog) (X := []) (pn := []) (rs := (fun (t : Bool) => [(.c (bC t))])) (dfs := (fun (t : Bool) => [])) Try.func113 Q Try.ntmps113 (K Q) Q ?_
 intro w0 U0 R0 g0
 unfold m_impl_within
 refine Ws (Wr ?_)
 refine asg (Bv false) Q y2 Q Q (On (Ws ?_))
 refine AWR.joinK (fun j2 => ([(6,(Bv j2))],[])) ?_ (fun j2 _ => ?_)
 ·refine Wr (mv (Iv x) Q Q Q Q (mv (Iv loV) Q Q Q Q (Op20 (LT.geq Q) Q Q Q Q (mv (Bv (decide (loV ≤ x))) Q Q Q Q (AOR.split (fun hb3 => ?_) (fun hb3 => ?_))))))
  ·refine mv (Iv x) Q Q (gH hb3 Q Q) Q (mv (Iv hi) Q Q (gH hb3 Q Q) Q (Op20 (LT.leq Q) Q Q (gH hb3 Q Q) Q (Op20 (LT.pickT (v := (Bv (decide (x ≤ hi)))) Q hb3) Q Q Q Q (asg (Bv (decide (x ≤ hi))) Q Q Q Q (On (AWR.nil ⟨Q,Ent.of z1 J⟩))))))
  ·refine Ok Q Q Q (by rw [hb3]; rfl) Q (Ok Q Q Q (by rw [hb3]; rfl) Q (Ok Q Q Q (by rw [hb3]; rfl) Q (Op20 (LT.pickF (v := (Bv false)) Q hb3) Q y2 Q Q (asg (Bv false) Q Q Q Q (On (AWR.nil ⟨Q,Ent.of z1 J⟩))))))
 ·refine AWR.ret (FPost.mk (.inr Q) z1 J Q ⟨PermP.sc,J⟩ J)
theorem w_impl_compareInts (a : Int) (b : Int) : ∀ t,m_impl_compareInts a b = some t → Fw.Fn Try.prog 210 [(.c (iC a)),(.c (iC b))] [] (.s (.c (iC t))) [] [] [] := by
 refine Fw.Fn.of (P := Try.prog) (X := []) (pn := []) (rs := (fun (t : Int) => [(.c (iC t))])) (dfs := (fun (t : Int) => [])) Try.func210 Q Try.ntmps210 (K Q) Q ?_
 intro w0 U0 R0 g0
 unfold m_impl_compareInts
 refine Ws (Wr ?_)
 refine asg (Iv 0) Q y2 Q Q (On (Ws (AWR.block (Ws (Wr ?_)))))
 refine mv (Iv a) Q Q Q Q (mv (Iv b) Q Q Q Q (Op20 (LT.lss Q) Q Q Q Q (asg (Bv (decide (a < b))) Q Q Q Q (On (AWR.cond Q (fun hc1 => ?_) (fun hc1 => ?_))))))
 ·refine Ws (Wr ?_)
  refine asg (Iv (-1)) Q y2 Q Q (On (AWR.ret (FPost.mk (.inr Q) z1 J Q ⟨PermP.sc,J⟩ J)))
 ·refine Ws (Wr ?_)
  refine mv (Iv a) Q Q Q Q (mv (Iv b) Q Q Q Q (Op20 (LT.gtr Q) Q Q Q Q (asg (Bv (decide (b < a))) Q Q Q Q (On (AWR.cond Q (fun hc2 => ?_) (fun hc2 => ?_))))))
  ·refine Ws (Wr ?_)
   refine asg (Iv 1) Q y2 Q Q (On (AWR.ret (FPost.mk (.inr Q) z1 J Q ⟨PermP.sc,J⟩ J)))
  ·refine AWR.skip (AWR.blk (Ws (Wr ?_)))
   refine asg (Iv 0) Q y2 Q Q (On (AWR.ret (FPost.mk (.inr Q) z1 J Q ⟨PermP.sc,J⟩ J)))
theorem w_impl_compareBars (x : TBar) (y : TBar) : ∀ t,m_impl_compareBars x y = some t → Fw.Fn Try.prog 175 [(.agg [(iC x.A),(iC x.B)]),(.agg [(iC y.A),(iC y.B)])] [] (.s (.c (iC t))) [] [] [] := by
 refine Fw.Fn.of (P := Try.prog) (X := []) (pn := []) (rs := (fun (t : Int) => [(.c (iC t))])) (dfs := (fun (t : Int) => [])) Try.func175 Q Try.ntmps175 (K Q) Q ?_
 intro w0 U0 R0 g0
 unfold m_impl_compareBars
 refine Ws (Wr ?_)
 refine Os10 (LT.box (n := 21) (v := (.agg [(iC x.A),(iC x.B)])) Q sz112 (by exact Q)) Q Q Q (Os10 (LT.box (n := 22) (v := (.agg [(iC y.A),(iC y.B)])) Q sz112 (by exact Q)) Q Q Q (asg (Iv 0) Q y2 Q Q (On (Ws (Ws (Wr ?_))))))
 refine Op10 (LT.fieldPl Q fo112_0) Q Q Q (Op11 (LT.bload1 (c := (iC x.A)) Q ag3 (by exact Q)) Q Q Q Q (Op10 (LT.fieldPl Q fo112_0) Q Q Q (Op11 (LT.bload1 (c := (iC y.A)) Q ag3 (by exact Q)) Q Q Q Q (Ob' fun r1 hr1 => (AOR.pure (@LT.callF Try.prog _ _ 210 _ _ [(.c (iC x.A)),(.c (iC y.A))] _ _ [] _ _ _ _ (w_impl_compareInts x.A y.A r1 hr1) Q cb210 (.cons (.c (.same Q)) (.cons (.c (.same Q)) .nil)) Q Q J) z3 J Q Q (asg (Iv r1) Q Q Q Q (On (Ws ?_))))))))
 refine en [(2,(Cc (.pl 21 0))),(3,(Cc (.pl 22 0))),(5,(Iv r1))] [(21,(.row 112 [[(iC x.A),(iC x.B)]])),(22,(.row 112 [[(iC y.A),(iC y.B)]]))] z3 z2 (Wr (mv (Iv r1) Q Q Q Q (Op20 (LT.neq Q) Q y2 Q Q (On (AWR.cond Q (fun hc2 => ?_) (fun hc2 => ?_))))))
 ·refine Ws (Wr ?_)
  refine mv (Iv r1) Q Q Q Q (asg (Iv r1) Q Q Q Q (On (AWR.ret (FPost.mk (.inr Q) z1 J Q ⟨PermP.sc,J⟩ J))))
 ·refine AWR.skip (Ws (Wr ?_))
  refine Op10 (LT.fieldPl Q fo112_1) Q Q Q (Op11 (LT.bload1 (c := (iC x.B)) Q ag3 (by exact Q)) Q Q Q Q (Op10 (LT.fieldPl Q fo112_1) Q Q Q (Op11 (LT.bload1 (c := (iC y.B)) Q ag3 (by exact Q)) Q Q Q Q (Ob' fun r3 hr3 => (AOR.pure (@LT.callF Try.prog _ _ 210 _ _ [(.c (iC x.B)),(.c (iC y.B))] _ _ [] _ _ _ _ (w_impl_compareInts x.B y.B r3 hr3) Q cb210 (.cons (.c (.same Q)) (.cons (.c (.same Q)) .nil)) Q Q J) z3 J Q Q (asg (Iv r3) Q Q Q Q (On (AWR.ret (FPost.mk (.inr Q) z1 J Q ⟨PermP.sc,J⟩ J)))))))))
end Go.Proofs.Yteognanhfpbghaa
end
section
set_option linter.unusedVariables false
set_option linter.unusedSimpArgs false
set_option linter.unnecessarySimpa false
set_option maxRecDepth 100000
set_option maxHeartbeats 8000000
open Go Go.Fw
namespace Go.Proofs.Yteognanhfpbghaa
theorem w_spec_IsGraph (g : TGraph) : ∀ t,m_spec_IsGraph g = some t → Fw.Fn Try.prog 61 [(.agg [(iC g.Points),(xF encTBar g.Bars)])] [] (.s (.c (bC t))) [] [] [] := by
 refine Fw.Fn.of (P := Try.prog) (X := []) (pn := []) (rs := (fun (t : Bool) => [(.c (bC t))])) (dfs := (fun (t : Bool) => [])) Try.func61 Q Try.ntmps61 (K Q) Q ?_
 intro w0 U0 R0 g0
 unfold m_spec_IsGraph
 refine Ws (Wr ?_)
 refine Os10 (LT.box (n := 21) (v := (.agg [(iC g.Points),(xF encTBar g.Bars)])) Q sz32 (by exact Q)) Q Q Q (asg (Bv false) Q y2 Q Q (On (Ws (Ws ?_))))
 refine AWR.joinK (fun j3 => ([(1,(Cc (.pl 21 0))),(14,(Bv j3))],[(21,(.row 32 [[(iC g.Points),(xF encTBar g.Bars)]]))])) ?_ (fun j3 _ => ?_)
 ·refine Wr (Op10 (LT.fieldPl Q fo32_0) Q Q Q (Op11 (LT.bload1 (c := (iC g.Points)) Q ag3 (by exact Q)) Q Q Q Q (Ob' fun r4 hr4 => (AOR.pure (@LT.callF Try.prog _ _ 111 _ _ [(.c (iC g.Points)),(.c (iC 1)),(.c (iC 8))] _ _ [] _ _ _ _ (w_spec_l1In g.Points 1 8 r4 hr4) Q cb111 (.cons (.c (.same Q)) (.cons (.c (.same Q)) (.cons (.c (.same Q)) .nil))) Q Q J) ⟨Q,Q,y2,y2,J⟩ J Q Q (Op10 (LT.not Q) Q Q Q (mv (Bv (!r4)) Q Q Q Q (AOR.split (fun hb5 => ?_) (fun hb5 => ?_))))))))
  ·refine Ok Q Q Q (by rw [hb5]; rfl) Q (Ok Q Q Q (by rw [hb5]; rfl) Q (Ok Q Q Q (by rw [hb5]; rfl) Q (Ok Q Q Q (by rw [hb5]; rfl) Q (Op20 (LT.pickT (v := (Bv true)) Q hb5) Q y2 Q Q (On (AWR.nil ⟨Q,Ent.of z2 z1⟩))))))
  ·refine Op10 (LT.fieldPl Q fo32_1) Q (gH hb5 Q Q) Q (Op11 (LT.bload1 (c := (xF encTBar g.Bars)) Q ag30 (by exact Q)) Q Q (gH hb5 Q Q) Q (Op10 (LT.tlenRO Q und30) Q (gH hb5 Q Q) Q (Op20 (LT.gtr Q) Q y2 (gH hb5 Q Q) Q (Op20 (LT.pickF (v := (Bv (decide (24 < (g.Bars.length : Int))))) Q hb5) Q Q Q Q (On (AWR.nil ⟨Q,Ent.of z2 z1⟩))))))
 ·refine AWR.cond Q (fun hc6 => ?_) (fun hc6 => ?_)
  ·refine Ws (Wr ?_)
   refine asg (Bv false) Q y2 Q Q (On (AWR.ret (FPost.mk (.inr Q) z1 J Q ⟨PermP.sc,J⟩ J)))
  ·refine AWR.skip (Ws (Ws (Wr ?_)))
   refine asg (Iv 0) Q y2 Q Q (On (AWR.block ?_))
   refine AWR.loopR (id := 0) (m_spec_IsGraph_L1 g) (fun s7 => ([(1,(Cc (.pl 21 0))),(3,(Iv s7))],[(21,(.row 32 [[(iC g.Points),(xF encTBar g.Bars)]]))])) (fun b40 => ([],[])) (FPost Try.prog Try.f61.results.toList [] [] (fun (t : Bool) => [(.c (bC t))]) (fun (t : Bool) => [])) ?_ (Ent.of z2 z1) Q (fun b40 _ => ?_) (by intro r t σ m ht hk; injection ht with ht; subst ht; exact hk)
   ·intro s7
    unfold m_spec_IsGraph_L1
    refine Ws (Ws (Wr ?_))
    refine mv (Iv s7) Q Q Q Q (Op10 (LT.fieldPl Q fo32_1) Q Q Q (Op11 (LT.bload1 (c := (xF encTBar g.Bars)) Q ag30 (by exact Q)) Q Q Q Q (Op10 (LT.tlenRO Q und30) Q Q Q (Op20 (LT.lss Q) Q Q Q Q (On (AWR.cond Q (fun hc41 => ?_) (fun hc41 => ?_)))))))
    ·refine AWR.skip (Ws (AWR.block (Ws (Wr ?_))))
     refine Op10 (LT.fieldPl Q fo32_1) Q Q Q (Op11 (LT.bload1 (c := (xF encTBar g.Bars)) Q ag30 (by exact Q)) Q Q Q Q (mv (Iv s7) Q Q Q Q (Ob' fun x42 hx42 => (Op20 (LT.tindexRO (enc := encTBar) Q el30 hx42 sz112) Q Q Q Q (Op10 (LT.loadPxN Q ag112 (infS inf112) (by exact sz112.symm)) Q Q Q (Os00 (LT.alloc (n := 23) (cells := [(iC 0),(iC 0)]) Q ti112 Q Q Q) Q Q (Os21 (LT.bstore (v := (.agg [(iC x42.A),(iC x42.B)])) (out := [(iC x42.A),(iC x42.B)]) Q Q (infS inf112) sz112 (by exact Q) (by exact K Q) (by exact Q)) Q Q Q Q Q (On (Ws ?_)))))))))
     refine AWR.joinK (fun j49 => ([(1,(Cc (.pl 21 0))),(3,(Iv s7)),(58,(Bv j49))],[(21,(.row 32 [[(iC g.Points),(xF encTBar g.Bars)]]))])) ?_ (fun j49 _ => ?_)
     ·refine en [(1,(Cc (.pl 21 0))),(3,(Iv s7)),(4,(Cc (.pl 23 0)))] [(21,(.row 32 [[(iC g.Points),(xF encTBar g.Bars)]])),(23,(.row 112 [[(iC x42.A),(iC x42.B)]]))] z3 z2 (AWR.draw mixed (Dp10 (LT.fieldPl Q fo112_0) Q Q Q (Dp11 (LT.bload1 (c := (iC x42.A)) Q ag3 (by exact Q)) Q Q Q Q (Dp20 (LT.lss Q) Q y2 Q Q (Dp10 (LT.move (v := (Bv (decide (x42.A < 0)))) Q) Q Q Q (AOD.split (fun hb50 => ?_) (fun hb50 => ?_)))))))
      ·refine AOD.skip (gH hb50 Q Q) Q (AOD.skip (gH hb50 Q Q) Q (AOD.skip (gH hb50 Q Q) Q (AOD.skip (gH hb50 Q Q) Q (AOD.skip (gH hb50 Q Q) Q (Dp20 (LT.pickT (v := (Bv true)) Q hb50) Q y2 Q Q (Dp10 (LT.move (v := (Bv true)) Q) Q Q Q (AOD.skip (gS Q Q) Q (AOD.skip (gS Q Q) Q (AOD.skip (gS Q Q) Q (AOD.skip (gS Q Q) Q (AOD.skip (gS Q Q) Q ?_)))))))))))
       refine Dp20 (LT.pickT (v := (Bv true)) Q Q) Q y2 Q Q (Dp10 (LT.move (v := (Bv true)) Q) Q Q Q (AOD.skip (gS Q Q) Q (AOD.skip (gS Q Q) Q (AOD.skip (gS Q Q) Q (AOD.skip (gS Q Q) Q (AOD.skip (gS Q Q) Q (AOD.skip (gS Q Q) Q (AOD.skip (gS Q Q) Q (AOD.skip (gS Q Q) Q (AOD.skip (gS Q Q) Q (AOD.skip (gS Q Q) Q ?_)))))))))))
       refine AOD.skip (gS Q Q) Q (AOD.skip (gS Q Q) Q (AOD.skip (gS Q Q) Q (Dp20 (LT.pickT (v := (Bv true)) Q Q) Q y2 Q Q (AOD.nil (by kernel_rfl) (AWR.nil ⟨Q,Ent.of z3 z1⟩)))))
      ·refine Dp10 (LT.fieldPl Q fo112_0) Q (gH hb50 Q Q) Q (Dp11 (LT.bload1 (c := (iC x42.A)) Q ag3 (by exact Q)) Q Q (gH hb50 Q Q) Q (Dp10 (LT.fieldPl Q fo112_1) Q (gH hb50 Q Q) Q (Dp11 (LT.bload1 (c := (iC x42.B)) Q ag3 (by exact Q)) Q Q (gH hb50 Q Q) Q (Dp20 (LT.geq Q) Q Q (gH hb50 Q Q) Q (Dp20 (LT.pickF (v := (Bv (decide (x42.B ≤ x42.A)))) Q hb50) Q Q Q Q (Dp10 (LT.move (v := (Bv (decide (x42.B ≤ x42.A)))) Q) Q Q Q (AOD.split (fun hb51 => ?_) (fun hb51 => ?_))))))))
       ·refine AOD.skip (gH hb51 Q Q) Q (AOD.skip (gH hb51 Q Q) Q (AOD.skip (gH hb51 Q Q) Q (AOD.skip (gH hb51 Q Q) Q (AOD.skip (gH hb51 Q Q) Q (Dp20 (LT.pickT (v := (Bv true)) Q hb51) Q y2 Q Q (Dp10 (LT.move (v := (Bv true)) Q) Q Q Q (AOD.skip (gS Q Q) Q (AOD.skip (gS Q Q) Q (AOD.skip (gS Q Q) Q (AOD.skip (gS Q Q) Q (AOD.skip (gS Q Q) Q ?_)))))))))))
        refine AOD.skip (gS Q Q) Q (AOD.skip (gS Q Q) Q (AOD.skip (gS Q Q) Q (AOD.skip (gS Q Q) Q (AOD.skip (gS Q Q) Q (AOD.skip (gS Q Q) Q (AOD.skip (gS Q Q) Q (AOD.skip (gS Q Q) Q (Dp20 (LT.pickT (v := (Bv true)) Q Q) Q y2 Q Q (AOD.nil (by kernel_rfl) (AWR.nil ⟨Q,Ent.of z3 z1⟩))))))))))
       ·refine Dp10 (LT.fieldPl Q fo112_1) Q (gH hb51 Q Q) Q (Dp11 (LT.bload1 (c := (iC x42.B)) Q ag3 (by exact Q)) Q Q (gH hb51 Q Q) Q (Dp10 (LT.fieldPl Q fo32_0) Q (gH hb51 Q Q) Q (Dp11 (LT.bload1 (c := (iC g.Points)) Q ag3 (by exact Q)) Q Q (gH hb51 Q Q) Q (Dp20 (LT.geq Q) Q Q (gH hb51 Q Q) Q (Dp20 (LT.pickF (v := (Bv (decide (g.Points ≤ x42.B)))) Q hb51) Q Q Q Q (Dp10 (LT.move (v := (Bv (decide (g.Points ≤ x42.B)))) Q) Q Q Q (AOD.split (fun hb52 => ?_) (fun hb52 => ?_))))))))
        ·refine AOD.skip (gH hb52 Q Q) Q (AOD.skip (gH hb52 Q Q) Q (AOD.skip (gH hb52 Q Q) Q (AOD.skip (gS Q Q) Q (AOD.skip (gS Q Q) Q (AOD.skip (gS Q Q) Q (AOD.skip (gS Q Q) Q (AOD.skip (gS Q Q) Q (AOD.skip (gS Q Q) Q (AOD.skip (gS Q Q) Q (AOD.skip (gS Q Q) Q (AOD.skip (gS Q Q) Q ?_)))))))))))
         refine AOD.skip (gH hb52 Q Q) Q (Dp20 (LT.pickT (v := (Bv true)) Q hb52) Q y2 Q Q (AOD.nil (by kernel_rfl) (AWR.nil ⟨Q,Ent.of z3 z1⟩)))
        ·refine Dp10 (LT.move (v := (Iv s7)) Q) Q (gH hb52 Q Q) Q (Dp20 (LT.gtr Q) Q y2 (gH hb52 Q Q) Q (Dp10 (LT.move (v := (Bv (decide (0 < s7)))) Q) Q (gH hb52 Q Q) Q (AOD.split (fun hb53 => ?_) (fun hb53 => ?_))))
         ·refine Dp10 (LT.fieldPl Q fo32_1) Q (gH hb53 Q Q) Q (Dp11 (LT.bload1 (c := (xF encTBar g.Bars)) Q ag30 (by exact Q)) Q Q (gH hb53 Q Q) Q (Dp10 (LT.move (v := (Iv s7)) Q) Q (gH hb53 Q Q) Q (Dp20 (LT.sub Q) Q y2 (gH hb53 Q Q) Q (AOD.bind fun x54 hx54 => (Dp20 (LT.tindexRO (enc := encTBar) Q el30 hx54 sz112) Q Q (gH hb53 Q Q) Q (Dp10 (LT.loadPxN Q ag112 (infS inf112) (by exact sz112.symm)) Q (gH hb53 Q Q) Q (Dp11 (LT.bloadN (out := [(iC x42.A),(iC x42.B)]) Q ag112 (infS inf112) sz112 (by exact Q) (by exact Q)) Q Q (gH hb53 Q Q) Q (AOD.bind fun r55 hr55 => (AOD.pure (@LT.callF Try.prog _ _ 139 _ _ [(.agg [(iC x54.A),(iC x54.B)]),(.agg [(iC x42.A),(iC x42.B)])] _ _ [] _ _ _ _ (w_spec_l2After x54 x42 r55 hr55) Q cb139 (.cons (.agg (.cons (.same Q) (.cons (.same Q) .nil))) (.cons (.agg (.cons (.same Q) (.cons (.same Q) .nil))) .nil)) Q Q J) z3 J (gH hb53 Q Q) Q (Dp10 (LT.not Q) Q (gH hb53 Q Q) Q (Dp20 (LT.pickT (v := (Bv (!r55))) Q hb53) Q Q (gH hb52 Q Q) Q ?_)))))))))))
          refine Dp20 (LT.pickF (v := (Bv (!r55))) Q hb52) Q Q Q Q (AOD.nil (by kernel_rfl) (AWR.nil ⟨Q,Ent.of z3 z1⟩))
         ·refine AOD.skip (gH hb53 Q Q) Q (AOD.skip (gH hb53 Q Q) Q (AOD.skip (gH hb53 Q Q) Q (AOD.skip (gH hb53 Q Q) Q (AOD.skip (gH hb53 Q Q) Q (AOD.skip (gH hb53 Q Q) Q (AOD.skip (gH hb53 Q Q) Q (AOD.skip (gH hb53 Q Q) Q (AOD.skip (gH hb53 Q Q) Q (Dp20 (LT.pickF (v := (Bv false)) Q hb53) Q y2 (gH hb52 Q Q) Q (Dp20 (LT.pickF (v := (Bv false)) Q hb52) Q Q Q Q (AOD.nil (by kernel_rfl) ?_)))))))))))
          refine AWR.nil ⟨Q,Ent.of z3 z1⟩
     ·refine AWR.cond Q (fun hc56 => ?_) (fun hc56 => ?_)
      ·refine Ws (Wr ?_)
       refine asg (Bv false) Q y2 Q Q (On (AWR.ret ⟨Q,FPost.mk (.inr Q) z1 J Q ⟨PermP.sc,J⟩ J⟩))
      ·refine AWR.skip (AWR.blk (Wr ?_))
       refine mv (Iv s7) Q Q Q Q (Op20 (LT.add Q) Q y2 Q Q (asg (Iv (w64 (s7 + 1))) Q Q Q Q (On (AWR.nil ⟨Q,Ent.of z2 z1⟩))))
    ·refine AWR.exit_end Q ⟨Q,Ent.of J J⟩
   ·refine Ws (Wr ?_)
    refine asg (Bv true) Q y2 Q Q (On (AWR.ret (FPost.mk (.inr Q) z1 J Q ⟨PermP.sc,J⟩ J)))
theorem w_impl_IsGraph (g : TGraph) : ∀ t,m_impl_IsGraph g = some t → Fw.Fn Try.prog 131 [(.agg [(iC g.Points),(xF encTBar g.Bars)])] [] (.s (.c (bC t))) [] [] [] := by
 refine Fw.Fn.of (P := Try.prog) (X := []) (pn := []) (rs := (fun (t : Bool) => [(.c (bC t))])) (dfs := (fun (t : Bool) => [])) Try.func131 Q Try.ntmps131 (K Q) Q ?_
 intro w0 U0 R0 g0
 unfold m_impl_IsGraph
 refine Ws (Wr ?_)
 refine Os10 (LT.box (n := 21) (v := (.agg [(iC g.Points),(xF encTBar g.Bars)])) Q sz32 (by exact Q)) Q Q Q (asg (Bv false) Q y2 Q Q (On (Ws (Ws ?_))))
 refine AWR.joinK (fun j3 => ([(1,(Cc (.pl 21 0))),(14,(Bv j3))],[(21,(.row 32 [[(iC g.Points),(xF encTBar g.Bars)]]))])) ?_ (fun j3 _ => ?_)
 ·refine Wr (Op10 (LT.fieldPl Q fo32_0) Q Q Q (Op11 (LT.bload1 (c := (iC g.Points)) Q ag3 (by exact Q)) Q Q Q Q (Ob' fun r4 hr4 => (AOR.pure (@LT.callF Try.prog _ _ 113 _ _ [(.c (iC g.Points)),(.c (iC 1)),(.c (iC 8))] _ _ [] _ _ _ _ (w_impl_within g.Points 1 8 r4 hr4) Q cb113 (.cons (.c (.same Q)) (.cons (.c (.same Q)) (.cons (.c (.same Q)) .nil))) Q Q J) ⟨Q,Q,y2,y2,J⟩ J Q Q (Op10 (LT.not Q) Q Q Q (mv (Bv (!r4)) Q Q Q Q (AOR.split (fun hb5 => ?_) (fun hb5 => ?_))))))))
  ·refine Ok Q Q Q (by rw [hb5]; rfl) Q (Ok Q Q Q (by rw [hb5]; rfl) Q (Ok Q Q Q (by rw [hb5]; rfl) Q (Ok Q Q Q (by rw [hb5]; rfl) Q (Op20 (LT.pickT (v := (Bv true)) Q hb5) Q y2 Q Q (On (AWR.nil ⟨Q,Ent.of z2 z1⟩))))))
  ·refine Op10 (LT.fieldPl Q fo32_1) Q (gH hb5 Q Q) Q (Op11 (LT.bload1 (c := (xF encTBar g.Bars)) Q ag30 (by exact Q)) Q Q (gH hb5 Q Q) Q (Op10 (LT.tlenRO Q und30) Q (gH hb5 Q Q) Q (Op20 (LT.gtr Q) Q y2 (gH hb5 Q Q) Q (Op20 (LT.pickF (v := (Bv (decide (24 < (g.Bars.length : Int))))) Q hb5) Q Q Q Q (On (AWR.nil ⟨Q,Ent.of z2 z1⟩))))))
 ·refine AWR.cond Q (fun hc6 => ?_) (fun hc6 => ?_)
  ·refine Ws (Wr ?_)
   refine asg (Bv false) Q y2 Q Q (On (AWR.ret (FPost.mk (.inr Q) z1 J Q ⟨PermP.sc,J⟩ J)))
  ·refine AWR.skip (Ws (Ws (Wr ?_)))
   refine Op10 (LT.fieldPl Q fo32_1) Q Q Q (Op11 (LT.bload1 (c := (xF encTBar g.Bars)) Q ag30 (by exact Q)) Q Q Q Q (Op10 (LT.tlenRO Q und30) Q Q Q (mv (Iv 0) Q y2 Q Q (On (AWR.block ?_)))))
   refine AWR.loopR (id := 0) (m_impl_IsGraph_L1 g) (fun s7 => ([(1,(Cc (.pl 21 0))),(16,(Cc (xF encTBar g.Bars))),(17,(Iv (g.Bars.length : Int))),(18,(Iv s7))],[(21,(.row 32 [[(iC g.Points),(xF encTBar g.Bars)]]))])) (fun b40 => ([],[])) (FPost Try.prog Try.f131.results.toList [] [] (fun (t : Bool) => [(.c (bC t))]) (fun (t : Bool) => [])) ?_ (Ent.of z4 z1) Q (fun b40 _ => ?_) (by intro r t σ m ht hk; injection ht with ht; subst ht; exact hk)
   ·intro s7
    unfold m_impl_IsGraph_L1
    refine Ws (Wr ?_)
    refine Op20 (LT.lss Q) Q Q Q Q (On (Ws ?_))
    refine AWR.cond Q (fun hc41 => ?_) (fun hc41 => ?_)
    ·refine AWR.skip (Ws (AWR.block (Ws (Wr ?_))))
     refine mv (Iv s7) Q Q Q Q (Ob' fun x42 hx42 => (Op20 (LT.tindexRO (enc := encTBar) Q el30 hx42 sz112) Q Q Q Q (Op10 (LT.loadPxN Q ag112 (infS inf112) (by exact sz112.symm)) Q Q Q (Os00 (LT.alloc (n := 23) (cells := [(iC 0),(iC 0)]) Q ti112 Q Q Q) Q Q (asg (Iv s7) Q Q Q Q (Os21 (LT.bstore (v := (.agg [(iC x42.A),(iC x42.B)])) (out := [(iC x42.A),(iC x42.B)]) Q Q (infS inf112) sz112 (by exact Q) (by exact K Q) (by exact Q)) Q Q Q Q Q (On (Ws ?_))))))))
     refine AWR.joinK (fun j49 => ([(1,(Cc (.pl 21 0))),(16,(Cc (xF encTBar g.Bars))),(17,(Iv (g.Bars.length : Int))),(18,(Iv s7)),(54,(Bv j49))],[(21,(.row 32 [[(iC g.Points),(xF encTBar g.Bars)]]))])) ?_ (fun j49 _ => ?_)
     ·refine en [(1,(Cc (.pl 21 0))),(3,(Iv s7)),(4,(Cc (.pl 23 0))),(16,(Cc (xF encTBar g.Bars))),(17,(Iv (g.Bars.length : Int))),(18,(Iv s7))] [(21,(.row 32 [[(iC g.Points),(xF encTBar g.Bars)]])),(23,(.row 112 [[(iC x42.A),(iC x42.B)]]))] z6 z2 (AWR.draw mixed (Dp10 (LT.fieldPl Q fo112_0) Q Q Q (Dp11 (LT.bload1 (c := (iC x42.A)) Q ag3 (by exact Q)) Q Q Q Q (Dp20 (LT.lss Q) Q y2 Q Q (Dp10 (LT.move (v := (Bv (decide (x42.A < 0)))) Q) Q Q Q (AOD.split (fun hb50 => ?_) (fun hb50 => ?_)))))))
      ·refine AOD.skip (gH hb50 Q Q) Q (AOD.skip (gH hb50 Q Q) Q (AOD.skip (gH hb50 Q Q) Q (AOD.skip (gH hb50 Q Q) Q (AOD.skip (gH hb50 Q Q) Q (Dp20 (LT.pickT (v := (Bv true)) Q hb50) Q y2 Q Q (Dp10 (LT.move (v := (Bv true)) Q) Q Q Q (AOD.skip (gS Q Q) Q (AOD.skip (gS Q Q) Q (AOD.skip (gS Q Q) Q (AOD.skip (gS Q Q) Q (AOD.skip (gS Q Q) Q ?_)))))))))))
       refine Dp20 (LT.pickT (v := (Bv true)) Q Q) Q y2 Q Q (Dp10 (LT.move (v := (Bv true)) Q) Q Q Q (AOD.skip (gS Q Q) Q (AOD.skip (gS Q Q) Q (AOD.skip (gS Q Q) Q (AOD.skip (gS Q Q) Q (AOD.skip (gS Q Q) Q (AOD.skip (gS Q Q) Q (AOD.skip (gS Q Q) Q (AOD.skip (gS Q Q) Q (AOD.skip (gS Q Q) Q (AOD.skip (gS Q Q) Q ?_)))))))))))
       refine AOD.skip (gS Q Q) Q (AOD.skip (gS Q Q) Q (AOD.skip (gS Q Q) Q (Dp20 (LT.pickT (v := (Bv true)) Q Q) Q y2 Q Q (AOD.nil (by kernel_rfl) (AWR.nil ⟨Q,Ent.of z5 z1⟩)))))
      ·refine Dp10 (LT.fieldPl Q fo112_0) Q (gH hb50 Q Q) Q (Dp11 (LT.bload1 (c := (iC x42.A)) Q ag3 (by exact Q)) Q Q (gH hb50 Q Q) Q (Dp10 (LT.fieldPl Q fo112_1) Q (gH hb50 Q Q) Q (Dp11 (LT.bload1 (c := (iC x42.B)) Q ag3 (by exact Q)) Q Q (gH hb50 Q Q) Q (Dp20 (LT.geq Q) Q Q (gH hb50 Q Q) Q (Dp20 (LT.pickF (v := (Bv (decide (x42.B ≤ x42.A)))) Q hb50) Q Q Q Q (Dp10 (LT.move (v := (Bv (decide (x42.B ≤ x42.A)))) Q) Q Q Q (AOD.split (fun hb51 => ?_) (fun hb51 => ?_))))))))
       ·refine AOD.skip (gH hb51 Q Q) Q (AOD.skip (gH hb51 Q Q) Q (AOD.skip (gH hb51 Q Q) Q (AOD.skip (gH hb51 Q Q) Q (AOD.skip (gH hb51 Q Q) Q (Dp20 (LT.pickT (v := (Bv true)) Q hb51) Q y2 Q Q (Dp10 (LT.move (v := (Bv true)) Q) Q Q Q (AOD.skip (gS Q Q) Q (AOD.skip (gS Q Q) Q (AOD.skip (gS Q Q) Q (AOD.skip (gS Q Q) Q (AOD.skip (gS Q Q) Q ?_)))))))))))
        refine AOD.skip (gS Q Q) Q (AOD.skip (gS Q Q) Q (AOD.skip (gS Q Q) Q (AOD.skip (gS Q Q) Q (AOD.skip (gS Q Q) Q (AOD.skip (gS Q Q) Q (AOD.skip (gS Q Q) Q (AOD.skip (gS Q Q) Q (Dp20 (LT.pickT (v := (Bv true)) Q Q) Q y2 Q Q (AOD.nil (by kernel_rfl) (AWR.nil ⟨Q,Ent.of z5 z1⟩))))))))))
       ·refine Dp10 (LT.fieldPl Q fo112_1) Q (gH hb51 Q Q) Q (Dp11 (LT.bload1 (c := (iC x42.B)) Q ag3 (by exact Q)) Q Q (gH hb51 Q Q) Q (Dp10 (LT.fieldPl Q fo32_0) Q (gH hb51 Q Q) Q (Dp11 (LT.bload1 (c := (iC g.Points)) Q ag3 (by exact Q)) Q Q (gH hb51 Q Q) Q (Dp20 (LT.geq Q) Q Q (gH hb51 Q Q) Q (Dp20 (LT.pickF (v := (Bv (decide (g.Points ≤ x42.B)))) Q hb51) Q Q Q Q (Dp10 (LT.move (v := (Bv (decide (g.Points ≤ x42.B)))) Q) Q Q Q (AOD.split (fun hb52 => ?_) (fun hb52 => ?_))))))))
        ·refine AOD.skip (gH hb52 Q Q) Q (AOD.skip (gH hb52 Q Q) Q (AOD.skip (gH hb52 Q Q) Q (AOD.skip (gS Q Q) Q (AOD.skip (gS Q Q) Q (AOD.skip (gS Q Q) Q (AOD.skip (gS Q Q) Q (AOD.skip (gS Q Q) Q (AOD.skip (gS Q Q) Q (AOD.skip (gS Q Q) Q (AOD.skip (gS Q Q) Q (AOD.skip (gS Q Q) Q ?_)))))))))))
         refine AOD.skip (gH hb52 Q Q) Q (Dp20 (LT.pickT (v := (Bv true)) Q hb52) Q y2 Q Q (AOD.nil (by kernel_rfl) (AWR.nil ⟨Q,Ent.of z5 z1⟩)))
        ·refine Dp10 (LT.move (v := (Iv s7)) Q) Q (gH hb52 Q Q) Q (Dp20 (LT.gtr Q) Q y2 (gH hb52 Q Q) Q (Dp10 (LT.move (v := (Bv (decide (0 < s7)))) Q) Q (gH hb52 Q Q) Q (AOD.split (fun hb53 => ?_) (fun hb53 => ?_))))
         ·refine Dp10 (LT.fieldPl Q fo32_1) Q (gH hb53 Q Q) Q (Dp11 (LT.bload1 (c := (xF encTBar g.Bars)) Q ag30 (by exact Q)) Q Q (gH hb53 Q Q) Q (Dp10 (LT.move (v := (Iv s7)) Q) Q (gH hb53 Q Q) Q (Dp20 (LT.sub Q) Q y2 (gH hb53 Q Q) Q (AOD.bind fun x54 hx54 => (Dp20 (LT.tindexRO (enc := encTBar) Q el30 hx54 sz112) Q Q (gH hb53 Q Q) Q (Dp10 (LT.loadPxN Q ag112 (infS inf112) (by exact sz112.symm)) Q (gH hb53 Q Q) Q (Dp11 (LT.bloadN (out := [(iC x42.A),(iC x42.B)]) Q ag112 (infS inf112) sz112 (by exact Q) (by exact Q)) Q Q (gH hb53 Q Q) Q (AOD.bind fun r55 hr55 => (AOD.pure (@LT.callF Try.prog _ _ 175 _ _ [(.agg [(iC x54.A),(iC x54.B)]),(.agg [(iC x42.A),(iC x42.B)])] _ _ [] _ _ _ _ (w_impl_compareBars x54 x42 r55 hr55) Q cb175 (.cons (.agg (.cons (.same Q) (.cons (.same Q) .nil))) (.cons (.agg (.cons (.same Q) (.cons (.same Q) .nil))) .nil)) Q Q J) z3 J (gH hb53 Q Q) Q (Dp20 (LT.gtr Q) Q y2 (gH hb53 Q Q) Q (Dp20 (LT.pickT (v := (Bv (decide (0 < r55)))) Q hb53) Q Q (gH hb52 Q Q) Q ?_)))))))))))
          refine Dp20 (LT.pickF (v := (Bv (decide (0 < r55)))) Q hb52) Q Q Q Q (AOD.nil (by kernel_rfl) (AWR.nil ⟨Q,Ent.of z5 z1⟩))
         ·refine AOD.skip (gH hb53 Q Q) Q (AOD.skip (gH hb53 Q Q) Q (AOD.skip (gH hb53 Q Q) Q (AOD.skip (gH hb53 Q Q) Q (AOD.skip (gH hb53 Q Q) Q (AOD.skip (gH hb53 Q Q) Q (AOD.skip (gH hb53 Q Q) Q (AOD.skip (gH hb53 Q Q) Q (AOD.skip (gH hb53 Q Q) Q (Dp20 (LT.pickF (v := (Bv false)) Q hb53) Q y2 (gH hb52 Q Q) Q (Dp20 (LT.pickF (v := (Bv false)) Q hb52) Q Q Q Q (AOD.nil (by kernel_rfl) ?_)))))))))))
          refine AWR.nil ⟨Q,Ent.of z5 z1⟩
     ·refine AWR.cond Q (fun hc56 => ?_) (fun hc56 => ?_)
      ·refine Ws (Wr ?_)
       refine asg (Bv false) Q y2 Q Q (On (AWR.ret ⟨Q,FPost.mk (.inr Q) z1 J Q ⟨PermP.sc,J⟩ J⟩))
      ·refine AWR.skip (AWR.blk (Wr ?_))
       refine Op20 (LT.add Q) Q y2 Q Q (mv (Iv (w64 (s7 + 1))) Q Q Q Q (On (AWR.nil ⟨Q,Ent.of z4 z1⟩)))
    ·refine AWR.exit_end Q ⟨Q,Ent.of J J⟩
   ·refine Ws (Wr ?_)
    refine asg (Bv true) Q y2 Q Q (On (AWR.ret (FPost.mk (.inr Q) z1 J Q ⟨PermP.sc,J⟩ J)))
end Go.Proofs.Yteognanhfpbghaa
end
section
set_option linter.unusedVariables false
set_option linter.unusedSimpArgs false
set_option linter.unnecessarySimpa false
set_option maxRecDepth 100000
set_option maxHeartbeats 8000000
open Go Go.Fw
namespace Go.Proofs.Yteognanhfpbghaa
theorem w_spec_EqualGraphs (a : TGraph) (b : TGraph) : ∀ t,m_spec_EqualGraphs a b = some t → Fw.Fn Try.prog 72 [(.agg [(iC a.Points),(xF encTBar a.Bars)]),(.agg [(iC b.Points),(xF encTBar b.Bars)])] [] (.s (.c (bC t))) [] [] [] := by
 refine Fw.Fn.of (P := Try.prog) (X := []) (pn := []) (rs := (fun (t : Bool) => [(.c (bC t))])) (dfs := (fun (t : Bool) => [])) Try.func72 Q Try.ntmps72 (K Q) Q ?_
 intro w0 U0 R0 g0
 unfold m_spec_EqualGraphs
 refine Ws (Wr ?_)
 refine Os10 (LT.box (n := 21) (v := (.agg [(iC a.Points),(xF encTBar a.Bars)])) Q sz32 (by exact Q)) Q Q Q (Os10 (LT.box (n := 22) (v := (.agg [(iC b.Points),(xF encTBar b.Bars)])) Q sz32 (by exact Q)) Q Q Q (asg (Bv false) Q y2 Q Q (On (Ws (Ws ?_)))))
 refine AWR.joinK (fun j2 => ([(2,(Cc (.pl 21 0))),(3,(Cc (.pl 22 0))),(19,(Bv j2))],[(21,(.row 32 [[(iC a.Points),(xF encTBar a.Bars)]])),(22,(.row 32 [[(iC b.Points),(xF encTBar b.Bars)]]))])) ?_ (fun j2 _ => ?_)
 ·refine Wr (Op10 (LT.fieldPl Q fo32_0) Q Q Q (Op11 (LT.bload1 (c := (iC a.Points)) Q ag3 (by exact Q)) Q Q Q Q (Op10 (LT.fieldPl Q fo32_0) Q Q Q (Op11 (LT.bload1 (c := (iC b.Points)) Q ag3 (by exact Q)) Q Q Q Q (Op20 (LT.neq Q) Q Q Q Q (mv (Bv (a.Points != b.Points)) Q Q Q Q (AOR.split (fun hb3 => ?_) (fun hb3 => ?_))))))))
  ·refine Ok Q Q Q (by rw [hb3]; rfl) Q (Ok Q Q Q (by rw [hb3]; rfl) Q (Ok Q Q Q (by rw [hb3]; rfl) Q (Ok Q Q Q (by rw [hb3]; rfl) Q (Ok Q Q Q (by rw [hb3]; rfl) Q (Ok Q Q Q (by rw [hb3]; rfl) Q (Ok Q Q Q (by rw [hb3]; rfl) Q (Op20 (LT.pickT (v := (Bv true)) Q hb3) Q y2 Q Q (On (AWR.nil ⟨Q,Ent.of z3 z2⟩)))))))))
  ·refine Op10 (LT.fieldPl Q fo32_1) Q (gH hb3 Q Q) Q (Op11 (LT.bload1 (c := (xF encTBar a.Bars)) Q ag30 (by exact Q)) Q Q (gH hb3 Q Q) Q (Op10 (LT.tlenRO Q und30) Q (gH hb3 Q Q) Q (Op10 (LT.fieldPl Q fo32_1) Q (gH hb3 Q Q) Q (Op11 (LT.bload1 (c := (xF encTBar b.Bars)) Q ag30 (by exact Q)) Q Q (gH hb3 Q Q) Q (Op10 (LT.tlenRO Q und30) Q (gH hb3 Q Q) Q (Op20 (LT.neq Q) Q Q (gH hb3 Q Q) Q (Op20 (LT.pickF (v := (Bv ((a.Bars.length : Int) != (b.Bars.length : Int)))) Q hb3) Q Q Q Q (On (AWR.nil ⟨Q,Ent.of z3 z2⟩)))))))))
 ·refine AWR.cond Q (fun hc4 => ?_) (fun hc4 => ?_)
  ·refine Ws (Wr ?_)
   refine asg (Bv false) Q y2 Q Q (On (AWR.ret (FPost.mk (.inr Q) z1 J Q ⟨PermP.sc,J⟩ J)))
  ·refine AWR.skip (Ws (Ws (Wr ?_)))
   refine asg (Iv 0) Q y2 Q Q (On (AWR.block ?_))
   refine AWR.loopR (id := 0) (m_spec_EqualGraphs_L1 a b) (fun s5 => ([(2,(Cc (.pl 21 0))),(3,(Cc (.pl 22 0))),(5,(Iv s5))],[(21,(.row 32 [[(iC a.Points),(xF encTBar a.Bars)]])),(22,(.row 32 [[(iC b.Points),(xF encTBar b.Bars)]]))])) (fun b14 => ([],[])) (FPost Try.prog Try.f72.results.toList [] [] (fun (t : Bool) => [(.c (bC t))]) (fun (t : Bool) => [])) ?_ (Ent.of z3 z2) Q (fun b14 _ => ?_) (by intro r t σ m ht hk; injection ht with ht; subst ht; exact hk)
   ·intro s5
    unfold m_spec_EqualGraphs_L1
    refine Ws (Ws (Wr ?_))
    refine mv (Iv s5) Q Q Q Q (Op10 (LT.fieldPl Q fo32_1) Q Q Q (Op11 (LT.bload1 (c := (xF encTBar a.Bars)) Q ag30 (by exact Q)) Q Q Q Q (Op10 (LT.tlenRO Q und30) Q Q Q (Op20 (LT.lss Q) Q Q Q Q (On (AWR.cond Q (fun hc15 => ?_) (fun hc15 => ?_)))))))
    ·refine AWR.skip (Ws (AWR.block (Ws (AWR.draw mixed ?_))))
     refine Dp10 (LT.fieldPl Q fo32_1) Q Q Q (Dp11 (LT.bload1 (c := (xF encTBar a.Bars)) Q ag30 (by exact Q)) Q Q Q Q (Dp10 (LT.move (v := (Iv s5)) Q) Q Q Q (AOD.bind fun x16 hx16 => (Dp20 (LT.tindexRO (enc := encTBar) Q el30 hx16 sz112) Q Q Q Q (Dp10 (LT.loadPxN Q ag112 (infS inf112) (by exact sz112.symm)) Q Q Q (Dp10 (LT.fieldPl Q fo32_1) Q Q Q (Dp11 (LT.bload1 (c := (xF encTBar b.Bars)) Q ag30 (by exact Q)) Q Q Q Q (Dp10 (LT.move (v := (Iv s5)) Q) Q Q Q (AOD.bind fun x17 hx17 => (Dp20 (LT.tindexRO (enc := encTBar) Q el30 hx17 sz112) Q Q Q Q (Dp10 (LT.loadPxN Q ag112 (infS inf112) (by exact sz112.symm)) Q Q Q ?_)))))))))))
     refine Dp20 (LT.neqStruct [x16.A,x16.B] [x17.A,x17.B] Q ist112 Q Q) Q Q Q Q (AOD.nil (by kernel_rfl) (AWR.cond Q (fun hc18 => ?_) (fun hc18 => ?_)))
     ·refine Ws (en [] [] J J (Wr (asg (Bv false) Q y2 Q Q (On (AWR.ret ⟨Q,FPost.mk (.inr Q) z1 J Q ⟨PermP.sc,J⟩ J⟩)))))
     ·refine AWR.skip (AWR.blk ?_)
      refine en [(2,(Cc (.pl 21 0))),(3,(Cc (.pl 22 0))),(5,(Iv s5))] [(21,(.row 32 [[(iC a.Points),(xF encTBar a.Bars)]])),(22,(.row 32 [[(iC b.Points),(xF encTBar b.Bars)]]))] z3 z2 (Wr (mv (Iv s5) Q Q Q Q (Op20 (LT.add Q) Q y2 Q Q (asg (Iv (w64 (s5 + 1))) Q Q Q Q (On (AWR.nil ⟨Q,Ent.of z3 z2⟩))))))
    ·refine AWR.exit_end Q ⟨Q,Ent.of J J⟩
   ·refine Ws (Wr ?_)
    refine asg (Bv true) Q y2 Q Q (On (AWR.ret (FPost.mk (.inr Q) z1 J Q ⟨PermP.sc,J⟩ J)))
end Go.Proofs.Yteognanhfpbghaa
end
section
set_option linter.unusedVariables false
set_option linter.unusedSimpArgs false
set_option linter.unnecessarySimpa false
set_option maxRecDepth 100000
set_option maxHeartbeats 8000000
open Go Go.Fw
namespace Go.Proofs.Yteognanhfpbghaa
theorem w_spec_l2Copy (g : TGraph) : ∀ t,m_spec_l2Copy g = some t → Fw.Fn Try.prog 151 [(.agg [(iC g.Points),(xF encTBar g.Bars)])] [] (.s (.agg [(iC t.Points),(lo 0 t.Bars.length)])) [(0,(pR 112 encTBar t.Bars))] [] [0] := by
 refine Fw.Fn.of (P := Try.prog) (X := [0]) (pn := []) (rs := (fun (t : TGraph) => [(.agg [(iC t.Points),(lo 0 t.Bars.length)])])) (dfs := (fun (t : TGraph) => [(0,(pR 112 encTBar t.Bars))])) Try.func151 Q Try.ntmps151 (K Q) Q ?_
 intro w0 U0 R0 g0
 unfold m_spec_l2Copy
 refine Ws (Wr ?_)
 refine Os10 (LT.box (n := 21) (v := (.agg [(iC g.Points),(xF encTBar g.Bars)])) Q sz32 (by exact Q)) Q Q Q (Os00 (LT.alloc (n := 22) (cells := [(iC 0),(sC nilV)]) Q ti32 Q Q Q) Q Q (On (Ws (AWR.draw mixed ?_))))
 refine Dp10 (LT.fieldPl Q fo32_0) Q Q Q (Dp11 (LT.bload1 (c := (iC g.Points)) Q ag3 (by exact Q)) Q Q Q Q (Ds00 (LT.tbuildSlice (n := 23) (enc := encTBar) [] ([] : List TBar) Q Q und30 ti112 Q Q Q Q (by decide) (fun _ => Q) Q) Q Q (Dp10 (LT.fieldPl Q fo32_1) Q Q Q (Dp11 (LT.bload1 (c := (xF encTBar g.Bars)) Q ag30 (by exact Q)) Q Q Q Q (AOD.bind fun u1 hu1 => (Ds21 (LT.tappRO (enc := encTBar) Q  Q und30 ti112 Q (by decide) (by decide) (fun _ => Q) (lim_le hu1)) Q Q Q Q Q (Dp20 (LT.build [(0,.tmp 4,(.c (iC g.Points))),(1,.tmp 8,(.c (lo 23 ((([] : List TBar) ++ g.Bars).length))))] Q Q pl32 ti32 Q Q Q) Q Q Q Q (Ds21 (LT.bstore (v := (.agg [(iC g.Points),(lo 23 ((([] : List TBar) ++ g.Bars).length))])) (out := [(iC g.Points),(lo 23 ((([] : List TBar) ++ g.Bars).length))]) Q Q (infS inf32) sz32 (by exact Q) (by exact K Q) (by exact Q)) Q Q Q Q Q (AOD.nil (by kernel_rfl) (en [(2,(Cc (.pl 22 0)))] [(22,(.row 32 [[(iC g.Points),(lo 23 ((([] : List TBar) ++ g.Bars).length))]])),(23,(pR 112 encTBar (([] : List TBar) ++ g.Bars)))] z1 z2 (AWR.ent (Ent.mv 23 0 Q Q) ?_)))))))))))
 refine en [(2,(Cc (.pl 22 0)))] [(0,(pR 112 encTBar (([] : List TBar) ++ g.Bars))),(22,(.row 32 [[(iC g.Points),(lo 0 ((([] : List TBar) ++ g.Bars).length))]]))] z1 z2 (AWR.ret (FPost.mk (.inr Q) ⟨⟨_,_,_,Q,Q,Q,ag32,sz32,_,(infS inf32)⟩,J⟩ z1 Q ⟨⟨PermP.sc,J,J⟩,J⟩ ⟨PermO.prow' perm_encTBar,J⟩))
end Go.Proofs.Yteognanhfpbghaa
end
section
set_option linter.unusedVariables false
set_option linter.unusedSimpArgs false
set_option linter.unnecessarySimpa false
set_option maxRecDepth 100000
set_option maxHeartbeats 8000000
open Go Go.Fw
namespace Go.Proofs.Yteognanhfpbghaa
theorem w_laws_big (code : (List Int)) : ∀ t,m_laws_big code = some t → Fw.Fn Try.prog 29 [(.c (xF encInt_u8 code))] [] (.s (.c (bC t))) [] [] [] := by
 refine Fw.Fn.of (P := Try.prog) (X := []) (pn := []) (rs := (fun (t : Bool) => [(.c (bC t))])) (dfs := (fun (t : Bool) => [])) Try.func29 Q Try.ntmps29 (K Q) Q ?_
 intro w0 U0 R0 g0
 unfold m_laws_big
 refine Ws (Wr ?_)
 refine asg (Bv false) Q y2 Q Q (On (Ws (Wr ?_)))
 refine mv (Cc (xF encInt_u8 code)) Q Q Q Q (Op10 (LT.tlenRO Q und55) Q Q Q (Op20 (LT.gtr Q) Q y2 Q Q (asg (Bv (decide (1048576 < (code.length : Int)))) Q Q Q Q (On (AWR.ret (FPost.mk (.inr Q) z1 J Q ⟨PermP.sc,J⟩ J))))))
theorem w_spec_l1New (code : (List Int)) : ∀ t,m_spec_l1New code = some t → Fw.Fn Try.prog 103 [(.c (xT encInt_u8 code))] [] (.s (.c (.pl 0 0))) [(0,(.row 139 [[(xT encInt_u8 t.b),(iC t.i),(iC t.h)]]))] [] [0] := by
 refine Fw.Fn.of (P := Try.prog) (X := [0]) (pn := []) (rs := (fun (t : Tl1Cur) => [(.c (.pl 0 0))])) (dfs := (fun (t : Tl1Cur) => [(0,(.row 139 [[(xT encInt_u8 t.b),(iC t.i),(iC t.h)]]))])) Try.func103 Q Try.ntmps103 (K Q) Q ?_
 intro w0 U0 R0 g0
 unfold m_spec_l1New
 refine Ws (Wr ?_)
 refine asg (Cc (sC (.pointer none))) Q y2 Q Q (On (Ws (Wr ?_)))
 refine mv (Cc (xT encInt_u8 code)) Q Q Q Q (Op10 (LT.tlenRO Q und55) Q Q Q (Op20 (LT.add Q) y2 Q Q Q (asg (Iv (w64 (10101 + (code.length : Int)))) Q Q Q Q (On (Ws (Ws (Wr ?_)))))))
 refine asg (Iv 0) Q y2 Q Q (On (AWR.block ?_))
 refine AWR.loop1 (id := 0) (m_spec_l1New_L1 code) (fun s1 => ([(0,(Cc (xT encInt_u8 code))),(3,(Iv s1.1)),(4,(Iv s1.2))],[])) (fun b12 => ([(0,(Cc (xT encInt_u8 code))),(3,(Iv b12))],[])) ?_ (Ent.of z3 J) Q (fun b12 _ => ?_)
 ·intro s1
  unfold m_spec_l1New_L1
  refine Ws (Ws ?_)
  refine AWR.joinK (fun j14 => ([(0,(Cc (xT encInt_u8 code))),(3,(Iv s1.1)),(4,(Iv s1.2)),(15,(Bv j14))],[])) ?_ (fun j14 _ => ?_)
  ·refine Wr (mv (Iv s1.2) Q Q Q Q (mv (Cc (xT encInt_u8 code)) Q Q Q Q (Op10 (LT.tlenRO Q und55) Q Q Q (Op20 (LT.lss Q) Q Q Q Q (mv (Bv (decide (s1.2 < (code.length : Int)))) Q Q Q Q (AOR.split (fun hb15 => ?_) (fun hb15 => ?_)))))))
   ·refine mv (Iv s1.2) Q Q (gH hb15 Q Q) Q (Op20 (LT.lss Q) Q y2 (gH hb15 Q Q) Q (Op20 (LT.pickT (v := (Bv (decide (s1.2 < 4000)))) Q hb15) Q Q Q Q (On (AWR.nil ⟨Q,Ent.of z4 J⟩))))
   ·refine Ok Q Q Q (by rw [hb15]; rfl) Q (Ok Q Q Q (by rw [hb15]; rfl) Q (Op20 (LT.pickF (v := (Bv false)) Q hb15) Q y2 Q Q (On (AWR.nil ⟨Q,Ent.of z4 J⟩))))
  ·refine AWR.cond Q (fun hc16 => ?_) (fun hc16 => ?_)
   ·refine AWR.skip (Ws (AWR.block (Wr ?_)))
    refine mv (Iv s1.1) Q Q Q Q (Op20 (LT.mul Q) Q y2 Q Q (mv (Cc (xT encInt_u8 code)) Q Q Q Q (mv (Iv s1.2) Q Q Q Q (Ob' fun x17 hx17 => (Op20 (LT.tindexRO (enc := encInt_u8) Q el55 hx17 sz5) Q Q Q Q (Op10 (LT.loadPx1 Q ag5) Q Q Q (Op10 (LT.convInt Q undS5 und3) Q Q Q (Op20 (LT.add Q) Q Q Q Q (Op20 (LT.add Q) Q y2 Q Q (Op20 (LT.and Q) Q y2 Q Q (asg (Iv (bits .and .i64 (w64 ((w64 ((w64 (s1.1 * 131)) + (w64 x17))) + 7)) 1073741823)) Q Q Q Q ?_)))))))))))
    refine On (AWR.blk ?_)
    refine en [(0,(Cc (xT encInt_u8 code))),(3,(Iv (bits .and .i64 (w64 ((w64 ((w64 (s1.1 * 131)) + (w64 x17))) + 7)) 1073741823))),(4,(Iv s1.2))] [] z3 J (Wr (mv (Iv s1.2) Q Q Q Q (Op20 (LT.add Q) Q y2 Q Q (asg (Iv (w64 (s1.2 + 1))) Q Q Q Q (On (AWR.nil ⟨Q,Ent.of z3 J⟩))))))
   ·refine AWR.exit_end Q ⟨Q,Ent.of z2 J⟩
 ·refine Ws (Wr ?_)
  refine mv (Cc (xT encInt_u8 code)) Q Q Q Q (mv (Iv b12) Q Q Q Q (Op20 (LT.build [(0,.tmp 28,(.c (xT encInt_u8 code))),(2,.tmp 29,(.c (iC b12)))] Q Q pl139 ti139 Q Q Q) Q Q Q Q (Os10 (LT.box (n := 21) (v := (.agg [(xT encInt_u8 code),(iC 0),(iC b12)])) Q sz139 (by exact Q)) Q Q Q (asg (Cc (.pl 21 0)) Q Q Q Q (On (en [(2,(Cc (.pl 21 0)))] [(21,(.row 139 [[(xT encInt_u8 code),(iC 0),(iC b12)]]))] z1 z1 (AWR.ent (Ent.mv 21 0 Q Q) (en [(2,(Cc (.pl 0 0)))] [(0,(.row 139 [[(xT encInt_u8 code),(iC 0),(iC b12)]]))] z1 z1 (AWR.ret (FPost.mk (.inr Q) z1 z1 Q ⟨J,J⟩ ⟨PermO.row1 ⟨(permC_xs perm_encInt_u8),PermP.sc,PermP.sc,J⟩,J⟩))))))))))
theorem w_spec_l1Byte (c : Tl1Cur) : ∀ t,m_spec_l1Byte c = some t → Fw.Fn Try.prog 196 [(.c (.pl 0 0))] [(0,(.row 139 [[(xT encInt_u8 c.b),(iC c.i),(iC c.h)]]))] (.s (.c (iC t.1))) [(0,(.row 139 [[(xT encInt_u8 t.2.b),(iC t.2.i),(iC t.2.h)]]))] [0] [] := by
 refine Fw.Fn.of (P := Try.prog) (X := []) (pn := [0]) (rs := (fun (t : (Int × Tl1Cur)) => [(.c (iC t.1))])) (dfs := (fun (t : (Int × Tl1Cur)) => [(0,(.row 139 [[(xT encInt_u8 t.2.b),(iC t.2.i),(iC t.2.h)]]))])) Try.func196 Q Try.ntmps196 (K Q) Q ?_
 intro w0 U0 R0 g0
 unfold m_spec_l1Byte
 refine Ws (Wr ?_)
 refine asg (Iv 0) Q y2 Q Q (On (Ws (Wr ?_)))
 refine mv (Cc (.pl 0 0)) Q Q Q Q (mv (Cc (.pl 0 0)) Q Q Q Q (Op10 (LT.nilPl Q) Q Q Q (Op10 (LT.fieldPl Q fo139_2) Q Q Q (Op11 (LT.bload1 (c := (iC c.h)) Q ag3 (by exact Q)) Q Q Q Q (Op20 (LT.mul Q) Q y2 Q Q (Op20 (LT.add Q) Q y2 Q Q (Op10 (LT.nilPl Q) Q Q Q (Op10 (LT.fieldPl Q fo139_2) Q Q Q (Os21 (LT.bstore (v := (.c (iC (w64 ((w64 (c.h * 6364136223846793005)) + 1442695040888963407))))) (out := [(xT encInt_u8 c.b),(iC c.i),(iC (w64 ((w64 (c.h * 6364136223846793005)) + 1442695040888963407)))]) Q Q (infS inf3) sz3 (by exact Q) (by exact K Q) (by exact Q)) Q Q Q Q Q (On (Ws ?_)))))))))))
 refine en [(0,(Cc (.pl 0 0)))] [(0,(.row 139 [[(xT encInt_u8 c.b),(iC c.i),(iC (w64 ((w64 (c.h * 6364136223846793005)) + 1442695040888963407)))]]))] z1 z1 (AWR.draw mixed (Dp10 (LT.move (v := (Cc (.pl 0 0))) Q) Q Q Q (Dp10 (LT.nilPl Q) Q Q Q (Dp10 (LT.fieldPl Q fo139_2) Q Q Q (Dp11 (LT.bload1 (c := (iC (w64 ((w64 (c.h * 6364136223846793005)) + 1442695040888963407)))) Q ag3 (by exact Q)) Q Q Q Q (Dp20 (LT.shr Q (by decide)) Q y2 Q Q (Dp10 (LT.move (v := (Cc (.pl 0 0))) Q) Q Q Q (Dp10 (LT.nilPl Q) Q Q Q (Dp10 (LT.fieldPl Q fo139_2) Q Q Q (Dp11 (LT.bload1 (c := (iC (w64 ((w64 (c.h * 6364136223846793005)) + 1442695040888963407)))) Q ag3 (by exact Q)) Q Q Q Q (Dp20 (LT.shr Q (by decide)) Q y2 Q Q ?_)))))))))))
 refine Dp20 (LT.xor Q) Q Q Q Q (Dp20 (LT.and Q) Q y2 Q Q (Dp10 (LT.assign (v := (Iv (bits .and .i64 (bits .xor .i64 (shrI (w64 ((w64 (c.h * 6364136223846793005)) + 1442695040888963407)) 33) (shrI (w64 ((w64 (c.h * 6364136223846793005)) + 1442695040888963407)) 45)) 255))) Q) Q Q Q (AOD.nil (by kernel_rfl) (Ws (Ws ?_)))))
 refine en [(0,(Cc (.pl 0 0))),(3,(Iv (bits .and .i64 (bits .xor .i64 (shrI (w64 ((w64 (c.h * 6364136223846793005)) + 1442695040888963407)) 33) (shrI (w64 ((w64 (c.h * 6364136223846793005)) + 1442695040888963407)) 45)) 255)))] [(0,(.row 139 [[(xT encInt_u8 c.b),(iC c.i),(iC (w64 ((w64 (c.h * 6364136223846793005)) + 1442695040888963407)))]]))] z2 z1 (AWR.draw mixed (Dp10 (LT.move (v := (Cc (.pl 0 0))) Q) Q Q Q (Dp10 (LT.nilPl Q) Q Q Q (Dp10 (LT.fieldPl Q fo139_1) Q Q Q (Dp11 (LT.bload1 (c := (iC c.i)) Q ag3 (by exact Q)) Q Q Q Q (Dp10 (LT.move (v := (Cc (.pl 0 0))) Q) Q Q Q (Dp10 (LT.nilPl Q) Q Q Q (Dp10 (LT.fieldPl Q fo139_0) Q Q Q (Dp11 (LT.bload1 (c := (xT encInt_u8 c.b)) Q ag55 (by exact Q)) Q Q Q Q (Dp10 (LT.tlenRO Q und55) Q Q Q (Dp20 (LT.lss Q) Q Q Q Q ?_)))))))))))
 refine AOD.nil (by kernel_rfl) (AWR.joinK (fun j3 => ([(3,(Iv j3.1))],[(0,(.row 139 [[(xT encInt_u8 c.b),(iC j3.2),(iC (w64 ((w64 (c.h * 6364136223846793005)) + 1442695040888963407)))]]))])) ?_ (fun j3 _ => ?_))
 ·refine AWR.cond Q (fun hc4 => ?_) (fun hc4 => ?_)
  ·refine Ws (AWR.draw mixed ?_)
   refine Dp10 (LT.move (v := (Iv (bits .and .i64 (bits .xor .i64 (shrI (w64 ((w64 (c.h * 6364136223846793005)) + 1442695040888963407)) 33) (shrI (w64 ((w64 (c.h * 6364136223846793005)) + 1442695040888963407)) 45)) 255))) Q) Q Q Q (Dp10 (LT.move (v := (Cc (.pl 0 0))) Q) Q Q Q (Dp10 (LT.nilPl Q) Q Q Q (Dp10 (LT.fieldPl Q fo139_0) Q Q Q (Dp11 (LT.bload1 (c := (xT encInt_u8 c.b)) Q ag55 (by exact Q)) Q Q Q Q (Dp10 (LT.move (v := (Cc (.pl 0 0))) Q) Q Q Q (Dp10 (LT.nilPl Q) Q Q Q (Dp10 (LT.fieldPl Q fo139_1) Q Q Q (Dp11 (LT.bload1 (c := (iC c.i)) Q ag3 (by exact Q)) Q Q Q Q (AOD.bind fun x5 hx5 => (Dp20 (LT.tindexRO (enc := encInt_u8) Q el55 hx5 sz5) Q Q Q Q (Dp10 (LT.loadPx1 Q ag5) Q Q Q ?_)))))))))))
   refine Dp10 (LT.convInt Q undS5 und3) Q Q Q (Dp20 (LT.add Q) Q Q Q Q (Dp20 (LT.and Q) Q y2 Q Q (Dp10 (LT.assign (v := (Iv (bits .and .i64 (w64 ((bits .and .i64 (bits .xor .i64 (shrI (w64 ((w64 (c.h * 6364136223846793005)) + 1442695040888963407)) 33) (shrI (w64 ((w64 (c.h * 6364136223846793005)) + 1442695040888963407)) 45)) 255) + (w64 x5))) 255))) Q) Q Q Q (AOD.nil (by kernel_rfl) (en [(0,(Cc (.pl 0 0))),(3,(Iv (bits .and .i64 (w64 ((bits .and .i64 (bits .xor .i64 (shrI (w64 ((w64 (c.h * 6364136223846793005)) + 1442695040888963407)) 33) (shrI (w64 ((w64 (c.h * 6364136223846793005)) + 1442695040888963407)) 45)) 255) + (w64 x5))) 255)))] [(0,(.row 139 [[(xT encInt_u8 c.b),(iC c.i),(iC (w64 ((w64 (c.h * 6364136223846793005)) + 1442695040888963407)))]]))] z2 z1 (Wr (mv (Cc (.pl 0 0)) Q Q Q Q (mv (Cc (.pl 0 0)) Q Q Q Q (Op10 (LT.nilPl Q) Q Q Q (Op10 (LT.fieldPl Q fo139_1) Q Q Q (Op11 (LT.bload1 (c := (iC c.i)) Q ag3 (by exact Q)) Q Q Q Q ?_)))))))))))
   refine Op20 (LT.add Q) Q y2 Q Q (Op10 (LT.nilPl Q) Q Q Q (Op10 (LT.fieldPl Q fo139_1) Q Q Q (Os21 (LT.bstore (v := (.c (iC (w64 (c.i + 1))))) (out := [(xT encInt_u8 c.b),(iC (w64 (c.i + 1))),(iC (w64 ((w64 (c.h * 6364136223846793005)) + 1442695040888963407)))]) Q Q (infS inf3) sz3 (by exact Q) (by exact K Q) (by exact Q)) Q Q Q Q Q (On (AWR.nil ⟨Q,Ent.of z1 z1⟩)))))
  ·refine AWR.skip (AWR.nil ⟨Q,Ent.of z1 z1⟩)
 ·refine Ws (Wr ?_)
  refine mv (Iv j3.1) Q Q Q Q (asg (Iv j3.1) Q Q Q Q (On (AWR.ret (FPost.mk (.inr Q) z1 z1 Q ⟨PermP.sc,J⟩ ⟨PermO.row1 ⟨(permC_xs perm_encInt_u8),PermP.sc,PermP.sc,J⟩,J⟩))))
theorem w_spec_l1Below (c : Tl1Cur) (n : Int) : ∀ t,m_spec_l1Below c n = some t → Fw.Fn Try.prog 145 [(.c (.pl 0 0)),(.c (iC n))] [(0,(.row 139 [[(xT encInt_u8 c.b),(iC c.i),(iC c.h)]]))] (.s (.c (iC t.1))) [(0,(.row 139 [[(xT encInt_u8 t.2.b),(iC t.2.i),(iC t.2.h)]]))] [0] [] := by
 refine Fw.Fn.of (P := Try.prog) (X := []) (pn := [0]) (rs := (fun (t : (Int × Tl1Cur)) => [(.c (iC t.1))])) (dfs := (fun (t : (Int × Tl1Cur)) => [(0,(.row 139 [[(xT encInt_u8 t.2.b),(iC t.2.i),(iC t.2.h)]]))])) Try.func145 Q Try.ntmps145 (K Q) Q ?_
 intro w0 U0 R0 g0
 unfold m_spec_l1Below
 refine Ws (Wr ?_)
 refine asg (Iv 0) Q y2 Q Q (On (Ws (Ws (Wr ?_))))
 refine mv (Iv n) Q Q Q Q (Op20 (LT.leq Q) Q y2 Q Q (On (AWR.cond Q (fun hc1 => ?_) (fun hc1 => ?_))))
 ·refine Ws (Wr ?_)
  refine asg (Iv 0) Q y2 Q Q (On (AWR.ret (FPost.mk (.inr Q) z1 z1 Q ⟨PermP.sc,J⟩ ⟨PermO.row1 ⟨(permC_xs perm_encInt_u8),PermP.sc,PermP.sc,J⟩,J⟩)))
 ·refine AWR.skip (Ws (Ws (Wr ?_)))
  refine mv (Iv n) Q Q Q Q (Op20 (LT.leq Q) Q y2 Q Q (On (AWR.cond Q (fun hc2 => ?_) (fun hc2 => ?_))))
  ·refine Ws (Wr ?_)
   refine mv (Cc (.pl 0 0)) Q Q Q Q (Ob' fun r3 hr3 => (AOR.step (@LT.callF Try.prog _ _ 196 _ _ [(.c (.pl 0 0))] _ _ [] _ _ _ _ ((show Fw.Fn Try.prog 196 [(.c (.pl 0 0))] [(0,(.row 139 [[(xT encInt_u8 c.b),(iC c.i),(iC c.h)]]))] (Iv r3.1) [(0,(.row 139 [[(xT encInt_u8 r3.2.b),(iC r3.2.i),(iC r3.2.h)]]))] [0] [] from Fw.Fn.ren [(0,0)] (w_spec_l1Byte c r3 hr3) Q)) Q cb196 (.cons (.c (.same Q)) .nil) Q Q z1) z2 z1 Q Q (mv (Iv n) Q Q Q Q (Ob' fun u4 hu4 => (Op20 (LT.rem Q (nz_ne hu4)) Q Q Q Q (asg (Iv (Int.tmod r3.1 n)) Q Q Q Q (On (AWR.ret (FPost.mk (.inr Q) z1 z1 Q ⟨PermP.sc,J⟩ ⟨PermO.row1 ⟨(permC_xs perm_encInt_u8),PermP.sc,PermP.sc,J⟩,J⟩)))))))))
  ·refine AWR.skip (Ws (Wr ?_))
   refine mv (Cc (.pl 0 0)) Q Q Q Q (Ob' fun r5 hr5 => (AOR.step (@LT.callF Try.prog _ _ 196 _ _ [(.c (.pl 0 0))] _ _ [] _ _ _ _ ((show Fw.Fn Try.prog 196 [(.c (.pl 0 0))] [(0,(.row 139 [[(xT encInt_u8 c.b),(iC c.i),(iC c.h)]]))] (Iv r5.1) [(0,(.row 139 [[(xT encInt_u8 r5.2.b),(iC r5.2.i),(iC r5.2.h)]]))] [0] [] from Fw.Fn.ren [(0,0)] (w_spec_l1Byte c r5 hr5) Q)) Q cb196 (.cons (.c (.same Q)) .nil) Q Q z1) z2 z1 Q Q (asg (Iv r5.1) Q Q Q Q (On (Ws (Wr ?_))))))
   refine mv (Cc (.pl 0 0)) Q Q Q Q (Ob' fun r6 hr6 => (AOR.step (@LT.callF Try.prog _ _ 196 _ _ [(.c (.pl 0 0))] _ _ [] _ _ _ _ ((show Fw.Fn Try.prog 196 [(.c (.pl 0 0))] [(0,(.row 139 [[(xT encInt_u8 r5.2.b),(iC r5.2.i),(iC r5.2.h)]]))] (Iv r6.1) [(0,(.row 139 [[(xT encInt_u8 r6.2.b),(iC r6.2.i),(iC r6.2.h)]]))] [0] [] from Fw.Fn.ren [(0,0)] (w_spec_l1Byte r5.2 r6 hr6) Q)) Q cb196 (.cons (.c (.same Q)) .nil) Q Q z1) z2 z1 Q Q (asg (Iv r6.1) Q Q Q Q (On (Ws ?_)))))
   refine en [(0,(Cc (.pl 0 0))),(1,(Iv n)),(5,(Iv r5.1)),(6,(Iv r6.1))] [(0,(.row 139 [[(xT encInt_u8 r6.2.b),(iC r6.2.i),(iC r6.2.h)]]))] z4 z1 (Wr (mv (Cc (.pl 0 0)) Q Q Q Q (Ob' fun r7 hr7 => (AOR.step (@LT.callF Try.prog _ _ 196 _ _ [(.c (.pl 0 0))] _ _ [] _ _ _ _ ((show Fw.Fn Try.prog 196 [(.c (.pl 0 0))] [(0,(.row 139 [[(xT encInt_u8 r6.2.b),(iC r6.2.i),(iC r6.2.h)]]))] (Iv r7.1) [(0,(.row 139 [[(xT encInt_u8 r7.2.b),(iC r7.2.i),(iC r7.2.h)]]))] [0] [] from Fw.Fn.ren [(0,0)] (w_spec_l1Byte r6.2 r7 hr7) Q)) Q cb196 (.cons (.c (.same Q)) .nil) Q Q z1) z2 z1 Q Q (asg (Iv r7.1) Q Q Q Q (On (Ws (Wr ?_))))))))
   refine mv (Cc (.pl 0 0)) Q Q Q Q (Ob' fun r8 hr8 => (AOR.step (@LT.callF Try.prog _ _ 196 _ _ [(.c (.pl 0 0))] _ _ [] _ _ _ _ ((show Fw.Fn Try.prog 196 [(.c (.pl 0 0))] [(0,(.row 139 [[(xT encInt_u8 r7.2.b),(iC r7.2.i),(iC r7.2.h)]]))] (Iv r8.1) [(0,(.row 139 [[(xT encInt_u8 r8.2.b),(iC r8.2.i),(iC r8.2.h)]]))] [0] [] from Fw.Fn.ren [(0,0)] (w_spec_l1Byte r7.2 r8 hr8) Q)) Q cb196 (.cons (.c (.same Q)) .nil) Q Q z1) z2 z1 Q Q (asg (Iv r8.1) Q Q Q Q (On (Ws (Wr ?_))))))
   refine mv (Iv r5.1) Q Q Q Q (Op20 (LT.mul Q) Q y2 Q Q (mv (Iv r6.1) Q Q Q Q (Op20 (LT.mul Q) Q y2 Q Q (Op20 (LT.add Q) Q Q Q Q (mv (Iv r7.1) Q Q Q Q (Op20 (LT.mul Q) Q y2 Q Q (Op20 (LT.add Q) Q Q Q Q (mv (Iv r8.1) Q Q Q Q (Op20 (LT.add Q) Q Q Q Q (mv (Iv n) Q Q Q Q (Ob' fun u9 hu9 => ?_)))))))))))
   refine Op20 (LT.rem Q (nz_ne hu9)) Q Q Q Q (asg (Iv (Int.tmod (w64 ((w64 ((w64 ((w64 (r5.1 * 16777216)) + (w64 (r6.1 * 65536)))) + (w64 (r7.1 * 256)))) + r8.1)) n)) Q Q Q Q (On (AWR.ret (FPost.mk (.inr Q) z1 z1 Q ⟨PermP.sc,J⟩ ⟨PermO.row1 ⟨(permC_xs perm_encInt_u8),PermP.sc,PermP.sc,J⟩,J⟩))))
theorem w_spec_l1Once (c : Tl1Cur) (n : Int) : ∀ t,m_spec_l1Once c n = some t → Fw.Fn Try.prog 104 [(.c (.pl 0 0)),(.c (iC n))] [(0,(.row 139 [[(xT encInt_u8 c.b),(iC c.i),(iC c.h)]]))] (.s (.c (bC t.1))) [(0,(.row 139 [[(xT encInt_u8 t.2.b),(iC t.2.i),(iC t.2.h)]]))] [0] [] := by
 refine Fw.Fn.of (P := Try.prog) (X := []) (pn := [0]) (rs := (fun (t : (Bool × Tl1Cur)) => [(.c (bC t.1))])) (dfs := (fun (t : (Bool × Tl1Cur)) => [(0,(.row 139 [[(xT encInt_u8 t.2.b),(iC t.2.i),(iC t.2.h)]]))])) Try.func104 Q Try.ntmps104 (K Q) Q ?_
 intro w0 U0 R0 g0
 unfold m_spec_l1Once
 refine Ws (Wr ?_)
 refine asg (Bv false) Q y2 Q Q (On (Ws (Wr ?_)))
 refine mv (Cc (.pl 0 0)) Q Q Q Q (mv (Iv n) Q Q Q Q (Ob' fun r1 hr1 => (AOR.step (@LT.callF Try.prog _ _ 145 _ _ [(.c (.pl 0 0)),(.c (iC n))] _ _ [] _ _ _ _ ((show Fw.Fn Try.prog 145 [(.c (.pl 0 0)),(.c (iC n))] [(0,(.row 139 [[(xT encInt_u8 c.b),(iC c.i),(iC c.h)]]))] (Iv r1.1) [(0,(.row 139 [[(xT encInt_u8 r1.2.b),(iC r1.2.i),(iC r1.2.h)]]))] [0] [] from Fw.Fn.ren [(0,0)] (w_spec_l1Below c n r1 hr1) Q)) Q cb145 (.cons (.c (.same Q)) (.cons (.c (.same Q)) .nil)) Q Q z1) z3 z1 Q Q (Op20 (LT.eql Q) Q y2 Q Q (asg (Bv (r1.1 == 0)) Q Q Q Q (On (AWR.ret (FPost.mk (.inr Q) z1 z1 Q ⟨PermP.sc,J⟩ ⟨PermO.row1 ⟨(permC_xs perm_encInt_u8),PermP.sc,PermP.sc,J⟩,J⟩))))))))
theorem w_spec_l2Simple (c : Tl1Cur) (n : Int) (odd : Int) : ∀ t,m_spec_l2Simple c n odd = some t → Fw.Fn Try.prog 205 [(.c (.pl 0 0)),(.c (iC n)),(.c (iC odd))] [(0,(.row 139 [[(xT encInt_u8 c.b),(iC c.i),(iC c.h)]]))] (.s (.agg [(iC t.1.Points),(lo 1 t.1.Bars.length)])) [(0,(.row 139 [[(xT encInt_u8 t.2.b),(iC t.2.i),(iC t.2.h)]])),(1,(pR 112 encTBar t.1.Bars))] [0] [1] := by
 refine Fw.Fn.of (P := Try.prog) (X := [1]) (pn := [0]) (rs := (fun (t : (TGraph × Tl1Cur)) => [(.agg [(iC t.1.Points),(lo 1 t.1.Bars.length)])])) (dfs := (fun (t : (TGraph × Tl1Cur)) => [(0,(.row 139 [[(xT encInt_u8 t.2.b),(iC t.2.i),(iC t.2.h)]])),(1,(pR 112 encTBar t.1.Bars))])) Try.func205 Q Try.ntmps205 (K Q) Q ?_
 intro w0 U0 R0 g0
 unfold m_spec_l2Simple
 refine Ws (Wr ?_)
 refine Os00 (LT.alloc (n := 21) (cells := [(iC 0),(sC nilV)]) Q ti32 Q Q Q) Q Q (On (Ws (Wr ?_)))
 refine mv (Iv n) Q Q Q Q (Os00 (LT.tbuildSlice (n := 22) (enc := encTBar) [] ([] : List TBar) Q Q und30 ti112 Q Q Q Q (by decide) (fun _ => Q) Q) Q Q (Op20 (LT.build [(0,.tmp 10,(.c (iC n))),(1,.tmp 11,(.c (lo 22 (([] : List TBar).length))))] Q Q pl32 ti32 Q Q Q) Q Q Q Q (Os00 (LT.alloc (n := 23) (cells := [(iC 0),(sC nilV)]) Q ti32 Q Q Q) Q Q (Os21 (LT.bstore (v := (.agg [(iC n),(lo 22 (([] : List TBar).length))])) (out := [(iC n),(lo 22 (([] : List TBar).length))]) Q Q (infS inf32) sz32 (by exact Q) (by exact K Q) (by exact Q)) Q Q Q Q Q (On (Ws (Ws ?_)))))))
 refine en [(0,(Cc (.pl 0 0))),(1,(Iv n)),(2,(Iv odd)),(6,(Cc (.pl 21 0))),(7,(Cc (.pl 23 0)))] [(0,(.row 139 [[(xT encInt_u8 c.b),(iC c.i),(iC c.h)]])),(21,(.row 32 [[(iC 0),(sC nilV)]])),(22,(pR 112 encTBar ([] : List TBar))),(23,(.row 32 [[(iC n),(lo 22 (([] : List TBar).length))]]))] z5 z4 (Wr (asg (Iv 0) Q y2 Q Q (On (AWR.block ?_))))
 refine AWR.loop1 (id := 0) (m_spec_l2Simple_L3 n odd) (fun s1 => ([(0,(Cc (.pl 0 0))),(1,(Iv n)),(2,(Iv odd)),(6,(Cc (.pl 21 0))),(7,(Cc (.pl 23 0))),(8,(Iv s1.1))],[(0,(.row 139 [[(xT encInt_u8 s1.2.1),(iC s1.2.2.1),(iC s1.2.2.2.1)]])),(21,(.row 32 [[(iC 0),(sC nilV)]])),(22,(pR 112 encTBar s1.2.2.2.2)),(23,(.row 32 [[(iC n),(lo 22 s1.2.2.2.2.length)]]))])) (fun b52 => ([(6,(Cc (.pl 21 0))),(7,(Cc (.pl 23 0)))],[(0,(.row 139 [[(xT encInt_u8 b52.1),(iC b52.2.1),(iC b52.2.2.1)]])),(21,(.row 32 [[(iC 0),(sC nilV)]])),(22,(pR 112 encTBar b52.2.2.2)),(23,(.row 32 [[(iC n),(lo 22 b52.2.2.2.length)]]))])) ?_ (Ent.of z6 z4) Q (fun b52 _ => ?_)
 ·intro s1
  unfold m_spec_l2Simple_L3
  refine Ws (Ws (Wr ?_))
  refine mv (Iv s1.1) Q Q Q Q (mv (Iv n) Q Q Q Q (Op20 (LT.lss Q) Q Q Q Q (On (AWR.cond Q (fun hc53 => ?_) (fun hc53 => ?_)))))
  ·refine AWR.skip (Ws (AWR.block (Ws (Wr ?_))))
   refine mv (Iv s1.1) Q Q Q Q (Op20 (LT.add Q) Q y2 Q Q (asg (Iv (w64 (s1.1 + 1))) Q Q Q Q (On (AWR.block ?_))))
   refine AWR.loop1 (id := 2) (m_spec_l2Simple_L4 n odd s1) (fun s54 => ([(0,(Cc (.pl 0 0))),(1,(Iv n)),(2,(Iv odd)),(6,(Cc (.pl 21 0))),(7,(Cc (.pl 23 0))),(8,(Iv s1.1)),(9,(Iv s54.1))],[(0,(.row 139 [[(xT encInt_u8 s54.2.1),(iC s54.2.2.1),(iC s54.2.2.2.1)]])),(21,(.row 32 [[(iC 0),(sC nilV)]])),(22,(pR 112 encTBar s54.2.2.2.2)),(23,(.row 32 [[(iC n),(lo 22 s54.2.2.2.2.length)]]))])) (fun b77 => ([(0,(Cc (.pl 0 0))),(1,(Iv n)),(2,(Iv odd)),(6,(Cc (.pl 21 0))),(7,(Cc (.pl 23 0))),(8,(Iv b77.1))],[(0,(.row 139 [[(xT encInt_u8 b77.2.1),(iC b77.2.2.1),(iC b77.2.2.2.1)]])),(21,(.row 32 [[(iC 0),(sC nilV)]])),(22,(pR 112 encTBar b77.2.2.2.2)),(23,(.row 32 [[(iC n),(lo 22 b77.2.2.2.2.length)]]))])) ?_ (Ent.of z7 z4) Q (fun b77 _ => ?_)
   ·intro s54
    unfold m_spec_l2Simple_L4
    refine Ws (Ws (Wr ?_))
    refine mv (Iv s54.1) Q Q Q Q (mv (Iv n) Q Q Q Q (Op20 (LT.lss Q) Q Q Q Q (On (AWR.cond Q (fun hc78 => ?_) (fun hc78 => ?_)))))
    ·refine AWR.skip (Ws (AWR.block (Ws ?_)))
     refine AWR.joinK (fun j81 => ([(0,(Cc (.pl 0 0))),(1,(Iv n)),(2,(Iv odd)),(6,(Cc (.pl 21 0))),(7,(Cc (.pl 23 0))),(8,(Iv s1.1)),(9,(Iv s54.1)),(34,(Bv j81.1))],[(0,(.row 139 [[(xT encInt_u8 j81.2.1),(iC j81.2.2.1),(iC j81.2.2.2)]])),(21,(.row 32 [[(iC 0),(sC nilV)]])),(22,(pR 112 encTBar s54.2.2.2.2)),(23,(.row 32 [[(iC n),(lo 22 s54.2.2.2.2.length)]]))])) ?_ (fun j81 _ => ?_)
     ·refine Wr (mv (Cc (.pl 0 0)) Q Q Q Q (Ob' fun r82 hr82 => (AOR.step (@LT.callF Try.prog _ _ 145 _ _ [(.c (.pl 0 0)),(.c (iC 10))] _ _ [] _ _ _ _ ((show Fw.Fn Try.prog 145 [(.c (.pl 0 0)),(.c (iC 10))] [(0,(.row 139 [[(xT encInt_u8 s54.2.1),(iC s54.2.2.1),(iC s54.2.2.2.1)]]))] (Iv r82.1) [(0,(.row 139 [[(xT encInt_u8 r82.2.b),(iC r82.2.i),(iC r82.2.h)]]))] [0] [] from Fw.Fn.ren [(0,0)] (w_spec_l1Below (Tl1Cur.mk s54.2.1 s54.2.2.1 s54.2.2.2.1) 10 r82 hr82) Q)) Q cb145 (.cons (.c (.same Q)) (.cons (.c (.same Q)) .nil)) Q Q z1) ⟨Q,Q,y2,J⟩ z1 Q Q (mv (Iv odd) Q Q Q Q (Op20 (LT.lss Q) Q Q Q Q (mv (Bv (decide (r82.1 < odd))) Q Q Q Q (AOR.split (fun hb83 => ?_) (fun hb83 => ?_))))))))
      ·refine Op10 (LT.fieldPl Q fo32_1) Q (gH hb83 Q Q) Q (Op11 (LT.bload1 (c := (lo 22 s54.2.2.2.2.length)) Q ag30 (by exact Q)) Q Q (gH hb83 Q Q) Q (Op10 (LT.lenLoc Q und30) Q (gH hb83 Q Q) Q (Op20 (LT.lss Q) Q y2 (gH hb83 Q Q) Q (Op20 (LT.pickT (v := (Bv (decide ((s54.2.2.2.2.length : Int) < 24)))) Q hb83) Q Q Q Q (On (AWR.nil ⟨Q,Ent.of z8 z4⟩))))))
      ·refine Ok Q Q Q (by rw [hb83]; rfl) Q (Ok Q Q Q (by rw [hb83]; rfl) Q (Ok Q Q Q (by rw [hb83]; rfl) Q (Ok Q Q Q (by rw [hb83]; rfl) Q (Op20 (LT.pickF (v := (Bv false)) Q hb83) Q y2 Q Q (On (AWR.nil ⟨Q,Ent.of z8 z4⟩))))))
     ·refine AWR.joinK (fun j86 => ([(0,(Cc (.pl 0 0))),(1,(Iv n)),(2,(Iv odd)),(6,(Cc (.pl 21 0))),(7,(Cc (.pl 23 0))),(8,(Iv s1.1)),(9,(Iv s54.1))],[(0,(.row 139 [[(xT encInt_u8 j81.2.1),(iC j81.2.2.1),(iC j81.2.2.2)]])),(21,(.row 32 [[(iC 0),(sC nilV)]])),(22,(pR 112 encTBar j86)),(23,(.row 32 [[(iC n),(lo 22 j86.length)]]))])) ?_ (fun j86 _ => ?_)
      ·refine AWR.cond Q (fun hc87 => ?_) (fun hc87 => ?_)
       ·refine Wr (Op10 (LT.fieldPl Q fo32_1) Q Q Q (Op11 (LT.bload1 (c := (lo 22 s54.2.2.2.2.length)) Q ag30 (by exact Q)) Q Q Q Q (mv (Iv s1.1) Q Q Q Q (mv (Iv s54.1) Q Q Q Q (Op20 (LT.build [(0,.tmp 37,(.c (iC s1.1))),(1,.tmp 38,(.c (iC s54.1)))] Q Q pl112 ti112 Q Q Q) Q Q Q Q (Os10 (LT.tbuildSlice (n := 25) (enc := encTBar) [(0,.tmp 39,(.agg [(iC s1.1),(iC s54.1)]))] [(TBar.mk s1.1 s54.1)] Q Q und30 ti112 Q Q Q Q (by decide) (fun _ => Q) Q) Q Q Q (Ob' fun u88 hu88 => (Os22 (LT.tappP (enc := encTBar) Q Q Q und30 ti112 Q (by decide) (by decide) (fun _ => Q) (lim_le hu88)) Q Q Q Q Q Q (Op10 (LT.fieldPl Q fo32_1) Q Q Q (Os21 (LT.bstore (v := (.c (lo 22 ((s54.2.2.2.2 ++ [(TBar.mk s1.1 s54.1)]).length)))) (out := [(iC n),(lo 22 ((s54.2.2.2.2 ++ [(TBar.mk s1.1 s54.1)]).length))]) Q Q (infS inf30) sz30 (by exact Q) (by exact K Q) (by exact Q)) Q Q Q Q Q (On ?_)))))))))))
        refine AWR.nil ⟨Q,Ent.of z7 z4⟩
       ·refine AWR.skip (AWR.nil ⟨Q,Ent.of z7 z4⟩)
      ·refine AWR.blk (Wr ?_)
       refine mv (Iv s54.1) Q Q Q Q (Op20 (LT.add Q) Q y2 Q Q (asg (Iv (w64 (s54.1 + 1))) Q Q Q Q (On (AWR.nil ⟨Q,Ent.of z7 z4⟩))))
    ·refine AWR.exit_end Q ⟨Q,Ent.of z6 z4⟩
   ·refine AWR.blk (Wr ?_)
    refine mv (Iv b77.1) Q Q Q Q (Op20 (LT.add Q) Q y2 Q Q (asg (Iv (w64 (b77.1 + 1))) Q Q Q Q (On (AWR.nil ⟨Q,Ent.of z6 z4⟩))))
  ·refine AWR.exit_end Q ⟨Q,Ent.of z2 z4⟩
 ·refine Ws (Wr ?_)
  refine Op11 (LT.bloadN (out := [(iC n),(lo 22 b52.2.2.2.length)]) Q ag32 (infS inf32) sz32 (by exact Q) (by exact Q)) Q Q Q Q (Os21 (LT.bstore (v := (.agg [(iC n),(lo 22 b52.2.2.2.length)])) (out := [(iC n),(lo 22 b52.2.2.2.length)]) Q Q (infS inf32) sz32 (by exact Q) (by exact K Q) (by exact Q)) Q Q Q Q Q (On (en [(6,(Cc (.pl 21 0)))] [(0,(.row 139 [[(xT encInt_u8 b52.1),(iC b52.2.1),(iC b52.2.2.1)]])),(21,(.row 32 [[(iC n),(lo 22 b52.2.2.2.length)]])),(22,(pR 112 encTBar b52.2.2.2))] z1 z3 (AWR.ent (Ent.mv 22 1 Q Q) (en [(6,(Cc (.pl 21 0)))] [(0,(.row 139 [[(xT encInt_u8 b52.1),(iC b52.2.1),(iC b52.2.2.1)]])),(1,(pR 112 encTBar b52.2.2.2)),(21,(.row 32 [[(iC n),(lo 1 b52.2.2.2.length)]]))] z1 z3 (AWR.ret (FPost.mk (.inr Q) ⟨⟨_,_,_,Q,Q,Q,ag32,sz32,_,(infS inf32)⟩,J⟩ z2 Q ⟨⟨PermP.sc,J,J⟩,J⟩ ⟨PermO.row1 ⟨(permC_xs perm_encInt_u8),PermP.sc,PermP.sc,J⟩,PermO.prow' perm_encTBar,J⟩)))))))
theorem w_spec_l6Third (c : Tl1Cur) (n : Int) (x : TBar) (other : Int) : ∀ t,m_spec_l6Third c n x other = some t → Fw.Fn Try.prog 206 [(.c (.pl 0 0)),(.c (iC n)),(.agg [(iC x.A),(iC x.B)]),(.c (iC other))] [(0,(.row 139 [[(xT encInt_u8 c.b),(iC c.i),(iC c.h)]]))] (.s (.c (iC t.1))) [(0,(.row 139 [[(xT encInt_u8 t.2.b),(iC t.2.i),(iC t.2.h)]]))] [0] [] := by
 refine Fw.Fn.of (P := Try.prog) (X := []) (pn := [0]) (rs := (fun (t : (Int × Tl1Cur)) => [(.c (iC t.1))])) (dfs := (fun (t : (Int × Tl1Cur)) => [(0,(.row 139 [[(xT encInt_u8 t.2.b),(iC t.2.i),(iC t.2.h)]]))])) Try.func206 Q Try.ntmps206 (K Q) Q ?_
 intro w0 U0 R0 g0
 unfold m_spec_l6Third
 refine Ws (Wr ?_)
 refine Os10 (LT.box (n := 21) (v := (.agg [(iC x.A),(iC x.B)])) Q sz112 (by exact Q)) Q Q Q (asg (Iv 0) Q y2 Q Q (On (Ws (Wr ?_))))
 refine mv (Cc (.pl 0 0)) Q Q Q Q (mv (Iv n) Q Q Q Q (Ob' fun r1 hr1 => (AOR.step (@LT.callF Try.prog _ _ 145 _ _ [(.c (.pl 0 0)),(.c (iC n))] _ _ [] _ _ _ _ ((show Fw.Fn Try.prog 145 [(.c (.pl 0 0)),(.c (iC n))] [(0,(.row 139 [[(xT encInt_u8 c.b),(iC c.i),(iC c.h)]]))] (Iv r1.1) [(0,(.row 139 [[(xT encInt_u8 r1.2.b),(iC r1.2.i),(iC r1.2.h)]]))] [0] [] from Fw.Fn.ren [(0,0)] (w_spec_l1Below c n r1 hr1) Q)) Q cb145 (.cons (.c (.same Q)) (.cons (.c (.same Q)) .nil)) Q Q z1) z3 z1 Q Q (asg (Iv r1.1) Q Q Q Q (On (Ws (Ws ?_)))))))
 refine AWR.joinK (fun j3 => ([(3,(Iv other)),(9,(Iv r1.1)),(22,(Bv j3))],[(0,(.row 139 [[(xT encInt_u8 r1.2.b),(iC r1.2.i),(iC r1.2.h)]]))])) ?_ (fun j3 _ => ?_)
 ·refine Wr (mv (Iv r1.1) Q Q Q Q (Op10 (LT.fieldPl Q fo112_0) Q Q Q (Op11 (LT.bload1 (c := (iC x.A)) Q ag3 (by exact Q)) Q Q Q Q (Op20 (LT.eql Q) Q Q Q Q (mv (Bv (r1.1 == x.A)) Q Q Q Q (AOR.split (fun hb4 => ?_) (fun hb4 => ?_)))))))
  ·refine Ok Q Q Q (by rw [hb4]; rfl) Q (Ok Q Q Q (by rw [hb4]; rfl) Q (Ok Q Q Q (by rw [hb4]; rfl) Q (Ok Q Q Q (by rw [hb4]; rfl) Q (Op20 (LT.pickT (v := (Bv true)) Q hb4) Q y2 Q Q (On (AWR.nil ⟨Q,Ent.of z3 z1⟩))))))
  ·refine mv (Iv r1.1) Q Q (gH hb4 Q Q) Q (Op10 (LT.fieldPl Q fo112_1) Q (gH hb4 Q Q) Q (Op11 (LT.bload1 (c := (iC x.B)) Q ag3 (by exact Q)) Q Q (gH hb4 Q Q) Q (Op20 (LT.eql Q) Q Q (gH hb4 Q Q) Q (Op20 (LT.pickF (v := (Bv (r1.1 == x.B))) Q hb4) Q Q Q Q (On (AWR.nil ⟨Q,Ent.of z3 z1⟩))))))
 ·refine AWR.cond Q (fun hc5 => ?_) (fun hc5 => ?_)
  ·refine Ws (Wr ?_)
   refine mv (Iv other) Q Q Q Q (asg (Iv other) Q Q Q Q (On (AWR.ret (FPost.mk (.inr Q) z1 z1 Q ⟨PermP.sc,J⟩ ⟨PermO.row1 ⟨(permC_xs perm_encInt_u8),PermP.sc,PermP.sc,J⟩,J⟩))))
  ·refine AWR.skip (Ws (Wr ?_))
   refine mv (Iv r1.1) Q Q Q Q (asg (Iv r1.1) Q Q Q Q (On (AWR.ret (FPost.mk (.inr Q) z1 z1 Q ⟨PermP.sc,J⟩ ⟨PermO.row1 ⟨(permC_xs perm_encInt_u8),PermP.sc,PermP.sc,J⟩,J⟩))))
theorem w_spec_RemoveBar (g : TGraph) (k : Int) : ∀ t,m_spec_RemoveBar g k = some t → Fw.Fn Try.prog 207 [(.agg [(iC g.Points),(xF encTBar g.Bars)]),(.c (iC k))] [] (resA [(.agg [(iC t.1.Points),(lo 0 t.1.Bars.length)]),(.c (bC t.2))]) [(0,(pR 112 encTBar t.1.Bars))] [] [0] := by
 refine Fw.Fn.of (P := Try.prog) (X := [0]) (pn := []) (rs := (fun (t : (TGraph × Bool)) => [(.agg [(iC t.1.Points),(lo 0 t.1.Bars.length)]),(.c (bC t.2))])) (dfs := (fun (t : (TGraph × Bool)) => [(0,(pR 112 encTBar t.1.Bars))])) Try.func207 Q Try.ntmps207 (K Q) Q ?_
 intro w0 U0 R0 g0
 unfold m_spec_RemoveBar
 refine Ws (Wr ?_)
 refine Os10 (LT.box (n := 21) (v := (.agg [(iC g.Points),(xF encTBar g.Bars)])) Q sz32 (by exact Q)) Q Q Q (Os00 (LT.alloc (n := 22) (cells := [(iC 0),(sC nilV)]) Q ti32 Q Q Q) Q Q (asg (Bv false) Q y2 Q Q (On (Ws (Ws ?_)))))
 refine AWR.joinK (fun j4 => ([(1,(Iv k)),(2,(Cc (.pl 21 0))),(4,(Cc (.pl 22 0))),(19,(Bv j4))],[(21,(.row 32 [[(iC g.Points),(xF encTBar g.Bars)]])),(22,(.row 32 [[(iC 0),(sC nilV)]]))])) ?_ (fun j4 _ => ?_)
 ·refine Wr (Op11 (LT.bloadN (out := [(iC g.Points),(xF encTBar g.Bars)]) Q ag32 (infS inf32) sz32 (by exact Q) (by exact Q)) Q Q Q Q (Ob' fun r5 hr5 => (AOR.pure (@LT.callF Try.prog _ _ 61 _ _ [(.agg [(iC g.Points),(xF encTBar g.Bars)])] _ _ [] _ _ _ _ (w_spec_IsGraph g r5 hr5) Q cb61 (.cons (.agg (.cons (.same Q) (.cons (.same Q) .nil))) .nil) Q Q J) z2 J Q Q (Op10 (LT.not Q) Q Q Q (mv (Bv (!r5)) Q Q Q Q (AOR.split (fun hb6 => ?_) (fun hb6 => ?_)))))))
  ·refine Ok Q Q Q (by rw [hb6]; rfl) Q (Ok Q Q Q (by rw [hb6]; rfl) Q (Op20 (LT.pickT (v := (Bv true)) Q hb6) Q y2 Q Q (mv (Bv true) Q Q Q Q (Ok Q Q Q Q Q (Ok Q Q Q Q Q (Ok Q Q Q Q Q (Ok Q Q Q Q Q (Ok Q Q Q Q Q (Op20 (LT.pickT (v := (Bv true)) Q Q) Q y2 Q Q (On (AWR.nil ⟨Q,Ent.of z4 z2⟩)))))))))))
  ·refine mv (Iv k) Q Q (gH hb6 Q Q) Q (Op20 (LT.lss Q) Q y2 (gH hb6 Q Q) Q (Op20 (LT.pickF (v := (Bv (decide (k < 0)))) Q hb6) Q Q Q Q (mv (Bv (decide (k < 0))) Q Q Q Q (AOR.split (fun hb7 => ?_) (fun hb7 => ?_)))))
   ·refine Ok Q Q Q (by rw [hb7]; rfl) Q (Ok Q Q Q (by rw [hb7]; rfl) Q (Ok Q Q Q (by rw [hb7]; rfl) Q (Ok Q Q Q (by rw [hb7]; rfl) Q (Ok Q Q Q (by rw [hb7]; rfl) Q (Op20 (LT.pickT (v := (Bv true)) Q hb7) Q y2 Q Q (On (AWR.nil ⟨Q,Ent.of z4 z2⟩)))))))
   ·refine mv (Iv k) Q Q (gH hb7 Q Q) Q (Op10 (LT.fieldPl Q fo32_1) Q (gH hb7 Q Q) Q (Op11 (LT.bload1 (c := (xF encTBar g.Bars)) Q ag30 (by exact Q)) Q Q (gH hb7 Q Q) Q (Op10 (LT.tlenRO Q und30) Q (gH hb7 Q Q) Q (Op20 (LT.geq Q) Q Q (gH hb7 Q Q) Q (Op20 (LT.pickF (v := (Bv (decide ((g.Bars.length : Int) ≤ k)))) Q hb7) Q Q Q Q (On (AWR.nil ⟨Q,Ent.of z4 z2⟩)))))))
 ·refine AWR.cond Q (fun hc8 => ?_) (fun hc8 => ?_)
  ·refine Ws (Wr ?_)
   refine Op11 (LT.bloadN (out := [(iC g.Points),(xF encTBar g.Bars)]) Q ag32 (infS inf32) sz32 (by exact Q) (by exact Q)) Q Q Q Q (Ob' fun r9 hr9 => (AOR.step (@LT.callF Try.prog _ _ 151 _ _ [(.agg [(iC g.Points),(xF encTBar g.Bars)])] _ _ [] _ _ _ _ ((show Fw.Fn Try.prog 151 [(.agg [(iC g.Points),(xF encTBar g.Bars)])] [] (Ag  [(iC r9.Points),(lo 25 r9.Bars.length)]) [(25,(pR 112 encTBar r9.Bars))] [] [25] from Fw.Fn.ren [(0,25)] (w_spec_l2Copy g r9 hr9) Q)) Q cb151 (.cons (.agg (.cons (.same Q) (.cons (.same Q) .nil))) .nil) Q Q J) z2 J Q Q (Os21 (LT.bstore (v := (.agg [(iC r9.Points),(lo 25 r9.Bars.length)])) (out := [(iC r9.Points),(lo 25 r9.Bars.length)]) Q Q (infS inf32) sz32 (by exact Q) (by exact K Q) (by exact Q)) Q Q Q Q Q (asg (Bv false) Q y2 Q Q (On (en [(4,(Cc (.pl 22 0))),(5,(Bv false))] [(22,(.row 32 [[(iC r9.Points),(lo 25 r9.Bars.length)]])),(25,(pR 112 encTBar r9.Bars))] z2 z2 (AWR.ent (Ent.mv 25 0 Q Q) (en [(4,(Cc (.pl 22 0))),(5,(Bv false))] [(0,(pR 112 encTBar r9.Bars)),(22,(.row 32 [[(iC r9.Points),(lo 0 r9.Bars.length)]]))] z2 z2 (AWR.ret (FPost.mk (.inr Q) ⟨⟨_,_,_,Q,Q,Q,ag32,sz32,_,(infS inf32)⟩,Q,J⟩ z1 Q ⟨⟨PermP.sc,J,J⟩,PermP.sc,J⟩ ⟨PermO.prow' perm_encTBar,J⟩))))))))))
  ·refine AWR.skip (Ws (AWR.draw mixed ?_))
   refine Dp10 (LT.fieldPl Q fo32_0) Q Q Q (Dp11 (LT.bload1 (c := (iC g.Points)) Q ag3 (by exact Q)) Q Q Q Q (Ds00 (LT.tbuildSlice (n := 26) (enc := encTBar) [] ([] : List TBar) Q Q und30 ti112 Q Q Q Q (by decide) (fun _ => Q) Q) Q Q (Dp10 (LT.fieldPl Q fo32_1) Q Q Q (Dp11 (LT.bload1 (c := (xF encTBar g.Bars)) Q ag30 (by exact Q)) Q Q Q Q (Dp10 (LT.move (v := (Iv k)) Q) Q Q Q (AOD.bind fun v10 hv10 => (Dp20 (LT.tsliceRO (enc := encTBar) (blo := none) (bhi := (some (.tmp 27,k))) (l := 0) (h := k.toNat) Q Q Q und30 inf112 (fun _ => by rw [sz112]; rfl) (.inr y2) (.inl ⟨_,_,Q,Int.le_trans (slc_spec hv10).1 (slc_spec hv10).2.1,Q⟩) (slc_lh hv10) (slc_hl hv10)) Q Q Q Q (AOD.bind fun u11 hu11 => (Ds21 (LT.tappRO (enc := encTBar) Q  Q und30 ti112 Q (by decide) (by decide) (fun _ => Q) (lim_le hu11)) Q Q Q Q Q (Dp10 (LT.fieldPl Q fo32_1) Q Q Q (Dp11 (LT.bload1 (c := (xF encTBar g.Bars)) Q ag30 (by exact Q)) Q Q Q Q ?_)))))))))))
   refine Dp10 (LT.move (v := (Iv k)) Q) Q Q Q (Dp20 (LT.add Q) Q y2 Q Q (AOD.bind fun v12 hv12 => (Dp20 (LT.tsliceRO (enc := encTBar) (blo := (some (.tmp 33,(w64 (k + 1))))) (bhi := none) (l := (w64 (k + 1)).toNat) (h := g.Bars.length) Q Q Q und30 inf112 (fun _ => by rw [sz112]; rfl) (.inl ⟨_,_,Q,(slc_spec hv12).1,Q⟩) (.inr y2) (slc_lh hv12) (slc_hl hv12)) Q Q Q Q (AOD.bind fun u13 hu13 => (Ds21 (LT.tappRO (enc := encTBar) Q  Q und30 ti112 Q (by decide) (by decide) (fun _ => Q) (lim_le hu13)) Q Q Q Q Q (Dp20 (LT.build [(0,.tmp 23,(.c (iC g.Points))),(1,.tmp 35,(.c (lo 26 (((([] : List TBar) ++ ((g.Bars.take k.toNat).drop 0)) ++ ((g.Bars.take g.Bars.length).drop ((w64 (k + 1)).toNat))).length))))] Q Q pl32 ti32 Q Q Q) Q Q Q Q (Ds21 (LT.bstore (v := (.agg [(iC g.Points),(lo 26 (((([] : List TBar) ++ ((g.Bars.take k.toNat).drop 0)) ++ ((g.Bars.take g.Bars.length).drop ((w64 (k + 1)).toNat))).length))])) (out := [(iC g.Points),(lo 26 (((([] : List TBar) ++ ((g.Bars.take k.toNat).drop 0)) ++ ((g.Bars.take g.Bars.length).drop ((w64 (k + 1)).toNat))).length))]) Q Q (infS inf32) sz32 (by exact Q) (by exact K Q) (by exact Q)) Q Q Q Q Q (Dp10 (LT.assign (v := (Bv true)) Q) y2 Q Q (AOD.nil (by kernel_rfl) (en [(4,(Cc (.pl 22 0))),(5,(Bv true))] [(22,(.row 32 [[(iC g.Points),(lo 26 (((([] : List TBar) ++ ((g.Bars.take k.toNat).drop 0)) ++ ((g.Bars.take g.Bars.length).drop ((w64 (k + 1)).toNat))).length))]])),(26,(pR 112 encTBar ((([] : List TBar) ++ ((g.Bars.take k.toNat).drop 0)) ++ ((g.Bars.take g.Bars.length).drop ((w64 (k + 1)).toNat)))))] z2 z2 (AWR.ent (Ent.mv 26 0 Q Q) ?_)))))))))))
   refine en [(4,(Cc (.pl 22 0))),(5,(Bv true))] [(0,(pR 112 encTBar ((([] : List TBar) ++ ((g.Bars.take k.toNat).drop 0)) ++ ((g.Bars.take g.Bars.length).drop ((w64 (k + 1)).toNat))))),(22,(.row 32 [[(iC g.Points),(lo 0 (((([] : List TBar) ++ ((g.Bars.take k.toNat).drop 0)) ++ ((g.Bars.take g.Bars.length).drop ((w64 (k + 1)).toNat))).length))]]))] z2 z2 (AWR.ret (FPost.mk (.inr Q) ⟨⟨_,_,_,Q,Q,Q,ag32,sz32,_,(infS inf32)⟩,Q,J⟩ z1 Q ⟨⟨PermP.sc,J,J⟩,PermP.sc,J⟩ ⟨PermO.prow' perm_encTBar,J⟩))
end Go.Proofs.Yteognanhfpbghaa
end
section
set_option linter.unusedVariables false
set_option linter.unusedSimpArgs false
set_option linter.unnecessarySimpa false
set_option maxRecDepth 100000
set_option maxHeartbeats 8000000
open Go Go.Fw
namespace Go.Proofs.Yteognanhfpbghaa
theorem w_spec_l3Set (n : Int) (mask : Int) : ∀ t,m_spec_l3Set n mask = some t → Fw.Fn Try.prog 144 [(.c (iC n)),(.c (iC mask))] [] (.s (.c (lo 0 t.length))) [(0,(pR 3 encInt t))] [] [0] := by
 refine Fw.Fn.of (P := Try.prog) (X := [0]) (pn := []) (rs := (fun (t : (List Int)) => [(.c (lo 0 t.length))])) (dfs := (fun (t : (List Int)) => [(0,(pR 3 encInt t))])) Try.func144 Q Try.ntmps144 (K Q) Q ?_
 intro w0 U0 R0 g0
 unfold m_spec_l3Set
 refine Ws (Wr ?_)
 refine asg (Cc (sC nilV)) Q y2 Q Q (On (Ws (Wr ?_)))
 refine Os00 (LT.tbuildSlice (n := 21) (enc := encInt) [] ([] : List Int) Q Q und45 ti3 Q Q Q Q (by decide) (fun _ => Q) Q) Q Q (asg (Cc (lo 21 (([] : List Int).length))) Q Q Q Q (On (Ws (Ws (Wr ?_)))))
 refine asg (Iv 0) Q y2 Q Q (On (AWR.block ?_))
 refine AWR.loop1 (id := 0) (m_spec_l3Set_L1 n mask) (fun s1 => ([(0,(Iv n)),(1,(Iv mask)),(5,(Cc (lo 21 s1.2.length))),(6,(Iv s1.1))],[(21,(pR 3 encInt s1.2))])) (fun b15 => ([(5,(Cc (lo 21 b15.length)))],[(21,(pR 3 encInt b15))])) ?_ (Ent.of z4 z1) Q (fun b15 _ => ?_)
 ·intro s1
  unfold m_spec_l3Set_L1
  refine Ws (Ws (Wr ?_))
  refine mv (Iv s1.1) Q Q Q Q (mv (Iv n) Q Q Q Q (Op20 (LT.lss Q) Q Q Q Q (On (AWR.cond Q (fun hc16 => ?_) (fun hc16 => ?_)))))
  ·refine AWR.skip (Ws (AWR.block (Ws (Wr ?_))))
   refine mv (Iv mask) Q Q Q Q (mv (Iv s1.1) Q Q Q Q (Ob' fun u17 hu17 => (Op20 (LT.shr Q (nn_le hu17)) Q Q Q Q (Op20 (LT.and Q) Q y2 Q Q (Op20 (LT.eql Q) Q y2 Q Q (On (AWR.joinK (fun j20 => ([(0,(Iv n)),(1,(Iv mask)),(5,(Cc (lo 21 j20.length))),(6,(Iv s1.1))],[(21,(pR 3 encInt j20))])) ?_ (fun j20 _ => ?_))))))))
   ·refine AWR.cond Q (fun hc21 => ?_) (fun hc21 => ?_)
    ·refine Wr (mv (Cc (lo 21 s1.2.length)) Q Q Q Q (mv (Iv s1.1) Q Q Q Q (Os10 (LT.tbuildSlice (n := 22) (enc := encInt) [(0,.tmp 19,(.c (iC s1.1)))] ([s1.1] : List Int) Q Q und45 ti3 Q Q Q Q (by decide) (fun _ => Q) Q) Q Q Q (Ob' fun u22 hu22 => (Os22 (LT.tappP (enc := encInt) Q Q Q und45 ti3 Q (by decide) (by decide) (fun _ => Q) (lim_le hu22)) Q Q Q Q Q Q (asg (Cc (lo 21 ((s1.2 ++ ([s1.1] : List Int)).length))) Q Q Q Q (On (AWR.nil ⟨Q,Ent.of z4 z1⟩))))))))
    ·refine AWR.skip (AWR.nil ⟨Q,Ent.of z4 z1⟩)
   ·refine AWR.blk (Wr ?_)
    refine mv (Iv s1.1) Q Q Q Q (Op20 (LT.add Q) Q y2 Q Q (asg (Iv (w64 (s1.1 + 1))) Q Q Q Q (On (AWR.nil ⟨Q,Ent.of z4 z1⟩))))
  ·refine AWR.exit_end Q ⟨Q,Ent.of z1 z1⟩
 ·refine Ws (Wr ?_)
  refine mv (Cc (lo 21 b15.length)) Q Q Q Q (asg (Cc (lo 21 b15.length)) Q Q Q Q (On (en [(4,(Cc (lo 21 b15.length)))] [(21,(pR 3 encInt b15))] z1 z1 (AWR.ent (Ent.mv 21 0 Q Q) (en [(4,(Cc (lo 0 b15.length)))] [(0,(pR 3 encInt b15))] z1 z1 (AWR.ret (FPost.mk (.inr Q) z1 z1 Q ⟨J,J⟩ ⟨PermO.prow' perm_encInt,J⟩)))))))
theorem w_impl_setOf (mask : Int) (n : Int) : ∀ t,m_impl_setOf mask n = some t → Fw.Fn Try.prog 146 [(.c (iC mask)),(.c (iC n))] [] (.s (.c (lo 0 t.length))) [(0,(pR 3 encInt t))] [] [0] := by
 refine Fw.Fn.of (P := Try.prog) (X := [0]) (pn := []) (rs := (fun (t : (List Int)) => [(.c (lo 0 t.length))])) (dfs := (fun (t : (List Int)) => [(0,(pR 3 encInt t))])) Try.func146 Q Try.ntmps146 (K Q) Q ?_
 intro w0 U0 R0 g0
 unfold m_impl_setOf
 refine Ws (Wr ?_)
 refine asg (Cc (sC nilV)) Q y2 Q Q (On (Ws (Wr ?_)))
 refine Os00 (LT.tbuildSlice (n := 21) (enc := encInt) [] ([] : List Int) Q Q und45 ti3 Q Q Q Q (by decide) (fun _ => Q) Q) Q Q (asg (Cc (lo 21 (([] : List Int).length))) Q Q Q Q (On (Ws (Ws (Wr ?_)))))
 refine mv (Iv n) Q Q Q Q (mv (Iv 0) Q y2 Q Q (On (AWR.block ?_)))
 refine AWR.loop1 (id := 0) (m_impl_setOf_L1 mask n) (fun s1 => ([(0,(Iv mask)),(5,(Cc (lo 21 s1.2.length))),(8,(Iv n)),(9,(Iv s1.1))],[(21,(pR 3 encInt s1.2))])) (fun b15 => ([(5,(Cc (lo 21 b15.length)))],[(21,(pR 3 encInt b15))])) ?_ (Ent.of z4 z1) Q (fun b15 _ => ?_)
 ·intro s1
  unfold m_impl_setOf_L1
  refine Ws (Wr ?_)
  refine Op20 (LT.lss Q) Q Q Q Q (On (Ws ?_))
  refine AWR.cond Q (fun hc16 => ?_) (fun hc16 => ?_)
  ·refine AWR.skip (Ws (AWR.block (Ws (Wr ?_))))
   refine mv (Iv s1.1) Q Q Q Q (asg (Iv s1.1) Q Q Q Q (On (Ws (Wr ?_))))
   refine mv (Iv mask) Q Q Q Q (mv (Iv s1.1) Q Q Q Q (Ob' fun u17 hu17 => (Op20 (LT.shr Q (nn_le hu17)) Q Q Q Q (Op20 (LT.and Q) Q y2 Q Q (Op20 (LT.eql Q) Q y2 Q Q (On (AWR.joinK (fun j20 => ([(0,(Iv mask)),(5,(Cc (lo 21 j20.length))),(8,(Iv n)),(9,(Iv s1.1))],[(21,(pR 3 encInt j20))])) ?_ (fun j20 _ => ?_))))))))
   ·refine AWR.cond Q (fun hc21 => ?_) (fun hc21 => ?_)
    ·refine Wr (mv (Cc (lo 21 s1.2.length)) Q Q Q Q (mv (Iv s1.1) Q Q Q Q (Os10 (LT.tbuildSlice (n := 22) (enc := encInt) [(0,.tmp 18,(.c (iC s1.1)))] ([s1.1] : List Int) Q Q und45 ti3 Q Q Q Q (by decide) (fun _ => Q) Q) Q Q Q (Ob' fun u22 hu22 => (Os22 (LT.tappP (enc := encInt) Q Q Q und45 ti3 Q (by decide) (by decide) (fun _ => Q) (lim_le hu22)) Q Q Q Q Q Q (asg (Cc (lo 21 ((s1.2 ++ ([s1.1] : List Int)).length))) Q Q Q Q (On (AWR.nil ⟨Q,Ent.of z4 z1⟩))))))))
    ·refine AWR.skip (AWR.nil ⟨Q,Ent.of z4 z1⟩)
   ·refine AWR.blk (Wr ?_)
    refine Op20 (LT.add Q) Q y2 Q Q (mv (Iv (w64 (s1.1 + 1))) Q Q Q Q (On (AWR.nil ⟨Q,Ent.of z4 z1⟩)))
  ·refine AWR.exit_end Q ⟨Q,Ent.of z1 z1⟩
 ·refine Ws (Wr ?_)
  refine mv (Cc (lo 21 b15.length)) Q Q Q Q (asg (Cc (lo 21 b15.length)) Q Q Q Q (On (en [(4,(Cc (lo 21 b15.length)))] [(21,(pR 3 encInt b15))] z1 z1 (AWR.ent (Ent.mv 21 0 Q Q) (en [(4,(Cc (lo 0 b15.length)))] [(0,(pR 3 encInt b15))] z1 z1 (AWR.ret (FPost.mk (.inr Q) z1 z1 Q ⟨J,J⟩ ⟨PermO.prow' perm_encInt,J⟩)))))))
end Go.Proofs.Yteognanhfpbghaa
end
section
set_option linter.unusedVariables false
set_option linter.unusedSimpArgs false
set_option linter.unnecessarySimpa false
set_option maxRecDepth 100000
set_option maxHeartbeats 8000000
open Go Go.Fw
namespace Go.Proofs.Yteognanhfpbghaa
theorem w_spec_l2Has (l : (List Int)) (x : Int) : ∀ t,m_spec_l2Has l x = some t → Fw.Fn Try.prog 150 [(.c (xF encInt l)),(.c (iC x))] [] (.s (.c (bC t))) [] [] [] := by
 refine Fw.Fn.of (P := Try.prog) (X := []) (pn := []) (rs := (fun (t : Bool) => [(.c (bC t))])) (dfs := (fun (t : Bool) => [])) Try.func150 Q Try.ntmps150 (K Q) Q ?_
 intro w0 U0 R0 g0
 unfold m_spec_l2Has
 refine Ws (Wr ?_)
 refine asg (Bv false) Q y2 Q Q (On (Ws (Ws (Wr ?_))))
 refine asg (Iv 0) Q y2 Q Q (On (AWR.block ?_))
 refine AWR.loopR (id := 0) (m_spec_l2Has_L1 l x) (fun s1 => ([(0,(Cc (xF encInt l))),(1,(Iv x)),(5,(Iv s1))],[])) (fun b8 => ([],[])) (FPost Try.prog Try.f150.results.toList [] [] (fun (t : Bool) => [(.c (bC t))]) (fun (t : Bool) => [])) ?_ (Ent.of z3 J) Q (fun b8 _ => ?_) (by intro r t σ m ht hk; injection ht with ht; subst ht; exact hk)
 ·intro s1
  unfold m_spec_l2Has_L1
  refine Ws (Ws (Wr ?_))
  refine mv (Iv s1) Q Q Q Q (mv (Cc (xF encInt l)) Q Q Q Q (Op10 (LT.tlenRO Q und45) Q Q Q (Op20 (LT.lss Q) Q Q Q Q (On (AWR.cond Q (fun hc9 => ?_) (fun hc9 => ?_))))))
  ·refine AWR.skip (Ws (AWR.block (Ws (Wr ?_))))
   refine mv (Cc (xF encInt l)) Q Q Q Q (mv (Iv s1) Q Q Q Q (Ob' fun x10 hx10 => (Op20 (LT.tindexRO (enc := encInt) Q el45 hx10 sz3) Q Q Q Q (Op10 (LT.loadPx1 Q ag3) Q Q Q (mv (Iv x) Q Q Q Q (Op20 (LT.eql Q) Q Q Q Q (On (AWR.cond Q (fun hc11 => ?_) (fun hc11 => ?_)))))))))
   ·refine Ws (Wr ?_)
    refine asg (Bv true) Q y2 Q Q (On (AWR.ret ⟨Q,FPost.mk (.inr Q) z1 J Q ⟨PermP.sc,J⟩ J⟩))
   ·refine AWR.skip (AWR.blk (Wr ?_))
    refine mv (Iv s1) Q Q Q Q (Op20 (LT.add Q) Q y2 Q Q (asg (Iv (w64 (s1 + 1))) Q Q Q Q (On (AWR.nil ⟨Q,Ent.of z3 J⟩))))
  ·refine AWR.exit_end Q ⟨Q,Ent.of J J⟩
 ·refine Ws (Wr ?_)
  refine asg (Bv false) Q y2 Q Q (On (AWR.ret (FPost.mk (.inr Q) z1 J Q ⟨PermP.sc,J⟩ J)))
theorem w_slices_Index (s : (List Int)) (v : Int) : ∀ t,m_slices_Index s v = some t → Fw.Fn Try.prog 199 [(.c (xF encInt s)),(.c (iC v))] [] (.s (.c (iC t))) [] [] [] := by
 refine Fw.Fn.of (P := Try.prog) (X := []) (pn := []) (rs := (fun (t : Int) => [(.c (iC t))])) (dfs := (fun (t : Int) => [])) Try.func199 Q Try.ntmps199 (K Q) Q ?_
 intro w0 U0 R0 g0
 unfold m_slices_Index
 refine Ws (Wr ?_)
 refine asg (Iv 0) Q y2 Q Q (On (Ws (Ws (Wr ?_))))
 refine mv (Cc (xF encInt s)) Q Q Q Q (Op10 (LT.tlenRO Q und45) Q Q Q (mv (Iv 0) Q y2 Q Q (On (AWR.block ?_))))
 refine AWR.loopR (id := 0) (m_slices_Index_L1 s v) (fun s1 => ([(0,(Cc (xF encInt s))),(1,(Iv v)),(7,(Iv (s.length : Int))),(8,(Iv s1))],[])) (fun b8 => ([],[])) (FPost Try.prog Try.f199.results.toList [] [] (fun (t : Int) => [(.c (iC t))]) (fun (t : Int) => [])) ?_ (Ent.of z4 J) Q (fun b8 _ => ?_) (by intro r t σ m ht hk; injection ht with ht; subst ht; exact hk)
 ·intro s1
  unfold m_slices_Index_L1
  refine Ws (Wr ?_)
  refine Op20 (LT.lss Q) Q Q Q Q (On (Ws ?_))
  refine AWR.cond Q (fun hc9 => ?_) (fun hc9 => ?_)
  ·refine AWR.skip (Ws (AWR.block (Ws (Wr ?_))))
   refine mv (Iv s1) Q Q Q Q (asg (Iv s1) Q Q Q Q (On (Ws (Wr ?_))))
   refine mv (Iv v) Q Q Q Q (mv (Cc (xF encInt s)) Q Q Q Q (mv (Iv s1) Q Q Q Q (Ob' fun x10 hx10 => (Op20 (LT.tindexRO (enc := encInt) Q el45 hx10 sz3) Q Q Q Q (Op10 (LT.loadPx1 Q ag3) Q Q Q (Op20 (LT.eql Q) Q Q Q Q (On (AWR.cond Q (fun hc11 => ?_) (fun hc11 => ?_)))))))))
   ·refine Ws (Wr ?_)
    refine mv (Iv s1) Q Q Q Q (asg (Iv s1) Q Q Q Q (On (AWR.ret ⟨Q,FPost.mk (.inr Q) z1 J Q ⟨PermP.sc,J⟩ J⟩)))
   ·refine AWR.skip (AWR.blk (Wr ?_))
    refine Op20 (LT.add Q) Q y2 Q Q (mv (Iv (w64 (s1 + 1))) Q Q Q Q (On (AWR.nil ⟨Q,Ent.of z4 J⟩)))
  ·refine AWR.exit_end Q ⟨Q,Ent.of J J⟩
 ·refine Ws (Wr ?_)
  refine asg (Iv (-1)) Q y2 Q Q (On (AWR.ret (FPost.mk (.inr Q) z1 J Q ⟨PermP.sc,J⟩ J)))
theorem w_slices_Contains (s : (List Int)) (v : Int) : ∀ t,m_slices_Contains s v = some t → Fw.Fn Try.prog 149 [(.c (xF encInt s)),(.c (iC v))] [] (.s (.c (bC t))) [] [] [] := by
 refine Fw.Fn.of (P := Try.prog) (X := []) (pn := []) (rs := (fun (t : Bool) => [(.c (bC t))])) (dfs := (fun (t : Bool) => [])) Try.func149 Q Try.ntmps149 (K Q) Q ?_
 intro w0 U0 R0 g0
 unfold m_slices_Contains
 refine Ws (Wr ?_)
 refine asg (Bv false) Q y2 Q Q (On (Ws (Wr ?_)))
 refine mv (Cc (xF encInt s)) Q Q Q Q (mv (Iv v) Q Q Q Q (Ob' fun r1 hr1 => (AOR.pure (@LT.callF Try.prog _ _ 199 _ _ [(.c (xF encInt s)),(.c (iC v))] _ _ [] _ _ _ _ (w_slices_Index s v r1 hr1) Q cb199 (.cons (.c (.same Q)) (.cons (.c (.same Q)) .nil)) Q Q J) z3 J Q Q (Op20 (LT.geq Q) Q y2 Q Q (asg (Bv (decide (0 ≤ r1))) Q Q Q Q (On (AWR.ret (FPost.mk (.inr Q) z1 J Q ⟨PermP.sc,J⟩ J))))))))
end Go.Proofs.Yteognanhfpbghaa
end
section
set_option linter.unusedVariables false
set_option linter.unusedSimpArgs false
set_option linter.unnecessarySimpa false
set_option maxRecDepth 100000
set_option maxHeartbeats 8000000
open Go Go.Fw
namespace Go.Proofs.Yteognanhfpbghaa
theorem w_impl_Graph_has (g : TGraph) (v : Int) : ∀ t,m_impl_Graph_has g v = some t → Fw.Fn Try.prog 165 [(.agg [(iC g.Points),(xF encTBar g.Bars)]),(.c (iC v))] [] (.s (.c (bC t))) [] [] [] := by
 refine Fw.Fn.of (P := Try.prog) (X := []) (pn := []) (rs := (fun (t : Bool) => [(.c (bC t))])) (dfs := (fun (t : Bool) => [])) Try.func165 Q Try.ntmps165 (K Q) Q ?_
 intro w0 U0 R0 g0
 unfold m_impl_Graph_has
 refine Ws (Wr ?_)
 refine Os10 (LT.box (n := 21) (v := (.agg [(iC g.Points),(xF encTBar g.Bars)])) Q sz32 (by exact Q)) Q Q Q (asg (Bv false) Q y2 Q Q (On (Ws (Wr ?_))))
 refine mv (Iv v) Q Q Q Q (Op10 (LT.fieldPl Q fo32_0) Q Q Q (Op11 (LT.bload1 (c := (iC g.Points)) Q ag3 (by exact Q)) Q Q Q Q (Op20 (LT.sub Q) Q y2 Q Q (Ob' fun r1 hr1 => (AOR.pure (@LT.callF Try.prog _ _ 113 _ _ [(.c (iC v)),(.c (iC 0)),(.c (iC (w64 (g.Points - 1))))] _ _ [] _ _ _ _ (w_impl_within v 0 (w64 (g.Points - 1)) r1 hr1) Q cb113 (.cons (.c (.same Q)) (.cons (.c (.same Q)) (.cons (.c (.same Q)) .nil))) Q Q J) ⟨Q,Q,y2,Q,J⟩ J Q Q (asg (Bv r1) Q Q Q Q (On (AWR.ret (FPost.mk (.inr Q) z1 J Q ⟨PermP.sc,J⟩ J)))))))))
end Go.Proofs.Yteognanhfpbghaa
end
section
set_option linter.unusedVariables false
set_option linter.unusedSimpArgs false
set_option linter.unnecessarySimpa false
set_option maxRecDepth 100000
set_option maxHeartbeats 8000000
open Go Go.Fw
namespace Go.Proofs.Yteognanhfpbghaa
theorem w_spec_l2Put (g : TGraph) (x : TBar) : ∀ t,m_spec_l2Put g x = some t → Fw.Fn Try.prog 112 [(.agg [(iC g.Points),(xF encTBar g.Bars)]),(.agg [(iC x.A),(iC x.B)])] [] (.s (.agg [(iC t.Points),(lo 0 t.Bars.length)])) [(0,(pR 112 encTBar t.Bars))] [] [0] := by
 refine Fw.Fn.of (P := Try.prog) (X := [0]) (pn := []) (rs := (fun (t : TGraph) => [(.agg [(iC t.Points),(lo 0 t.Bars.length)])])) (dfs := (fun (t : TGraph) => [(0,(pR 112 encTBar t.Bars))])) Try.func112 Q Try.ntmps112 (K Q) Q ?_
 intro w0 U0 R0 g0
 unfold m_spec_l2Put
 refine Ws (Wr ?_)
 refine Os10 (LT.box (n := 21) (v := (.agg [(iC g.Points),(xF encTBar g.Bars)])) Q sz32 (by exact Q)) Q Q Q (Os10 (LT.box (n := 22) (v := (.agg [(iC x.A),(iC x.B)])) Q sz112 (by exact Q)) Q Q Q (Os00 (LT.alloc (n := 23) (cells := [(iC 0),(sC nilV)]) Q ti32 Q Q Q) Q Q (On (Ws (Wr ?_)))))
 refine Op10 (LT.fieldPl Q fo32_0) Q Q Q (Op11 (LT.bload1 (c := (iC g.Points)) Q ag3 (by exact Q)) Q Q Q Q (Os00 (LT.tbuildSlice (n := 24) (enc := encTBar) [] ([] : List TBar) Q Q und30 ti112 Q Q Q Q (by decide) (fun _ => Q) Q) Q Q (Op20 (LT.build [(0,.tmp 9,(.c (iC g.Points))),(1,.tmp 10,(.c (lo 24 (([] : List TBar).length))))] Q Q pl32 ti32 Q Q Q) Q Q Q Q (Os00 (LT.alloc (n := 25) (cells := [(iC 0),(sC nilV)]) Q ti32 Q Q Q) Q Q (Os21 (LT.bstore (v := (.agg [(iC g.Points),(lo 24 (([] : List TBar).length))])) (out := [(iC g.Points),(lo 24 (([] : List TBar).length))]) Q Q (infS inf32) sz32 (by exact Q) (by exact K Q) (by exact Q)) Q Q Q Q Q (On (Ws ?_)))))))
 refine en [(2,(Cc (.pl 21 0))),(3,(Cc (.pl 22 0))),(4,(Cc (.pl 23 0))),(5,(Cc (.pl 25 0)))] [(21,(.row 32 [[(iC g.Points),(xF encTBar g.Bars)]])),(22,(.row 112 [[(iC x.A),(iC x.B)]])),(23,(.row 32 [[(iC 0),(sC nilV)]])),(24,(pR 112 encTBar ([] : List TBar))),(25,(.row 32 [[(iC g.Points),(lo 24 (([] : List TBar).length))]]))] z4 z5 (Wr (asg (Bv false) Q y2 Q Q (On (Ws (Ws (Wr ?_))))))
 refine asg (Iv 0) Q y2 Q Q (On (AWR.block ?_))
 refine AWR.loop1 (id := 0) (m_spec_l2Put_L1 g x) (fun s1 => ([(2,(Cc (.pl 21 0))),(3,(Cc (.pl 22 0))),(4,(Cc (.pl 23 0))),(5,(Cc (.pl 25 0))),(6,(Bv s1.1)),(7,(Iv s1.2.1))],[(21,(.row 32 [[(iC g.Points),(xF encTBar g.Bars)]])),(22,(.row 112 [[(iC x.A),(iC x.B)]])),(23,(.row 32 [[(iC 0),(sC nilV)]])),(24,(pR 112 encTBar s1.2.2)),(25,(.row 32 [[(iC g.Points),(lo 24 s1.2.2.length)]]))])) (fun b29 => ([(3,(Cc (.pl 22 0))),(4,(Cc (.pl 23 0))),(5,(Cc (.pl 25 0))),(6,(Bv b29.1))],[(22,(.row 112 [[(iC x.A),(iC x.B)]])),(23,(.row 32 [[(iC 0),(sC nilV)]])),(24,(pR 112 encTBar b29.2)),(25,(.row 32 [[(iC g.Points),(lo 24 b29.2.length)]]))])) ?_ (Ent.of z6 z5) Q (fun b29 _ => ?_)
 ·intro s1
  unfold m_spec_l2Put_L1
  refine Ws (Ws (Wr ?_))
  refine mv (Iv s1.2.1) Q Q Q Q (Op10 (LT.fieldPl Q fo32_1) Q Q Q (Op11 (LT.bload1 (c := (xF encTBar g.Bars)) Q ag30 (by exact Q)) Q Q Q Q (Op10 (LT.tlenRO Q und30) Q Q Q (Op20 (LT.lss Q) Q Q Q Q (On (AWR.cond Q (fun hc30 => ?_) (fun hc30 => ?_)))))))
  ·refine AWR.skip (Ws (AWR.block (Ws (Ws ?_))))
   refine AWR.joinK (fun j34 => ([(2,(Cc (.pl 21 0))),(3,(Cc (.pl 22 0))),(4,(Cc (.pl 23 0))),(5,(Cc (.pl 25 0))),(6,(Bv s1.1)),(7,(Iv s1.2.1)),(30,(Bv j34))],[(21,(.row 32 [[(iC g.Points),(xF encTBar g.Bars)]])),(22,(.row 112 [[(iC x.A),(iC x.B)]])),(23,(.row 32 [[(iC 0),(sC nilV)]])),(24,(pR 112 encTBar s1.2.2)),(25,(.row 32 [[(iC g.Points),(lo 24 s1.2.2.length)]]))])) ?_ (fun j34 _ => ?_)
   ·refine AWR.draw mixed (Dp10 (LT.move (v := (Bv s1.1)) Q) Q Q Q (Dp10 (LT.not Q) Q Q Q (Dp10 (LT.move (v := (Bv (!s1.1))) Q) Q Q Q (AOD.split (fun hb35 => ?_) (fun hb35 => ?_)))))
    ·refine Dp10 (LT.fieldPl Q fo32_1) Q (gH hb35 Q Q) Q (Dp11 (LT.bload1 (c := (xF encTBar g.Bars)) Q ag30 (by exact Q)) Q Q (gH hb35 Q Q) Q (Dp10 (LT.move (v := (Iv s1.2.1)) Q) Q (gH hb35 Q Q) Q (AOD.bind fun x36 hx36 => (Dp20 (LT.tindexRO (enc := encTBar) Q el30 hx36 sz112) Q Q (gH hb35 Q Q) Q (Dp10 (LT.loadPxN Q ag112 (infS inf112) (by exact sz112.symm)) Q (gH hb35 Q Q) Q (Dp11 (LT.bloadN (out := [(iC x.A),(iC x.B)]) Q ag112 (infS inf112) sz112 (by exact Q) (by exact Q)) Q Q (gH hb35 Q Q) Q (AOD.bind fun r37 hr37 => (AOD.pure (@LT.callF Try.prog _ _ 139 _ _ [(.agg [(iC x36.A),(iC x36.B)]),(.agg [(iC x.A),(iC x.B)])] _ _ [] _ _ _ _ (w_spec_l2After x36 x r37 hr37) Q cb139 (.cons (.agg (.cons (.same Q) (.cons (.same Q) .nil))) (.cons (.agg (.cons (.same Q) (.cons (.same Q) .nil))) .nil)) Q Q J) z3 J (gH hb35 Q Q) Q (Dp10 (LT.not Q) Q (gH hb35 Q Q) Q (Dp20 (LT.pickT (v := (Bv (!r37))) Q hb35) Q Q Q Q (AOD.nil (by kernel_rfl) ?_)))))))))))
     refine AWR.nil ⟨Q,Ent.of z7 z5⟩
    ·refine AOD.skip (gH hb35 Q Q) Q (AOD.skip (gH hb35 Q Q) Q (AOD.skip (gH hb35 Q Q) Q (AOD.skip (gH hb35 Q Q) Q (AOD.skip (gH hb35 Q Q) Q (AOD.skip (gH hb35 Q Q) Q (AOD.skip (gH hb35 Q Q) Q (AOD.skip (gH hb35 Q Q) Q (Dp20 (LT.pickF (v := (Bv false)) Q hb35) Q y2 Q Q (AOD.nil (by kernel_rfl) (AWR.nil ⟨Q,Ent.of z7 z5⟩))))))))))
   ·refine AWR.joinK (fun j40 => ([(2,(Cc (.pl 21 0))),(3,(Cc (.pl 22 0))),(4,(Cc (.pl 23 0))),(5,(Cc (.pl 25 0))),(6,(Bv j40.1)),(7,(Iv s1.2.1))],[(21,(.row 32 [[(iC g.Points),(xF encTBar g.Bars)]])),(22,(.row 112 [[(iC x.A),(iC x.B)]])),(23,(.row 32 [[(iC 0),(sC nilV)]])),(24,(pR 112 encTBar j40.2)),(25,(.row 32 [[(iC g.Points),(lo 24 j40.2.length)]]))])) ?_ (fun j40 _ => ?_)
    ·refine AWR.cond Q (fun hc41 => ?_) (fun hc41 => ?_)
     ·refine Ws (Wr ?_)
      refine Op10 (LT.fieldPl Q fo32_1) Q Q Q (Op11 (LT.bload1 (c := (lo 24 s1.2.2.length)) Q ag30 (by exact Q)) Q Q Q Q (Op11 (LT.bloadN (out := [(iC x.A),(iC x.B)]) Q ag112 (infS inf112) sz112 (by exact Q) (by exact Q)) Q Q Q Q (Os10 (LT.tbuildSlice (n := 27) (enc := encTBar) [(0,.tmp 33,(.agg [(iC x.A),(iC x.B)]))] [x] Q Q und30 ti112 Q Q Q Q (by decide) (fun _ => Q) Q) Q Q Q (Ob' fun u42 hu42 => (Os22 (LT.tappP (enc := encTBar) Q Q Q und30 ti112 Q (by decide) (by decide) (fun _ => Q) (lim_le hu42)) Q Q Q Q Q Q (Op10 (LT.fieldPl Q fo32_1) Q Q Q (Os21 (LT.bstore (v := (.c (lo 24 ((s1.2.2 ++ [x]).length)))) (out := [(iC g.Points),(lo 24 ((s1.2.2 ++ [x]).length))]) Q Q (infS inf30) sz30 (by exact Q) (by exact K Q) (by exact Q)) Q Q Q Q Q (On (en [(2,(Cc (.pl 21 0))),(3,(Cc (.pl 22 0))),(4,(Cc (.pl 23 0))),(5,(Cc (.pl 25 0))),(7,(Iv s1.2.1))] [(21,(.row 32 [[(iC g.Points),(xF encTBar g.Bars)]])),(22,(.row 112 [[(iC x.A),(iC x.B)]])),(23,(.row 32 [[(iC 0),(sC nilV)]])),(24,(pR 112 encTBar (s1.2.2 ++ [x]))),(25,(.row 32 [[(iC g.Points),(lo 24 ((s1.2.2 ++ [x]).length))]]))] z5 z5 (Wr (asg (Bv true) Q y2 Q Q ?_)))))))))))
      refine On (AWR.nil ⟨Q,Ent.of z6 z5⟩)
     ·refine AWR.skip (AWR.nil ⟨Q,Ent.of z6 z5⟩)
    ·refine AWR.draw mixed (Dp10 (LT.fieldPl Q fo32_1) Q Q Q (Dp11 (LT.bload1 (c := (lo 24 j40.2.length)) Q ag30 (by exact Q)) Q Q Q Q (Dp10 (LT.fieldPl Q fo32_1) Q Q Q (Dp11 (LT.bload1 (c := (xF encTBar g.Bars)) Q ag30 (by exact Q)) Q Q Q Q (Dp10 (LT.move (v := (Iv s1.2.1)) Q) Q Q Q (AOD.bind fun x43 hx43 => (Dp20 (LT.tindexRO (enc := encTBar) Q el30 hx43 sz112) Q Q Q Q (Dp10 (LT.loadPxN Q ag112 (infS inf112) (by exact sz112.symm)) Q Q Q (Ds10 (LT.tbuildSlice (n := 28) (enc := encTBar) [(0,.tmp 43,(.agg [(iC x43.A),(iC x43.B)]))] [x43] Q Q und30 ti112 Q Q Q Q (by decide) (fun _ => Q) Q) Q Q Q (AOD.bind fun u44 hu44 => (Ds22 (LT.tappP (enc := encTBar) Q Q Q und30 ti112 Q (by decide) (by decide) (fun _ => Q) (lim_le hu44)) Q Q Q Q Q Q ?_)))))))))))
     refine Dp10 (LT.fieldPl Q fo32_1) Q Q Q (Ds21 (LT.bstore (v := (.c (lo 24 ((j40.2 ++ [x43]).length)))) (out := [(iC g.Points),(lo 24 ((j40.2 ++ [x43]).length))]) Q Q (infS inf30) sz30 (by exact Q) (by exact K Q) (by exact Q)) Q Q Q Q Q (AOD.nil (by kernel_rfl) (AWR.blk (en [(2,(Cc (.pl 21 0))),(3,(Cc (.pl 22 0))),(4,(Cc (.pl 23 0))),(5,(Cc (.pl 25 0))),(6,(Bv j40.1)),(7,(Iv s1.2.1))] [(21,(.row 32 [[(iC g.Points),(xF encTBar g.Bars)]])),(22,(.row 112 [[(iC x.A),(iC x.B)]])),(23,(.row 32 [[(iC 0),(sC nilV)]])),(24,(pR 112 encTBar (j40.2 ++ [x43]))),(25,(.row 32 [[(iC g.Points),(lo 24 ((j40.2 ++ [x43]).length))]]))] z6 z5 (Wr (mv (Iv s1.2.1) Q Q Q Q (Op20 (LT.add Q) Q y2 Q Q (asg (Iv (w64 (s1.2.1 + 1))) Q Q Q Q (On (AWR.nil ⟨Q,Ent.of z6 z5⟩))))))))))
  ·refine AWR.exit_end Q ⟨Q,Ent.of z4 z4⟩
 ·refine Ws (Ws (Wr ?_))
  refine mv (Bv b29.1) Q Q Q Q (Op10 (LT.not Q) Q Q Q (On (AWR.joinK (fun j47 => ([(4,(Cc (.pl 23 0))),(5,(Cc (.pl 25 0)))],[(23,(.row 32 [[(iC 0),(sC nilV)]])),(24,(pR 112 encTBar j47)),(25,(.row 32 [[(iC g.Points),(lo 24 j47.length)]]))])) ?_ (fun j47 _ => ?_))))
  ·refine AWR.cond Q (fun hc48 => ?_) (fun hc48 => ?_)
   ·refine Wr (Op10 (LT.fieldPl Q fo32_1) Q Q Q (Op11 (LT.bload1 (c := (lo 24 b29.2.length)) Q ag30 (by exact Q)) Q Q Q Q (Op11 (LT.bloadN (out := [(iC x.A),(iC x.B)]) Q ag112 (infS inf112) sz112 (by exact Q) (by exact Q)) Q Q Q Q (Os10 (LT.tbuildSlice (n := 29) (enc := encTBar) [(0,.tmp 51,(.agg [(iC x.A),(iC x.B)]))] [x] Q Q und30 ti112 Q Q Q Q (by decide) (fun _ => Q) Q) Q Q Q (Ob' fun u49 hu49 => (Os22 (LT.tappP (enc := encTBar) Q Q Q und30 ti112 Q (by decide) (by decide) (fun _ => Q) (lim_le hu49)) Q Q Q Q Q Q (Op10 (LT.fieldPl Q fo32_1) Q Q Q (Os21 (LT.bstore (v := (.c (lo 24 ((b29.2 ++ [x]).length)))) (out := [(iC g.Points),(lo 24 ((b29.2 ++ [x]).length))]) Q Q (infS inf30) sz30 (by exact Q) (by exact K Q) (by exact Q)) Q Q Q Q Q (On (AWR.nil ⟨Q,Ent.of z2 z3⟩))))))))))
   ·refine AWR.skip (AWR.nil ⟨Q,Ent.of z2 z3⟩)
  ·refine Ws (Wr ?_)
   refine Op11 (LT.bloadN (out := [(iC g.Points),(lo 24 j47.length)]) Q ag32 (infS inf32) sz32 (by exact Q) (by exact Q)) Q Q Q Q (Os21 (LT.bstore (v := (.agg [(iC g.Points),(lo 24 j47.length)])) (out := [(iC g.Points),(lo 24 j47.length)]) Q Q (infS inf32) sz32 (by exact Q) (by exact K Q) (by exact Q)) Q Q Q Q Q (On (en [(4,(Cc (.pl 23 0)))] [(23,(.row 32 [[(iC g.Points),(lo 24 j47.length)]])),(24,(pR 112 encTBar j47))] z1 z2 (AWR.ent (Ent.mv 24 0 Q Q) (en [(4,(Cc (.pl 23 0)))] [(0,(pR 112 encTBar j47)),(23,(.row 32 [[(iC g.Points),(lo 0 j47.length)]]))] z1 z2 (AWR.ret (FPost.mk (.inr Q) ⟨⟨_,_,_,Q,Q,Q,ag32,sz32,_,(infS inf32)⟩,J⟩ z1 Q ⟨⟨PermP.sc,J,J⟩,J⟩ ⟨PermO.prow' perm_encTBar,J⟩)))))))
end Go.Proofs.Yteognanhfpbghaa
end
section
set_option linter.unusedVariables false
set_option linter.unusedSimpArgs false
set_option linter.unnecessarySimpa false
set_option maxRecDepth 100000
set_option maxHeartbeats 8000000
open Go Go.Fw
namespace Go.Proofs.Yteognanhfpbghaa
theorem w_spec_l6Laman (c : Tl1Cur) (n : Int) : ∀ t,m_spec_l6Laman c n = some t → Fw.Fn Try.prog 171 [(.c (.pl 0 0)),(.c (iC n))] [(0,(.row 139 [[(xT encInt_u8 c.b),(iC c.i),(iC c.h)]]))] (.s (.agg [(iC t.1.Points),(lo 1 t.1.Bars.length)])) [(0,(.row 139 [[(xT encInt_u8 t.2.b),(iC t.2.i),(iC t.2.h)]])),(1,(pR 112 encTBar t.1.Bars))] [0] [1] := by
 refine Fw.Fn.of (P := Try.prog) (X := [1]) (pn := [0]) (rs := (fun (t : (TGraph × Tl1Cur)) => [(.agg [(iC t.1.Points),(lo 1 t.1.Bars.length)])])) (dfs := (fun (t : (TGraph × Tl1Cur)) => [(0,(.row 139 [[(xT encInt_u8 t.2.b),(iC t.2.i),(iC t.2.h)]])),(1,(pR 112 encTBar t.1.Bars))])) Try.func171 Q Try.ntmps171 (K Q) Q ?_
 intro w0 U0 R0 g0
 unfold m_spec_l6Laman
 refine Ws (Wr ?_)
 refine Os00 (LT.alloc (n := 21) (cells := [(iC 0),(sC nilV)]) Q ti32 Q Q Q) Q Q (On (Ws (Wr ?_)))
 refine mv (Iv n) Q Q Q Q (Os00 (LT.tbuildSlice (n := 22) (enc := encTBar) [] ([] : List TBar) Q Q und30 ti112 Q Q Q Q (by decide) (fun _ => Q) Q) Q Q (Op20 (LT.build [(0,.tmp 12,(.c (iC n))),(1,.tmp 13,(.c (lo 22 (([] : List TBar).length))))] Q Q pl32 ti32 Q Q Q) Q Q Q Q (Os00 (LT.alloc (n := 23) (cells := [(iC 0),(sC nilV)]) Q ti32 Q Q Q) Q Q (Os21 (LT.bstore (v := (.agg [(iC n),(lo 22 (([] : List TBar).length))])) (out := [(iC n),(lo 22 (([] : List TBar).length))]) Q Q (infS inf32) sz32 (by exact Q) (by exact K Q) (by exact Q)) Q Q Q Q Q (On (Ws (Ws ?_)))))))
 refine en [(0,(Cc (.pl 0 0))),(1,(Iv n)),(4,(Cc (.pl 21 0))),(5,(Cc (.pl 23 0)))] [(0,(.row 139 [[(xT encInt_u8 c.b),(iC c.i),(iC c.h)]])),(21,(.row 32 [[(iC 0),(sC nilV)]])),(22,(pR 112 encTBar ([] : List TBar))),(23,(.row 32 [[(iC n),(lo 22 (([] : List TBar).length))]]))] z4 z4 (Wr (mv (Iv n) Q Q Q Q (Op20 (LT.lss Q) Q y2 Q Q (On (AWR.cond Q (fun hc1 => ?_) (fun hc1 => ?_))))))
 ·refine Ws (Wr ?_)
  refine Op11 (LT.bloadN (out := [(iC n),(lo 22 (([] : List TBar).length))]) Q ag32 (infS inf32) sz32 (by exact Q) (by exact Q)) Q Q Q Q (Os21 (LT.bstore (v := (.agg [(iC n),(lo 22 (([] : List TBar).length))])) (out := [(iC n),(lo 22 (([] : List TBar).length))]) Q Q (infS inf32) sz32 (by exact Q) (by exact K Q) (by exact Q)) Q Q Q Q Q (On (en [(4,(Cc (.pl 21 0)))] [(0,(.row 139 [[(xT encInt_u8 c.b),(iC c.i),(iC c.h)]])),(21,(.row 32 [[(iC n),(lo 22 (([] : List TBar).length))]])),(22,(pR 112 encTBar ([] : List TBar)))] z1 z3 (AWR.ent (Ent.mv 22 1 Q Q) (en [(4,(Cc (.pl 21 0)))] [(0,(.row 139 [[(xT encInt_u8 c.b),(iC c.i),(iC c.h)]])),(1,(pR 112 encTBar ([] : List TBar))),(21,(.row 32 [[(iC n),(lo 1 (([] : List TBar).length))]]))] z1 z3 (AWR.ret (FPost.mk (.inr Q) ⟨⟨_,_,_,Q,Q,Q,ag32,sz32,_,(infS inf32)⟩,J⟩ z2 Q ⟨⟨PermP.sc,J,J⟩,J⟩ ⟨PermO.row1 ⟨(permC_xs perm_encInt_u8),PermP.sc,PermP.sc,J⟩,PermO.prow' perm_encTBar,J⟩)))))))
 ·refine AWR.skip (Ws (Wr ?_))
  refine Op11 (LT.bloadN (out := [(iC n),(lo 22 (([] : List TBar).length))]) Q ag32 (infS inf32) sz32 (by exact Q) (by exact Q)) Q Q Q Q (Op20 (LT.build [(0,.const (.int .i64 0),(.c (iC 0))),(1,.const (.int .i64 1),(.c (iC 1)))] Q Q pl112 ti112 Q Q Q) y2 y2 Q Q (Ob' fun r2 hr2 => (AOR.step (@LT.callF Try.prog _ _ 112 _ _ [(.agg [(iC n),(lo 22 (([] : List TBar).length))]),(.agg [(iC 0),(iC 1)])] _ _ [(22,(pR 112 encTBar ([] : List TBar)))] _ _ _ _ ((show Fw.Fn Try.prog 112 [(.agg [(iC ((TGraph.mk n ([] : List TBar)).Points)),(xF encTBar ((TGraph.mk n ([] : List TBar)).Bars))]),(.agg [(iC ((TBar.mk 0 1).A)),(iC ((TBar.mk 0 1).B))])] [] (Ag  [(iC r2.Points),(lo 25 r2.Bars.length)]) [(25,(pR 112 encTBar r2.Bars))] [] [25] from Fw.Fn.ren [(0,25)] (w_spec_l2Put (TGraph.mk n ([] : List TBar)) (TBar.mk 0 1) r2 hr2) Q)) Q cb112 (.cons (.agg (.cons (.same Q) (.cons (.tloc Q Q) .nil))) (.cons (.agg (.cons (.same Q) (.cons (.same Q) .nil))) .nil)) Q Q J) z3 z1 Q Q (Os21 (LT.bstore (v := (.agg [(iC r2.Points),(lo 25 r2.Bars.length)])) (out := [(iC r2.Points),(lo 25 r2.Bars.length)]) Q Q (infS inf32) sz32 (by exact Q) (by exact K Q) (by exact Q)) Q Q Q Q Q (On (Ws (Ws (Wr ?_))))))))
  refine asg (Iv 2) Q y2 Q Q (On (AWR.block ?_))
  refine AWR.loop1 (id := 0) (m_spec_l6Laman_L5 n) (fun s3 => ([(0,(Cc (.pl 0 0))),(1,(Iv n)),(4,(Cc (.pl 21 0))),(5,(Cc (.pl 23 0))),(6,(Iv s3.1))],[(0,(.row 139 [[(xT encInt_u8 s3.2.1),(iC s3.2.2.1),(iC s3.2.2.2.1)]])),(21,(.row 32 [[(iC 0),(sC nilV)]])),(23,(.row 32 [[(iC s3.2.2.2.2.1),(lo 25 s3.2.2.2.2.2.length)]])),(25,(pR 112 encTBar s3.2.2.2.2.2))])) (fun b103 => ([(4,(Cc (.pl 21 0))),(5,(Cc (.pl 23 0)))],[(0,(.row 139 [[(xT encInt_u8 b103.1),(iC b103.2.1),(iC b103.2.2.1)]])),(21,(.row 32 [[(iC 0),(sC nilV)]])),(23,(.row 32 [[(iC b103.2.2.2.1),(lo 25 b103.2.2.2.2.length)]])),(25,(pR 112 encTBar b103.2.2.2.2))])) ?_ (Ent.of z5 z4) Q (fun b103 _ => ?_)
  ·intro s3
   unfold m_spec_l6Laman_L5
   refine Ws (Ws (Wr ?_))
   refine mv (Iv s3.1) Q Q Q Q (mv (Iv n) Q Q Q Q (Op20 (LT.lss Q) Q Q Q Q (On (AWR.cond Q (fun hc104 => ?_) (fun hc104 => ?_)))))
   ·refine AWR.skip (Ws (AWR.block (Ws (Wr ?_))))
    refine mv (Cc (.pl 0 0)) Q Q Q Q (mv (Iv s3.1) Q Q Q Q (Ob' fun r105 hr105 => (AOR.step (@LT.callF Try.prog _ _ 145 _ _ [(.c (.pl 0 0)),(.c (iC s3.1))] _ _ [] _ _ _ _ ((show Fw.Fn Try.prog 145 [(.c (.pl 0 0)),(.c (iC s3.1))] [(0,(.row 139 [[(xT encInt_u8 s3.2.1),(iC s3.2.2.1),(iC s3.2.2.2.1)]]))] (Iv r105.1) [(0,(.row 139 [[(xT encInt_u8 r105.2.b),(iC r105.2.i),(iC r105.2.h)]]))] [0] [] from Fw.Fn.ren [(0,0)] (w_spec_l1Below (Tl1Cur.mk s3.2.1 s3.2.2.1 s3.2.2.2.1) s3.1 r105 hr105) Q)) Q cb145 (.cons (.c (.same Q)) (.cons (.c (.same Q)) .nil)) Q Q z1) z3 z1 Q Q (asg (Iv r105.1) Q Q Q Q (On (Ws (Wr ?_)))))))
    refine mv (Iv r105.1) Q Q Q Q (Op20 (LT.add Q) Q y2 Q Q (mv (Cc (.pl 0 0)) Q Q Q Q (mv (Iv s3.1) Q Q Q Q (Op20 (LT.sub Q) Q y2 Q Q (Ob' fun r106 hr106 => (AOR.step (@LT.callF Try.prog _ _ 145 _ _ [(.c (.pl 0 0)),(.c (iC (w64 (s3.1 - 1))))] _ _ [] _ _ _ _ ((show Fw.Fn Try.prog 145 [(.c (.pl 0 0)),(.c (iC (w64 (s3.1 - 1))))] [(0,(.row 139 [[(xT encInt_u8 r105.2.b),(iC r105.2.i),(iC r105.2.h)]]))] (Iv r106.1) [(0,(.row 139 [[(xT encInt_u8 r106.2.b),(iC r106.2.i),(iC r106.2.h)]]))] [0] [] from Fw.Fn.ren [(0,0)] (w_spec_l1Below r105.2 (w64 (s3.1 - 1)) r106 hr106) Q)) Q cb145 (.cons (.c (.same Q)) (.cons (.c (.same Q)) .nil)) Q Q z1) z3 z1 Q Q (Op20 (LT.add Q) Q Q Q Q (mv (Iv s3.1) Q Q Q Q (Ob' fun u107 hu107 => (Op20 (LT.rem Q (nz_ne hu107)) Q Q Q Q (asg (Iv (Int.tmod (w64 ((w64 (r105.1 + 1)) + r106.1)) s3.1)) Q Q Q Q ?_)))))))))))
    refine On (Ws ?_)
    refine AWR.joinK (fun j110 => ([(0,(Cc (.pl 0 0))),(1,(Iv n)),(4,(Cc (.pl 21 0))),(5,(Cc (.pl 23 0))),(6,(Iv s3.1)),(7,(Iv r105.1)),(8,(Iv (Int.tmod (w64 ((w64 (r105.1 + 1)) + r106.1)) s3.1))),(43,(Bv j110.1))],[(0,(.row 139 [[(xT encInt_u8 j110.2.1),(iC j110.2.2.1),(iC j110.2.2.2)]])),(21,(.row 32 [[(iC 0),(sC nilV)]])),(23,(.row 32 [[(iC s3.2.2.2.2.1),(lo 25 s3.2.2.2.2.2.length)]])),(25,(pR 112 encTBar s3.2.2.2.2.2))])) ?_ (fun j110 _ => ?_)
    ·refine en [(0,(Cc (.pl 0 0))),(1,(Iv n)),(4,(Cc (.pl 21 0))),(5,(Cc (.pl 23 0))),(6,(Iv s3.1)),(7,(Iv r105.1)),(8,(Iv (Int.tmod (w64 ((w64 (r105.1 + 1)) + r106.1)) s3.1)))] [(0,(.row 139 [[(xT encInt_u8 r106.2.b),(iC r106.2.i),(iC r106.2.h)]])),(21,(.row 32 [[(iC 0),(sC nilV)]])),(23,(.row 32 [[(iC s3.2.2.2.2.1),(lo 25 s3.2.2.2.2.2.length)]])),(25,(pR 112 encTBar s3.2.2.2.2.2))] z7 z4 (Wr (mv (Cc (.pl 0 0)) Q Q Q Q (Ob' fun r111 hr111 => (AOR.step (@LT.callF Try.prog _ _ 104 _ _ [(.c (.pl 0 0)),(.c (iC 2))] _ _ [] _ _ _ _ ((show Fw.Fn Try.prog 104 [(.c (.pl 0 0)),(.c (iC 2))] [(0,(.row 139 [[(xT encInt_u8 r106.2.b),(iC r106.2.i),(iC r106.2.h)]]))] (Bv r111.1) [(0,(.row 139 [[(xT encInt_u8 r111.2.b),(iC r111.2.i),(iC r111.2.h)]]))] [0] [] from Fw.Fn.ren [(0,0)] (w_spec_l1Once r106.2 2 r111 hr111) Q)) Q cb104 (.cons (.c (.same Q)) (.cons (.c (.same Q)) .nil)) Q Q z1) ⟨Q,Q,y2,J⟩ z1 Q Q (mv (Bv r111.1) Q Q Q Q (AOR.split (fun hb112 => ?_) (fun hb112 => ?_)))))))
     ·refine mv (Iv s3.1) Q Q (gH hb112 Q Q) Q (Op20 (LT.gtr Q) Q y2 (gH hb112 Q Q) Q (Op20 (LT.pickT (v := (Bv (decide (2 < s3.1)))) Q hb112) Q Q Q Q (On (AWR.nil ⟨Q,Ent.of z8 z4⟩))))
     ·refine Ok Q Q Q (by rw [hb112]; rfl) Q (Ok Q Q Q (by rw [hb112]; rfl) Q (Op20 (LT.pickF (v := (Bv false)) Q hb112) Q y2 Q Q (On (AWR.nil ⟨Q,Ent.of z8 z4⟩))))
    ·refine AWR.joinK (fun j133 => ([(0,(Cc (.pl 0 0))),(1,(Iv n)),(4,(Cc (.pl 21 0))),(5,(Cc (.pl 23 0))),(6,(Iv j133.1))],[(0,(.row 139 [[(xT encInt_u8 j133.2.1),(iC j133.2.2.1),(iC j133.2.2.2.1)]])),(21,(.row 32 [[(iC 0),(sC nilV)]])),(23,(.row 32 [[(iC j133.2.2.2.2.1),(lo 39 j133.2.2.2.2.2.length)]])),(39,(pR 112 encTBar j133.2.2.2.2.2))])) ?_ (fun j133 _ => ?_)
     ·refine AWR.cond Q (fun hc134 => ?_) (fun hc134 => ?_)
      ·refine Ws (Wr ?_)
       refine mv (Cc (.pl 0 0)) Q Q Q Q (Op10 (LT.fieldPl Q fo32_1) Q Q Q (Op11 (LT.bload1 (c := (lo 25 s3.2.2.2.2.2.length)) Q ag30 (by exact Q)) Q Q Q Q (Op10 (LT.lenLoc Q und30) Q Q Q (Ob' fun r135 hr135 => (AOR.step (@LT.callF Try.prog _ _ 145 _ _ [(.c (.pl 0 0)),(.c (iC (s3.2.2.2.2.2.length : Int)))] _ _ [] _ _ _ _ ((show Fw.Fn Try.prog 145 [(.c (.pl 0 0)),(.c (iC (s3.2.2.2.2.2.length : Int)))] [(0,(.row 139 [[(xT encInt_u8 j110.2.1),(iC j110.2.2.1),(iC j110.2.2.2)]]))] (Iv r135.1) [(0,(.row 139 [[(xT encInt_u8 r135.2.b),(iC r135.2.i),(iC r135.2.h)]]))] [0] [] from Fw.Fn.ren [(0,0)] (w_spec_l1Below (Tl1Cur.mk j110.2.1 j110.2.2.1 j110.2.2.2) (s3.2.2.2.2.2.length : Int) r135 hr135) Q)) Q cb145 (.cons (.c (.same Q)) (.cons (.c (.same Q)) .nil)) Q Q z1) z3 z1 Q Q (asg (Iv r135.1) Q Q Q Q (On (Ws (Wr ?_)))))))))
       refine Op10 (LT.fieldPl Q fo32_1) Q Q Q (Op11 (LT.bload1 (c := (lo 25 s3.2.2.2.2.2.length)) Q ag30 (by exact Q)) Q Q Q Q (mv (Iv r135.1) Q Q Q Q (Ob' fun x136 hx136 => (Op21 (LT.tindexLoc Q Q el30 hx136) Q Q Q Q Q (Op11 (LT.tloadN Q ag112 (infS inf112) sz112 hx136 (by exact Q) (by exact Q)) Q Q Q Q (Os00 (LT.alloc (n := 30) (cells := [(iC 0),(iC 0)]) Q ti112 Q Q Q) Q Q (Os21 (LT.bstore (v := (.agg [(iC x136.A),(iC x136.B)])) (out := [(iC x136.A),(iC x136.B)]) Q Q (infS inf112) sz112 (by exact Q) (by exact K Q) (by exact Q)) Q Q Q Q Q (On (Ws ?_)))))))))
       refine en [(0,(Cc (.pl 0 0))),(1,(Iv n)),(4,(Cc (.pl 21 0))),(5,(Cc (.pl 23 0))),(6,(Iv s3.1)),(9,(Iv r135.1)),(10,(Cc (.pl 30 0)))] [(0,(.row 139 [[(xT encInt_u8 r135.2.b),(iC r135.2.i),(iC r135.2.h)]])),(21,(.row 32 [[(iC 0),(sC nilV)]])),(23,(.row 32 [[(iC s3.2.2.2.2.1),(lo 25 s3.2.2.2.2.2.length)]])),(25,(pR 112 encTBar s3.2.2.2.2.2)),(30,(.row 112 [[(iC x136.A),(iC x136.B)]]))] z7 z5 (Wr (asg (Iv 0) Q y2 Q Q (On (Ws (AWR.block ?_)))))
       refine AWR.loop1 (id := 2) (m_spec_l6Laman_L7 s3 r135 x136) (fun s137 => ([(0,(Cc (.pl 0 0))),(1,(Iv n)),(4,(Cc (.pl 21 0))),(5,(Cc (.pl 23 0))),(6,(Iv s3.1)),(9,(Iv r135.1)),(10,(Cc (.pl 30 0))),(11,(Iv s137))],[(0,(.row 139 [[(xT encInt_u8 r135.2.b),(iC r135.2.i),(iC r135.2.h)]])),(21,(.row 32 [[(iC 0),(sC nilV)]])),(23,(.row 32 [[(iC s3.2.2.2.2.1),(lo 25 s3.2.2.2.2.2.length)]])),(25,(pR 112 encTBar s3.2.2.2.2.2)),(30,(.row 112 [[(iC x136.A),(iC x136.B)]]))])) (fun b146 => ([(0,(Cc (.pl 0 0))),(1,(Iv n)),(4,(Cc (.pl 21 0))),(5,(Cc (.pl 23 0))),(6,(Iv b146.1)),(9,(Iv b146.2.1)),(10,(Cc (.pl 30 0))),(11,(Iv b146.2.2.1))],[(0,(.row 139 [[(xT encInt_u8 b146.2.2.2.1),(iC b146.2.2.2.2.1),(iC b146.2.2.2.2.2.1)]])),(21,(.row 32 [[(iC 0),(sC nilV)]])),(23,(.row 32 [[(iC b146.2.2.2.2.2.2.1),(lo 25 b146.2.2.2.2.2.2.2.1.length)]])),(25,(pR 112 encTBar b146.2.2.2.2.2.2.2.1)),(30,(.row 112 [[(iC b146.2.2.2.2.2.2.2.2.1),(iC b146.2.2.2.2.2.2.2.2.2)]]))])) ?_ (Ent.of z8 z5) Q (fun b146 _ => ?_)
       ·intro s137
        unfold m_spec_l6Laman_L7
        refine Ws (Ws ?_)
        refine AWR.joinK (fun j148 => ([(0,(Cc (.pl 0 0))),(1,(Iv n)),(4,(Cc (.pl 21 0))),(5,(Cc (.pl 23 0))),(6,(Iv s3.1)),(9,(Iv r135.1)),(10,(Cc (.pl 30 0))),(11,(Iv s137)),(63,(Bv j148))],[(0,(.row 139 [[(xT encInt_u8 r135.2.b),(iC r135.2.i),(iC r135.2.h)]])),(21,(.row 32 [[(iC 0),(sC nilV)]])),(23,(.row 32 [[(iC s3.2.2.2.2.1),(lo 25 s3.2.2.2.2.2.length)]])),(25,(pR 112 encTBar s3.2.2.2.2.2)),(30,(.row 112 [[(iC x136.A),(iC x136.B)]]))])) ?_ (fun j148 _ => ?_)
        ·refine Wr (mv (Iv s137) Q Q Q Q (Op10 (LT.fieldPl Q fo112_0) Q Q Q (Op11 (LT.bload1 (c := (iC x136.A)) Q ag3 (by exact Q)) Q Q Q Q (Op20 (LT.eql Q) Q Q Q Q (mv (Bv (s137 == x136.A)) Q Q Q Q (AOR.split (fun hb149 => ?_) (fun hb149 => ?_)))))))
         ·refine Ok Q Q Q (by rw [hb149]; rfl) Q (Ok Q Q Q (by rw [hb149]; rfl) Q (Ok Q Q Q (by rw [hb149]; rfl) Q (Ok Q Q Q (by rw [hb149]; rfl) Q (Op20 (LT.pickT (v := (Bv true)) Q hb149) Q y2 Q Q (On (AWR.nil ⟨Q,Ent.of z9 z5⟩))))))
         ·refine mv (Iv s137) Q Q (gH hb149 Q Q) Q (Op10 (LT.fieldPl Q fo112_1) Q (gH hb149 Q Q) Q (Op11 (LT.bload1 (c := (iC x136.B)) Q ag3 (by exact Q)) Q Q (gH hb149 Q Q) Q (Op20 (LT.eql Q) Q Q (gH hb149 Q Q) Q (Op20 (LT.pickF (v := (Bv (s137 == x136.B))) Q hb149) Q Q Q Q (On (AWR.nil ⟨Q,Ent.of z9 z5⟩))))))
        ·refine AWR.cond Q (fun hc150 => ?_) (fun hc150 => ?_)
         ·refine AWR.skip (AWR.block (Wr ?_))
          refine mv (Iv s137) Q Q Q Q (Op20 (LT.add Q) Q y2 Q Q (asg (Iv (w64 (s137 + 1))) Q Q Q Q (On (AWR.blk ?_))))
          refine AWR.nil ⟨Q,Ent.of z8 z5⟩
         ·refine AWR.exit_end Q ⟨Q,Ent.of z8 z5⟩
       ·refine Ws (Wr ?_)
        refine mv (Cc (.pl 0 0)) Q Q Q Q (mv (Iv b146.1) Q Q Q Q (Op11 (LT.bloadN (out := [(iC b146.2.2.2.2.2.2.2.2.1),(iC b146.2.2.2.2.2.2.2.2.2)]) Q ag112 (infS inf112) sz112 (by exact Q) (by exact Q)) Q Q Q Q (mv (Iv b146.2.2.1) Q Q Q Q (Ob' fun r151 hr151 => (AOR.step (@LT.callF Try.prog _ _ 206 _ _ [(.c (.pl 0 0)),(.c (iC b146.1)),(.agg [(iC b146.2.2.2.2.2.2.2.2.1),(iC b146.2.2.2.2.2.2.2.2.2)]),(.c (iC b146.2.2.1))] _ _ [] _ _ _ _ ((show Fw.Fn Try.prog 206 [(.c (.pl 0 0)),(.c (iC b146.1)),(.agg [(iC ((TBar.mk b146.2.2.2.2.2.2.2.2.1 b146.2.2.2.2.2.2.2.2.2).A)),(iC ((TBar.mk b146.2.2.2.2.2.2.2.2.1 b146.2.2.2.2.2.2.2.2.2).B))]),(.c (iC b146.2.2.1))] [(0,(.row 139 [[(xT encInt_u8 b146.2.2.2.1),(iC b146.2.2.2.2.1),(iC b146.2.2.2.2.2.1)]]))] (Iv r151.1) [(0,(.row 139 [[(xT encInt_u8 r151.2.b),(iC r151.2.i),(iC r151.2.h)]]))] [0] [] from Fw.Fn.ren [(0,0)] (w_spec_l6Third (Tl1Cur.mk b146.2.2.2.1 b146.2.2.2.2.1 b146.2.2.2.2.2.1) b146.1 (TBar.mk b146.2.2.2.2.2.2.2.2.1 b146.2.2.2.2.2.2.2.2.2) b146.2.2.1 r151 hr151) Q)) Q cb206 (.cons (.c (.same Q)) (.cons (.c (.same Q)) (.cons (.agg (.cons (.same Q) (.cons (.same Q) .nil))) (.cons (.c (.same Q)) .nil)))) Q Q z1) z5 z1 Q Q (asg (Iv r151.1) Q Q Q Q (On (Ws (Wr ?_)))))))))
        refine Op11 (LT.bloadN (out := [(iC b146.2.2.2.2.2.2.1),(lo 25 b146.2.2.2.2.2.2.2.1.length)]) Q ag32 (infS inf32) sz32 (by exact Q) (by exact Q)) Q Q Q Q (mv (Iv b146.2.1) Q Q Q Q (Ob' fun r152 hr152 => (AOR.step (@LT.callF Try.prog _ _ 207 _ _ [(.agg [(iC b146.2.2.2.2.2.2.1),(lo 25 b146.2.2.2.2.2.2.2.1.length)]),(.c (iC b146.2.1))] _ _ [(25,(pR 112 encTBar b146.2.2.2.2.2.2.2.1))] _ _ _ _ ((show Fw.Fn Try.prog 207 [(.agg [(iC ((TGraph.mk b146.2.2.2.2.2.2.1 b146.2.2.2.2.2.2.2.1).Points)),(xF encTBar ((TGraph.mk b146.2.2.2.2.2.2.1 b146.2.2.2.2.2.2.2.1).Bars))]),(.c (iC b146.2.1))] [] (.tup [(.agg [(iC r152.1.Points),(lo 33 r152.1.Bars.length)]),(.c (bC r152.2))]) [(33,(pR 112 encTBar r152.1.Bars))] [] [33] from Fw.Fn.ren [(0,33)] (w_spec_RemoveBar (TGraph.mk b146.2.2.2.2.2.2.1 b146.2.2.2.2.2.2.2.1) b146.2.1 r152 hr152) Q)) Q cb207 (.cons (.agg (.cons (.same Q) (.cons (.tloc Q Q) .nil))) (.cons (.c (.same Q)) .nil)) Q Q J) z3 z1 Q Q (mv (.tup [(.agg [(iC r152.1.Points),(lo 33 r152.1.Bars.length)]),(.c (bC r152.2))]) Q Q Q Q (Op10 (LT.extract (v := (.agg [(iC r152.1.Points),(lo 33 r152.1.Bars.length)])) Q (by exact Q)) Q Q Q (Op10 (LT.extract (v := (.c (bC r152.2))) Q (by exact Q)) Q Q Q (Os21 (LT.bstore (v := (.agg [(iC r152.1.Points),(lo 33 r152.1.Bars.length)])) (out := [(iC r152.1.Points),(lo 33 r152.1.Bars.length)]) Q Q (infS inf32) sz32 (by exact Q) (by exact K Q) (by exact Q)) Q Q Q Q Q (On (en [(0,(Cc (.pl 0 0))),(1,(Iv n)),(4,(Cc (.pl 21 0))),(5,(Cc (.pl 23 0))),(6,(Iv b146.1)),(10,(Cc (.pl 30 0))),(11,(Iv r151.1))] [(0,(.row 139 [[(xT encInt_u8 r151.2.b),(iC r151.2.i),(iC r151.2.h)]])),(21,(.row 32 [[(iC 0),(sC nilV)]])),(23,(.row 32 [[(iC r152.1.Points),(lo 33 r152.1.Bars.length)]])),(30,(.row 112 [[(iC b146.2.2.2.2.2.2.2.2.1),(iC b146.2.2.2.2.2.2.2.2.2)]])),(33,(pR 112 encTBar r152.1.Bars))] z7 z5 (AWR.draw mixed (Dp11 (LT.bloadN (out := [(iC r152.1.Points),(lo 33 r152.1.Bars.length)]) Q ag32 (infS inf32) sz32 (by exact Q) (by exact Q)) Q Q Q Q ?_)))))))))))
        refine Dp10 (LT.fieldPl Q fo112_0) Q Q Q (Dp11 (LT.bload1 (c := (iC b146.2.2.2.2.2.2.2.2.1)) Q ag3 (by exact Q)) Q Q Q Q (Dp10 (LT.move (v := (Iv b146.1)) Q) Q Q Q (Dp20 (LT.build [(0,.tmp 79,(.c (iC b146.2.2.2.2.2.2.2.2.1))),(1,.tmp 80,(.c (iC b146.1)))] Q Q pl112 ti112 Q Q Q) Q Q Q Q (AOD.bind fun r153 hr153 => (AOD.step (@LT.callF Try.prog _ _ 112 _ _ [(.agg [(iC r152.1.Points),(lo 33 r152.1.Bars.length)]),(.agg [(iC b146.2.2.2.2.2.2.2.2.1),(iC b146.1)])] _ _ [(33,(pR 112 encTBar r152.1.Bars))] _ _ _ _ ((show Fw.Fn Try.prog 112 [(.agg [(iC r152.1.Points),(xF encTBar r152.1.Bars)]),(.agg [(iC ((TBar.mk b146.2.2.2.2.2.2.2.2.1 b146.1).A)),(iC ((TBar.mk b146.2.2.2.2.2.2.2.2.1 b146.1).B))])] [] (Ag  [(iC r153.Points),(lo 35 r153.Bars.length)]) [(35,(pR 112 encTBar r153.Bars))] [] [35] from Fw.Fn.ren [(0,35)] (w_spec_l2Put r152.1 (TBar.mk b146.2.2.2.2.2.2.2.2.1 b146.1) r153 hr153) Q)) Q cb112 (.cons (.agg (.cons (.same Q) (.cons (.tloc Q Q) .nil))) (.cons (.agg (.cons (.same Q) (.cons (.same Q) .nil))) .nil)) Q Q J) z3 z1 Q Q (Dp10 (LT.fieldPl Q fo112_1) Q Q Q (Dp11 (LT.bload1 (c := (iC b146.2.2.2.2.2.2.2.2.2)) Q ag3 (by exact Q)) Q Q Q Q (Dp10 (LT.move (v := (Iv b146.1)) Q) Q Q Q (Dp20 (LT.build [(0,.tmp 84,(.c (iC b146.2.2.2.2.2.2.2.2.2))),(1,.tmp 85,(.c (iC b146.1)))] Q Q pl112 ti112 Q Q Q) Q Q Q Q (AOD.bind fun r154 hr154 => (AOD.step (@LT.callF Try.prog _ _ 112 _ _ [(.agg [(iC r153.Points),(lo 35 r153.Bars.length)]),(.agg [(iC b146.2.2.2.2.2.2.2.2.2),(iC b146.1)])] _ _ [(35,(pR 112 encTBar r153.Bars))] _ _ _ _ ((show Fw.Fn Try.prog 112 [(.agg [(iC r153.Points),(xF encTBar r153.Bars)]),(.agg [(iC ((TBar.mk b146.2.2.2.2.2.2.2.2.2 b146.1).A)),(iC ((TBar.mk b146.2.2.2.2.2.2.2.2.2 b146.1).B))])] [] (Ag  [(iC r154.Points),(lo 37 r154.Bars.length)]) [(37,(pR 112 encTBar r154.Bars))] [] [37] from Fw.Fn.ren [(0,37)] (w_spec_l2Put r153 (TBar.mk b146.2.2.2.2.2.2.2.2.2 b146.1) r154 hr154) Q)) Q cb112 (.cons (.agg (.cons (.same Q) (.cons (.tloc Q Q) .nil))) (.cons (.agg (.cons (.same Q) (.cons (.same Q) .nil))) .nil)) Q Q J) z3 z1 Q Q ?_)))))))))))
        refine Dp10 (LT.move (v := (Iv r151.1)) Q) Q Q Q (Dp10 (LT.move (v := (Iv b146.1)) Q) Q Q Q (Dp20 (LT.build [(0,.tmp 88,(.c (iC r151.1))),(1,.tmp 89,(.c (iC b146.1)))] Q Q pl112 ti112 Q Q Q) Q Q Q Q (AOD.bind fun r155 hr155 => (AOD.step (@LT.callF Try.prog _ _ 112 _ _ [(.agg [(iC r154.Points),(lo 37 r154.Bars.length)]),(.agg [(iC r151.1),(iC b146.1)])] _ _ [(37,(pR 112 encTBar r154.Bars))] _ _ _ _ ((show Fw.Fn Try.prog 112 [(.agg [(iC r154.Points),(xF encTBar r154.Bars)]),(.agg [(iC ((TBar.mk r151.1 b146.1).A)),(iC ((TBar.mk r151.1 b146.1).B))])] [] (Ag  [(iC r155.Points),(lo 39 r155.Bars.length)]) [(39,(pR 112 encTBar r155.Bars))] [] [39] from Fw.Fn.ren [(0,39)] (w_spec_l2Put r154 (TBar.mk r151.1 b146.1) r155 hr155) Q)) Q cb112 (.cons (.agg (.cons (.same Q) (.cons (.tloc Q Q) .nil))) (.cons (.agg (.cons (.same Q) (.cons (.same Q) .nil))) .nil)) Q Q J) z3 z1 Q Q (Ds21 (LT.bstore (v := (.agg [(iC r155.Points),(lo 39 r155.Bars.length)])) (out := [(iC r155.Points),(lo 39 r155.Bars.length)]) Q Q (infS inf32) sz32 (by exact Q) (by exact K Q) (by exact Q)) Q Q Q Q Q (AOD.nil (by kernel_rfl) (AWR.nil ⟨Q,Ent.of z5 z4⟩)))))))
      ·refine Wr (Op11 (LT.bloadN (out := [(iC s3.2.2.2.2.1),(lo 25 s3.2.2.2.2.2.length)]) Q ag32 (infS inf32) sz32 (by exact Q) (by exact Q)) Q Q Q Q (mv (Iv r105.1) Q Q Q Q (mv (Iv s3.1) Q Q Q Q (Op20 (LT.build [(0,.tmp 93,(.c (iC r105.1))),(1,.tmp 94,(.c (iC s3.1)))] Q Q pl112 ti112 Q Q Q) Q Q Q Q (Ob' fun r156 hr156 => (AOR.step (@LT.callF Try.prog _ _ 112 _ _ [(.agg [(iC s3.2.2.2.2.1),(lo 25 s3.2.2.2.2.2.length)]),(.agg [(iC r105.1),(iC s3.1)])] _ _ [(25,(pR 112 encTBar s3.2.2.2.2.2))] _ _ _ _ ((show Fw.Fn Try.prog 112 [(.agg [(iC ((TGraph.mk s3.2.2.2.2.1 s3.2.2.2.2.2).Points)),(xF encTBar ((TGraph.mk s3.2.2.2.2.1 s3.2.2.2.2.2).Bars))]),(.agg [(iC ((TBar.mk r105.1 s3.1).A)),(iC ((TBar.mk r105.1 s3.1).B))])] [] (Ag  [(iC r156.Points),(lo 41 r156.Bars.length)]) [(41,(pR 112 encTBar r156.Bars))] [] [41] from Fw.Fn.ren [(0,41)] (w_spec_l2Put (TGraph.mk s3.2.2.2.2.1 s3.2.2.2.2.2) (TBar.mk r105.1 s3.1) r156 hr156) Q)) Q cb112 (.cons (.agg (.cons (.same Q) (.cons (.tloc Q Q) .nil))) (.cons (.agg (.cons (.same Q) (.cons (.same Q) .nil))) .nil)) Q Q J) z3 z1 Q Q (mv (Iv (Int.tmod (w64 ((w64 (r105.1 + 1)) + r106.1)) s3.1)) Q Q Q Q (mv (Iv s3.1) Q Q Q Q (Op20 (LT.build [(0,.tmp 97,(.c (iC (Int.tmod (w64 ((w64 (r105.1 + 1)) + r106.1)) s3.1)))),(1,.tmp 98,(.c (iC s3.1)))] Q Q pl112 ti112 Q Q Q) Q Q Q Q (Ob' fun r157 hr157 => (AOR.step (@LT.callF Try.prog _ _ 112 _ _ [(.agg [(iC r156.Points),(lo 41 r156.Bars.length)]),(.agg [(iC (Int.tmod (w64 ((w64 (r105.1 + 1)) + r106.1)) s3.1)),(iC s3.1)])] _ _ [(41,(pR 112 encTBar r156.Bars))] _ _ _ _ ((show Fw.Fn Try.prog 112 [(.agg [(iC r156.Points),(xF encTBar r156.Bars)]),(.agg [(iC ((TBar.mk (Int.tmod (w64 ((w64 (r105.1 + 1)) + r106.1)) s3.1) s3.1).A)),(iC ((TBar.mk (Int.tmod (w64 ((w64 (r105.1 + 1)) + r106.1)) s3.1) s3.1).B))])] [] (Ag  [(iC r157.Points),(lo 43 r157.Bars.length)]) [(43,(pR 112 encTBar r157.Bars))] [] [43] from Fw.Fn.ren [(0,43)] (w_spec_l2Put r156 (TBar.mk (Int.tmod (w64 ((w64 (r105.1 + 1)) + r106.1)) s3.1) s3.1) r157 hr157) Q)) Q cb112 (.cons (.agg (.cons (.same Q) (.cons (.tloc Q Q) .nil))) (.cons (.agg (.cons (.same Q) (.cons (.same Q) .nil))) .nil)) Q Q J) z3 z1 Q Q ?_)))))))))))
       refine Os21 (LT.bstore (v := (.agg [(iC r157.Points),(lo 43 r157.Bars.length)])) (out := [(iC r157.Points),(lo 43 r157.Bars.length)]) Q Q (infS inf32) sz32 (by exact Q) (by exact K Q) (by exact Q)) Q Q Q Q Q (On (en [(0,(Cc (.pl 0 0))),(1,(Iv n)),(4,(Cc (.pl 21 0))),(5,(Cc (.pl 23 0))),(6,(Iv s3.1))] [(0,(.row 139 [[(xT encInt_u8 j110.2.1),(iC j110.2.2.1),(iC j110.2.2.2)]])),(21,(.row 32 [[(iC 0),(sC nilV)]])),(23,(.row 32 [[(iC r157.Points),(lo 43 r157.Bars.length)]])),(43,(pR 112 encTBar r157.Bars))] z5 z4 (AWR.ent (Ent.mv 43 39 Q Q) (AWR.nil ⟨Q,Ent.of z5 z4⟩))))
     ·refine AWR.blk (Wr ?_)
      refine mv (Iv j133.1) Q Q Q Q (Op20 (LT.add Q) Q y2 Q Q (asg (Iv (w64 (j133.1 + 1))) Q Q Q Q (On (en [(0,(Cc (.pl 0 0))),(1,(Iv n)),(4,(Cc (.pl 21 0))),(5,(Cc (.pl 23 0))),(6,(Iv (w64 (j133.1 + 1))))] [(0,(.row 139 [[(xT encInt_u8 j133.2.1),(iC j133.2.2.1),(iC j133.2.2.2.1)]])),(21,(.row 32 [[(iC 0),(sC nilV)]])),(23,(.row 32 [[(iC j133.2.2.2.2.1),(lo 39 j133.2.2.2.2.2.length)]])),(39,(pR 112 encTBar j133.2.2.2.2.2))] z5 z4 (AWR.ent (Ent.mv 39 25 Q Q) (AWR.nil ⟨Q,Ent.of z5 z4⟩))))))
   ·refine AWR.exit_end Q ⟨Q,Ent.of z2 z4⟩
  ·refine Ws (Wr ?_)
   refine Op11 (LT.bloadN (out := [(iC b103.2.2.2.1),(lo 25 b103.2.2.2.2.length)]) Q ag32 (infS inf32) sz32 (by exact Q) (by exact Q)) Q Q Q Q (Os21 (LT.bstore (v := (.agg [(iC b103.2.2.2.1),(lo 25 b103.2.2.2.2.length)])) (out := [(iC b103.2.2.2.1),(lo 25 b103.2.2.2.2.length)]) Q Q (infS inf32) sz32 (by exact Q) (by exact K Q) (by exact Q)) Q Q Q Q Q (On (en [(4,(Cc (.pl 21 0)))] [(0,(.row 139 [[(xT encInt_u8 b103.1),(iC b103.2.1),(iC b103.2.2.1)]])),(21,(.row 32 [[(iC b103.2.2.2.1),(lo 25 b103.2.2.2.2.length)]])),(25,(pR 112 encTBar b103.2.2.2.2))] z1 z3 (AWR.ent (Ent.mv 25 1 Q Q) (en [(4,(Cc (.pl 21 0)))] [(0,(.row 139 [[(xT encInt_u8 b103.1),(iC b103.2.1),(iC b103.2.2.1)]])),(1,(pR 112 encTBar b103.2.2.2.2)),(21,(.row 32 [[(iC b103.2.2.2.1),(lo 1 b103.2.2.2.2.length)]]))] z1 z3 (AWR.ret (FPost.mk (.inr Q) ⟨⟨_,_,_,Q,Q,Q,ag32,sz32,_,(infS inf32)⟩,J⟩ z2 Q ⟨⟨PermP.sc,J,J⟩,J⟩ ⟨PermO.row1 ⟨(permC_xs perm_encInt_u8),PermP.sc,PermP.sc,J⟩,PermO.prow' perm_encTBar,J⟩)))))))
theorem w_spec_AddBar (g : TGraph) (a : Int) (b : Int) : ∀ t,m_spec_AddBar g a b = some t → Fw.Fn Try.prog 189 [(.agg [(iC g.Points),(xF encTBar g.Bars)]),(.c (iC a)),(.c (iC b))] [] (resA [(.agg [(iC t.1.Points),(lo 0 t.1.Bars.length)]),(.c (bC t.2))]) [(0,(pR 112 encTBar t.1.Bars))] [] [0] := by
 refine Fw.Fn.of (P := Try.prog) (X := [0]) (pn := []) (rs := (fun (t : (TGraph × Bool)) => [(.agg [(iC t.1.Points),(lo 0 t.1.Bars.length)]),(.c (bC t.2))])) (dfs := (fun (t : (TGraph × Bool)) => [(0,(pR 112 encTBar t.1.Bars))])) Try.func189 Q Try.ntmps189 (K Q) Q ?_
 intro w0 U0 R0 g0
 unfold m_spec_AddBar
 refine Ws (Wr ?_)
 refine Os10 (LT.box (n := 21) (v := (.agg [(iC g.Points),(xF encTBar g.Bars)])) Q sz32 (by exact Q)) Q Q Q (Os00 (LT.alloc (n := 22) (cells := [(iC 0),(sC nilV)]) Q ti32 Q Q Q) Q Q (asg (Bv false) Q y2 Q Q (On (Ws (Ws ?_)))))
 refine AWR.joinK (fun j8 => ([(1,(Iv a)),(2,(Iv b)),(3,(Cc (.pl 21 0))),(6,(Cc (.pl 22 0))),(41,(Bv j8))],[(21,(.row 32 [[(iC g.Points),(xF encTBar g.Bars)]])),(22,(.row 32 [[(iC 0),(sC nilV)]]))])) ?_ (fun j8 _ => ?_)
 ·refine Wr (Op11 (LT.bloadN (out := [(iC g.Points),(xF encTBar g.Bars)]) Q ag32 (infS inf32) sz32 (by exact Q) (by exact Q)) Q Q Q Q (Ob' fun r9 hr9 => (AOR.pure (@LT.callF Try.prog _ _ 61 _ _ [(.agg [(iC g.Points),(xF encTBar g.Bars)])] _ _ [] _ _ _ _ (w_spec_IsGraph g r9 hr9) Q cb61 (.cons (.agg (.cons (.same Q) (.cons (.same Q) .nil))) .nil) Q Q J) z2 J Q Q (Op10 (LT.not Q) Q Q Q (mv (Bv (!r9)) Q Q Q Q (AOR.split (fun hb10 => ?_) (fun hb10 => ?_)))))))
  ·refine Ok Q Q Q (by rw [hb10]; rfl) Q (Ok Q Q Q (by rw [hb10]; rfl) Q (Op20 (LT.pickT (v := (Bv true)) Q hb10) Q y2 Q Q (mv (Bv true) Q Q Q Q (Ok Q Q Q Q Q (Ok Q Q Q Q Q (Op20 (LT.pickT (v := (Bv true)) Q Q) Q y2 Q Q (mv (Bv true) Q Q Q Q (Ok Q Q Q Q Q (Ok Q Q Q Q Q (Ok Q Q Q Q Q (Ok Q Q Q Q Q ?_)))))))))))
   refine Op20 (LT.pickT (v := (Bv true)) Q Q) Q y2 Q Q (mv (Bv true) Q Q Q Q (Ok Q Q Q Q Q (Ok Q Q Q Q Q (Ok Q Q Q Q Q (Ok Q Q Q Q Q (Op20 (LT.pickT (v := (Bv true)) Q Q) Q y2 Q Q (mv (Bv true) Q Q Q Q (Ok Q Q Q Q Q (Ok Q Q Q Q Q (Ok Q Q Q Q Q (Op20 (LT.pickT (v := (Bv true)) Q Q) Q y2 Q Q ?_)))))))))))
   refine mv (Bv true) Q Q Q Q (Ok Q Q Q Q Q (Ok Q Q Q Q Q (Ok Q Q Q Q Q (Ok Q Q Q Q Q (Op20 (LT.pickT (v := (Bv true)) Q Q) Q y2 Q Q (On (AWR.nil ⟨Q,Ent.of z5 z2⟩)))))))
  ·refine mv (Iv a) Q Q (gH hb10 Q Q) Q (Op20 (LT.lss Q) Q y2 (gH hb10 Q Q) Q (Op20 (LT.pickF (v := (Bv (decide (a < 0)))) Q hb10) Q Q Q Q (mv (Bv (decide (a < 0))) Q Q Q Q (AOR.split (fun hb11 => ?_) (fun hb11 => ?_)))))
   ·refine Ok Q Q Q (by rw [hb11]; rfl) Q (Ok Q Q Q (by rw [hb11]; rfl) Q (Op20 (LT.pickT (v := (Bv true)) Q hb11) Q y2 Q Q (mv (Bv true) Q Q Q Q (Ok Q Q Q Q Q (Ok Q Q Q Q Q (Ok Q Q Q Q Q (Ok Q Q Q Q Q (Op20 (LT.pickT (v := (Bv true)) Q Q) Q y2 Q Q (mv (Bv true) Q Q Q Q (Ok Q Q Q Q Q (Ok Q Q Q Q Q ?_)))))))))))
    refine Ok Q Q Q Q Q (Ok Q Q Q Q Q (Op20 (LT.pickT (v := (Bv true)) Q Q) Q y2 Q Q (mv (Bv true) Q Q Q Q (Ok Q Q Q Q Q (Ok Q Q Q Q Q (Ok Q Q Q Q Q (Op20 (LT.pickT (v := (Bv true)) Q Q) Q y2 Q Q (mv (Bv true) Q Q Q Q (Ok Q Q Q Q Q (Ok Q Q Q Q Q (Ok Q Q Q Q Q ?_)))))))))))
    refine Ok Q Q Q Q Q (Op20 (LT.pickT (v := (Bv true)) Q Q) Q y2 Q Q (On (AWR.nil ⟨Q,Ent.of z5 z2⟩)))
   ·refine mv (Iv b) Q Q (gH hb11 Q Q) Q (Op20 (LT.lss Q) Q y2 (gH hb11 Q Q) Q (Op20 (LT.pickF (v := (Bv (decide (b < 0)))) Q hb11) Q Q Q Q (mv (Bv (decide (b < 0))) Q Q Q Q (AOR.split (fun hb12 => ?_) (fun hb12 => ?_)))))
    ·refine Ok Q Q Q (by rw [hb12]; rfl) Q (Ok Q Q Q (by rw [hb12]; rfl) Q (Ok Q Q Q (by rw [hb12]; rfl) Q (Ok Q Q Q (by rw [hb12]; rfl) Q (Op20 (LT.pickT (v := (Bv true)) Q hb12) Q y2 Q Q (mv (Bv true) Q Q Q Q (Ok Q Q Q Q Q (Ok Q Q Q Q Q (Ok Q Q Q Q Q (Ok Q Q Q Q Q (Op20 (LT.pickT (v := (Bv true)) Q Q) Q y2 Q Q (mv (Bv true) Q Q Q Q ?_)))))))))))
     refine Ok Q Q Q Q Q (Ok Q Q Q Q Q (Ok Q Q Q Q Q (Op20 (LT.pickT (v := (Bv true)) Q Q) Q y2 Q Q (mv (Bv true) Q Q Q Q (Ok Q Q Q Q Q (Ok Q Q Q Q Q (Ok Q Q Q Q Q (Ok Q Q Q Q Q (Op20 (LT.pickT (v := (Bv true)) Q Q) Q y2 Q Q (On (AWR.nil ⟨Q,Ent.of z5 z2⟩)))))))))))
    ·refine mv (Iv a) Q Q (gH hb12 Q Q) Q (Op10 (LT.fieldPl Q fo32_0) Q (gH hb12 Q Q) Q (Op11 (LT.bload1 (c := (iC g.Points)) Q ag3 (by exact Q)) Q Q (gH hb12 Q Q) Q (Op20 (LT.geq Q) Q Q (gH hb12 Q Q) Q (Op20 (LT.pickF (v := (Bv (decide (g.Points ≤ a)))) Q hb12) Q Q Q Q (mv (Bv (decide (g.Points ≤ a))) Q Q Q Q (AOR.split (fun hb13 => ?_) (fun hb13 => ?_)))))))
     ·refine Ok Q Q Q (by rw [hb13]; rfl) Q (Ok Q Q Q (by rw [hb13]; rfl) Q (Ok Q Q Q (by rw [hb13]; rfl) Q (Ok Q Q Q (by rw [hb13]; rfl) Q (Op20 (LT.pickT (v := (Bv true)) Q hb13) Q y2 Q Q (mv (Bv true) Q Q Q Q (Ok Q Q Q Q Q (Ok Q Q Q Q Q (Ok Q Q Q Q Q (Op20 (LT.pickT (v := (Bv true)) Q Q) Q y2 Q Q (mv (Bv true) Q Q Q Q (Ok Q Q Q Q Q ?_)))))))))))
      refine Ok Q Q Q Q Q (Ok Q Q Q Q Q (Ok Q Q Q Q Q (Op20 (LT.pickT (v := (Bv true)) Q Q) Q y2 Q Q (On (AWR.nil ⟨Q,Ent.of z5 z2⟩)))))
     ·refine mv (Iv b) Q Q (gH hb13 Q Q) Q (Op10 (LT.fieldPl Q fo32_0) Q (gH hb13 Q Q) Q (Op11 (LT.bload1 (c := (iC g.Points)) Q ag3 (by exact Q)) Q Q (gH hb13 Q Q) Q (Op20 (LT.geq Q) Q Q (gH hb13 Q Q) Q (Op20 (LT.pickF (v := (Bv (decide (g.Points ≤ b)))) Q hb13) Q Q Q Q (mv (Bv (decide (g.Points ≤ b))) Q Q Q Q (AOR.split (fun hb14 => ?_) (fun hb14 => ?_)))))))
      ·refine Ok Q Q Q (by rw [hb14]; rfl) Q (Ok Q Q Q (by rw [hb14]; rfl) Q (Ok Q Q Q (by rw [hb14]; rfl) Q (Op20 (LT.pickT (v := (Bv true)) Q hb14) Q y2 Q Q (mv (Bv true) Q Q Q Q (Ok Q Q Q Q Q (Ok Q Q Q Q Q (Ok Q Q Q Q Q (Ok Q Q Q Q Q (Op20 (LT.pickT (v := (Bv true)) Q Q) Q y2 Q Q (On (AWR.nil ⟨Q,Ent.of z5 z2⟩)))))))))))
      ·refine mv (Iv a) Q Q (gH hb14 Q Q) Q (mv (Iv b) Q Q (gH hb14 Q Q) Q (Op20 (LT.eql Q) Q Q (gH hb14 Q Q) Q (Op20 (LT.pickF (v := (Bv (a == b))) Q hb14) Q Q Q Q (mv (Bv (a == b)) Q Q Q Q (AOR.split (fun hb15 => ?_) (fun hb15 => ?_))))))
       ·refine Ok Q Q Q (by rw [hb15]; rfl) Q (Ok Q Q Q (by rw [hb15]; rfl) Q (Ok Q Q Q (by rw [hb15]; rfl) Q (Ok Q Q Q (by rw [hb15]; rfl) Q (Op20 (LT.pickT (v := (Bv true)) Q hb15) Q y2 Q Q (On (AWR.nil ⟨Q,Ent.of z5 z2⟩))))))
       ·refine Op10 (LT.fieldPl Q fo32_1) Q (gH hb15 Q Q) Q (Op11 (LT.bload1 (c := (xF encTBar g.Bars)) Q ag30 (by exact Q)) Q Q (gH hb15 Q Q) Q (Op10 (LT.tlenRO Q und30) Q (gH hb15 Q Q) Q (Op20 (LT.geq Q) Q y2 (gH hb15 Q Q) Q (Op20 (LT.pickF (v := (Bv (decide (24 ≤ (g.Bars.length : Int))))) Q hb15) Q Q Q Q (On (AWR.nil ⟨Q,Ent.of z5 z2⟩))))))
 ·refine AWR.cond Q (fun hc16 => ?_) (fun hc16 => ?_)
  ·refine Ws (Wr ?_)
   refine Op11 (LT.bloadN (out := [(iC g.Points),(xF encTBar g.Bars)]) Q ag32 (infS inf32) sz32 (by exact Q) (by exact Q)) Q Q Q Q (Ob' fun r17 hr17 => (AOR.step (@LT.callF Try.prog _ _ 151 _ _ [(.agg [(iC g.Points),(xF encTBar g.Bars)])] _ _ [] _ _ _ _ ((show Fw.Fn Try.prog 151 [(.agg [(iC g.Points),(xF encTBar g.Bars)])] [] (Ag  [(iC r17.Points),(lo 25 r17.Bars.length)]) [(25,(pR 112 encTBar r17.Bars))] [] [25] from Fw.Fn.ren [(0,25)] (w_spec_l2Copy g r17 hr17) Q)) Q cb151 (.cons (.agg (.cons (.same Q) (.cons (.same Q) .nil))) .nil) Q Q J) z2 J Q Q (Os21 (LT.bstore (v := (.agg [(iC r17.Points),(lo 25 r17.Bars.length)])) (out := [(iC r17.Points),(lo 25 r17.Bars.length)]) Q Q (infS inf32) sz32 (by exact Q) (by exact K Q) (by exact Q)) Q Q Q Q Q (asg (Bv false) Q y2 Q Q (On (en [(6,(Cc (.pl 22 0))),(7,(Bv false))] [(22,(.row 32 [[(iC r17.Points),(lo 25 r17.Bars.length)]])),(25,(pR 112 encTBar r17.Bars))] z2 z2 (AWR.ent (Ent.mv 25 0 Q Q) (en [(6,(Cc (.pl 22 0))),(7,(Bv false))] [(0,(pR 112 encTBar r17.Bars)),(22,(.row 32 [[(iC r17.Points),(lo 0 r17.Bars.length)]]))] z2 z2 (AWR.ret (FPost.mk (.inr Q) ⟨⟨_,_,_,Q,Q,Q,ag32,sz32,_,(infS inf32)⟩,Q,J⟩ z1 Q ⟨⟨PermP.sc,J,J⟩,PermP.sc,J⟩ ⟨PermO.prow' perm_encTBar,J⟩))))))))))
  ·refine AWR.skip (Ws (Wr ?_))
   refine Op11 (LT.bloadN (out := [(iC g.Points),(xF encTBar g.Bars)]) Q ag32 (infS inf32) sz32 (by exact Q) (by exact Q)) Q Q Q Q (mv (Iv a) Q Q Q Q (mv (Iv b) Q Q Q Q (Op20 (LT.min Q) Q Q Q Q (mv (Iv a) Q Q Q Q (mv (Iv b) Q Q Q Q (Op20 (LT.max Q) Q Q Q Q (Op20 (LT.build [(0,.tmp 47,(.c (iC (if b < a then b else a)))),(1,.tmp 50,(.c (iC (if a < b then b else a))))] Q Q pl112 ti112 Q Q Q) Q Q Q Q (Ob' fun r18 hr18 => (AOR.step (@LT.callF Try.prog _ _ 112 _ _ [(.agg [(iC g.Points),(xF encTBar g.Bars)]),(.agg [(iC (if b < a then b else a)),(iC (if a < b then b else a))])] _ _ [] _ _ _ _ ((show Fw.Fn Try.prog 112 [(.agg [(iC g.Points),(xF encTBar g.Bars)]),(.agg [(iC ((TBar.mk (if b < a then b else a) (if a < b then b else a)).A)),(iC ((TBar.mk (if b < a then b else a) (if a < b then b else a)).B))])] [] (Ag  [(iC r18.Points),(lo 27 r18.Bars.length)]) [(27,(pR 112 encTBar r18.Bars))] [] [27] from Fw.Fn.ren [(0,27)] (w_spec_l2Put g (TBar.mk (if b < a then b else a) (if a < b then b else a)) r18 hr18) Q)) Q cb112 (.cons (.agg (.cons (.same Q) (.cons (.same Q) .nil))) (.cons (.agg (.cons (.same Q) (.cons (.same Q) .nil))) .nil)) Q Q J) z3 J Q Q (Os21 (LT.bstore (v := (.agg [(iC r18.Points),(lo 27 r18.Bars.length)])) (out := [(iC r18.Points),(lo 27 r18.Bars.length)]) Q Q (infS inf32) sz32 (by exact Q) (by exact K Q) (by exact Q)) Q Q Q Q Q (asg (Bv true) Q y2 Q Q ?_)))))))))))
   refine On (en [(6,(Cc (.pl 22 0))),(7,(Bv true))] [(22,(.row 32 [[(iC r18.Points),(lo 27 r18.Bars.length)]])),(27,(pR 112 encTBar r18.Bars))] z2 z2 (AWR.ent (Ent.mv 27 0 Q Q) (en [(6,(Cc (.pl 22 0))),(7,(Bv true))] [(0,(pR 112 encTBar r18.Bars)),(22,(.row 32 [[(iC r18.Points),(lo 0 r18.Bars.length)]]))] z2 z2 (AWR.ret (FPost.mk (.inr Q) ⟨⟨_,_,_,Q,Q,Q,ag32,sz32,_,(infS inf32)⟩,Q,J⟩ z1 Q ⟨⟨PermP.sc,J,J⟩,PermP.sc,J⟩ ⟨PermO.prow' perm_encTBar,J⟩)))))
theorem w_spec_l1PickInt (c : Tl1Cur) (list : (List Int)) : ∀ t,m_spec_l1PickInt c list = some t → Fw.Fn Try.prog 168 [(.c (.pl 0 0)),(.c (xF encInt list))] [(0,(.row 139 [[(xT encInt_u8 c.b),(iC c.i),(iC c.h)]]))] (.s (.c (iC t.1))) [(0,(.row 139 [[(xT encInt_u8 t.2.b),(iC t.2.i),(iC t.2.h)]]))] [0] [] := by
 refine Fw.Fn.of (P := Try.prog) (X := []) (pn := [0]) (rs := (fun (t : (Int × Tl1Cur)) => [(.c (iC t.1))])) (dfs := (fun (t : (Int × Tl1Cur)) => [(0,(.row 139 [[(xT encInt_u8 t.2.b),(iC t.2.i),(iC t.2.h)]]))])) Try.func168 Q Try.ntmps168 (K Q) Q ?_
 intro w0 U0 R0 g0
 unfold m_spec_l1PickInt
 refine Ws (Wr ?_)
 refine asg (Iv 0) Q y2 Q Q (On (Ws (Wr ?_)))
 refine mv (Cc (xF encInt list)) Q Q Q Q (mv (Cc (.pl 0 0)) Q Q Q Q (mv (Cc (xF encInt list)) Q Q Q Q (Op10 (LT.tlenRO Q und45) Q Q Q (Ob' fun r1 hr1 => (AOR.step (@LT.callF Try.prog _ _ 145 _ _ [(.c (.pl 0 0)),(.c (iC (list.length : Int)))] _ _ [] _ _ _ _ ((show Fw.Fn Try.prog 145 [(.c (.pl 0 0)),(.c (iC (list.length : Int)))] [(0,(.row 139 [[(xT encInt_u8 c.b),(iC c.i),(iC c.h)]]))] (Iv r1.1) [(0,(.row 139 [[(xT encInt_u8 r1.2.b),(iC r1.2.i),(iC r1.2.h)]]))] [0] [] from Fw.Fn.ren [(0,0)] (w_spec_l1Below c (list.length : Int) r1 hr1) Q)) Q cb145 (.cons (.c (.same Q)) (.cons (.c (.same Q)) .nil)) Q Q z1) z3 z1 Q Q (Ob' fun x2 hx2 => (Op20 (LT.tindexRO (enc := encInt) Q el45 hx2 sz3) Q Q Q Q (Op10 (LT.loadPx1 Q ag3) Q Q Q (asg (Iv x2) Q Q Q Q (On (AWR.ret (FPost.mk (.inr Q) z1 z1 Q ⟨PermP.sc,J⟩ ⟨PermO.row1 ⟨(permC_xs perm_encInt_u8),PermP.sc,PermP.sc,J⟩,J⟩))))))))))))
end Go.Proofs.Yteognanhfpbghaa
end
