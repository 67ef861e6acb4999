/- Plain: what the helpers of the laws over graphs give: copies, equality, marks. -/
import Derived.Test.YtihibpkbhjpajaaFw14
import Derived.Test.YtihibpkbhjpajaaGenM
open Go Go.Fw
namespace Go.Proofs.Ytihibpkbhjpajaa

theorem toBarS_eq (a : List TBar) (h : a.length ≤ 2147483648) : m_laws_toBarS a = some a := by
  unfold m_laws_toBarS
  rw [lenOk_ok (by omega) (by omega), Option.bind_some, Int.toNat_natCast, copy_loop a _ (by omega) (fun k l x y hx hy => ?_) (fun l => ?_)]
  · rfl
  · have hk : k < a.length := (List.getElem?_eq_some_iff.1 hx).1
    simp only [m_laws_toBarS_L1, idx_of hx, idx_of hy, m_laws_toBar, Option.bind_some, Int.toNat_natCast]
    rw [decide_eq_true (by omega)]
    rfl
  · simp [m_laws_toBarS_L1]
theorem toGraph_eq (g : TGraph) (h : g.Bars.length ≤ 2147483648) : m_laws_toGraph g = some g := by
  unfold m_laws_toGraph
  rw [toBarS_eq _ h]
  rfl
theorem eqBarS_refl (a : List TBar) (h : a.length ≤ 2147483648) : m_laws_eqBarS a a = some true := by
  unfold m_laws_eqBarS
  rw [count_loop a.length (by omega) (fun k hk => ?_) (by simp [m_laws_eqBarS_L1] <;> rfl)]
  · simp
  · simp only [m_laws_eqBarS_L1, idx_at hk, m_laws_eqBar, Option.bind_some]
    rw [decide_eq_true (by omega)]
    simp
theorem eqGraph_refl (g : TGraph) (h : g.Bars.length ≤ 2147483648) : m_laws_eqGraph g g = some true := by
  unfold m_laws_eqGraph
  rw [eqBarS_refl _ h]
  simp

/-- bars numbered from 1 on -/
def marked (n : Nat) : List TBar := (List.range n).map fun (i : Nat) => ⟨1 + 2 * (i : Int), 2 + 2 * (i : Int)⟩
theorem marked_get {n k : Nat} (h : k < n) : (marked n)[k]? = some ⟨1 + 2 * (k : Int), 2 + 2 * (k : Int)⟩ := by simp [marked, h]
theorem marked_length (n : Nat) : (marked n).length = n := by simp [marked]
theorem markBarS_eq (a : List TBar) (h : a.length ≤ 2147483648) : m_laws_markBarS a 1 = some (1 + 2 * (a.length : Int), marked a.length) := by
  have e : loopM m_laws_markBarS_L1 BIG (1, 0, a) = some ((1 + 2 * (a.length : Int)), marked a.length) := by
    refine loopM_run (fun (k : Nat) => ((1 + 2 * (k : Int)), (k : Int), marked k ++ a.drop k)) a.length (by omega) (by simp [marked]) (fun k hk => ?_) (by simp [m_laws_markBarS_L1, marked_length])
    have hl : (marked k ++ a.drop k).length = a.length := by simp [marked_length]; omega
    have hi : idx (marked k ++ a.drop k) (k : Int) = some a[k] := by
      apply idx_of
      rw [List.getElem?_append_right (by simp [marked_length]), marked_length, Nat.sub_self, List.getElem?_drop, Nat.add_zero, List.getElem?_eq_getElem hk]
    have hset : ∀ x, (marked k ++ a.drop k).set k x = marked k ++ (x :: a.drop (k + 1)) := fun x => by
      rw [List.set_append_right _ _ (by simp [marked_length]), marked_length, Nat.sub_self, List.drop_eq_getElem_cons hk, List.set_cons_zero]
    have hi2 : ∀ x : TBar, idx (marked k ++ (x :: a.drop (k + 1))) (k : Int) = some x := fun x => by
      apply idx_of
      rw [List.getElem?_append_right (by simp [marked_length]), marked_length, Nat.sub_self]
      rfl
    have hset2 : ∀ x y : TBar, (marked k ++ (x :: a.drop (k + 1))).set k y = marked k ++ (y :: a.drop (k + 1)) := fun x y => by
      rw [List.set_append_right _ _ (by simp [marked_length]), marked_length, Nat.sub_self, List.set_cons_zero]
    have e1 : w64 (1 + 2 * (k : Int) + 1) = 2 + 2 * (k : Int) := by rw [w64_small (by omega) (by omega)]; omega
    have e2 : w64 (2 + 2 * (k : Int) + 1) = 1 + 2 * ((k + 1 : Nat) : Int) := by rw [w64_small (by omega) (by omega)]; omega
    simp only [m_laws_markBarS_L1, hi, Option.bind_some, Int.toNat_natCast, hset, hi2, hset2, e1, e2, w64_succ (show k ≤ 1099511627776 by omega)]
    rw [decide_eq_true (by rw [hl]; omega), cond_true]
    congr 4
    simp [marked, List.range_succ]
  unfold m_laws_markBarS
  rw [e]
  rfl
theorem heldBarS_eq (n : Nat) (h : n ≤ 2147483648) : m_laws_heldBarS (marked n) 1 = some (1 + 2 * (n : Int)) := by
  have e : loopM (m_laws_heldBarS_L1 (marked n)) BIG (1, 0) = some (.inl (1 + 2 * (n : Int))) := by
    refine loopM_run (fun (k : Nat) => ((1 + 2 * (k : Int)), (k : Int))) n (by omega) (by simp) (fun k hk => ?_) (by simp [m_laws_heldBarS_L1, marked_length])
    have e1 : w64 (1 + 2 * (k : Int) + 1) = 2 + 2 * (k : Int) := by rw [w64_small (by omega) (by omega)]; omega
    have e2 : w64 (2 + 2 * (k : Int) + 1) = 1 + 2 * ((k + 1 : Nat) : Int) := by rw [w64_small (by omega) (by omega)]; omega
    simp only [m_laws_heldBarS_L1, marked_length, idx_of (marked_get hk), Option.bind_some, e1, e2, w64_succ (show k ≤ 1099511627776 by omega)]
    rw [decide_eq_true (by omega)]
    simp
  unfold m_laws_heldBarS
  rw [e]
  rfl
theorem markGraph_eq (g : TGraph) (h : g.Bars.length ≤ 2147483648) : m_laws_markGraph g 1 = some (1 + 2 * (g.Bars.length : Int), marked g.Bars.length) := by
  unfold m_laws_markGraph
  rw [markBarS_eq _ h]
  rfl
theorem heldGraph_eq (p : Int) (n : Nat) (h : n ≤ 2147483648) : m_laws_heldGraph ⟨p, marked n⟩ 1 = some (1 + 2 * (n : Int)) := by
  unfold m_laws_heldGraph
  rw [heldBarS_eq _ h, Option.bind_some, decide_eq_false (by omega)]
  rfl
theorem szBarS_some (a : List TBar) (n : Int) : ∃ z, m_laws_szBarS a n = some z := by
  unfold m_laws_szBarS
  cases decide (w64 (n - (a.length : Int)) < 0) <;> exact ⟨_, rfl⟩
theorem szGraph_some (g : TGraph) (n : Int) : ∃ z, m_laws_szGraph g n = some z := by
  obtain ⟨z, hz⟩ := szBarS_some g.Bars n
  unfold m_laws_szGraph
  rw [hz, Option.bind_some]
  cases decide (z < 0) <;> exact ⟨_, rfl⟩

/-! ### IsGraph -/
theorem l1In_eq (x lo hi : Int) : m_spec_l1In x lo hi = some (decide (lo ≤ x) && decide (x ≤ hi)) := by
  unfold m_spec_l1In
  cases decide (lo ≤ x) <;> simp
theorem within_eq (x lo hi : Int) : m_impl_within x lo hi = some (decide (lo ≤ x) && decide (x ≤ hi)) := by
  unfold m_impl_within
  cases decide (lo ≤ x) <;> simp
theorem compareInts_eq (a b : Int) : m_impl_compareInts a b = some (if a < b then -1 else if b < a then 1 else 0) := by
  unfold m_impl_compareInts
  by_cases h1 : a < b
  · simp [h1]
  · by_cases h2 : b < a <;> simp [h1, h2]
theorem after_eq (x y : TBar) : ((m_spec_l2After x y).bind fun r => some (!r)) = (m_impl_compareBars x y).bind fun r => some (decide (0 < r)) := by
  unfold m_spec_l2After m_impl_compareBars
  rw [compareInts_eq, compareInts_eq]
  by_cases h1 : x.A < y.A
  · simp [h1]
  · by_cases h2 : y.A < x.A
    · have h3 : (x.A == y.A) = false := by simp; omega
      simp [h1, h2, h3]
    · have : x.A = y.A := by omega
      by_cases h3 : x.B < y.B
      · simp [this, h3]; omega
      · by_cases h4 : y.B < x.B <;> simp [this, h3, h4] <;> omega
theorem isGraph_L1 (g : TGraph) : m_spec_IsGraph_L1 g = m_impl_IsGraph_L1 g := by
  funext s
  unfold m_spec_IsGraph_L1 m_impl_IsGraph_L1
  simp only [after_eq]
theorem isGraph_same (g : TGraph) : m_spec_IsGraph g = m_impl_IsGraph g := by
  unfold m_spec_IsGraph m_impl_IsGraph
  rw [l1In_eq, within_eq, isGraph_L1]
end Go.Proofs.Ytihibpkbhjpajaa
