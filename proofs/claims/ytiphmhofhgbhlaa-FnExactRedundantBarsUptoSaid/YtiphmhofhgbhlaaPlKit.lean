/- Plain: what the helpers of the laws give: copies, equality, marks, for all types of this part. Written by a program of mine. -/
import Derived.Test.YtiphmhofhgbhlaaPlTools
import Derived.Test.YtiphmhofhgbhlaaGenM
set_option linter.unusedVariables false
set_option linter.unusedSimpArgs false
set_option linter.unnecessarySimpa false
open Go Go.Fw
namespace Go.Proofs.Ytiphmhofhgbhlaa
abbrev SM (n : Nat) : Prop := n ≤ 2147483648
abbrev KM (k : Int) : Prop := 0 ≤ k ∧ k ≤ 1099511627776

theorem eqIntS_refl (a : List Int) (h : SM a.length) : m_laws_eqIntS a a = some true := by
  unfold m_laws_eqIntS
  rw [count_loop a.length (by omega) (fun k hk => ?_) (by simp [m_laws_eqIntS_L1] <;> rfl)]
  · simp
  · simp only [m_laws_eqIntS_L1, idx_at hk, Option.bind_some]
    rw [decide_eq_true (by omega)]
    simp
def mkIntS (b : Int) (n : Nat) : List Int := (List.range n).map fun (i : Nat) => b + (i : Int)
theorem mkIntS_get {b : Int} {n k : Nat} (h : k < n) : (mkIntS b n)[k]? = some (b + (k : Int)) := by simp [mkIntS, h]
theorem mkIntS_len (b : Int) (n : Nat) : (mkIntS b n).length = n := by simp [mkIntS]
theorem markIntS_eq (a : List Int) (h : SM a.length) (b : Int) (hb : KM b) : m_laws_markIntS a b = some (b + (a.length : Int), mkIntS b a.length) := by
  have e : loopM m_laws_markIntS_L1 BIG (b, 0, a) = some ((b + (a.length : Int)), mkIntS b a.length) := by
    refine loopM_run (fun (k : Nat) => ((b + (k : Int)), (k : Int), mkIntS b k ++ a.drop k)) a.length (by omega) (by simp [mkIntS]) (fun k hk => ?_) (by simp [m_laws_markIntS_L1, mkIntS_len])
    have hl : (mkIntS b k ++ a.drop k).length = a.length := by simp [mkIntS_len]; omega
    have hi : idx (mkIntS b k ++ a.drop k) (k : Int) = some a[k] := by
      apply idx_of
      rw [List.getElem?_append_right (by simp [mkIntS_len]), mkIntS_len, Nat.sub_self, List.getElem?_drop, Nat.add_zero, List.getElem?_eq_getElem hk]
    have hset : ∀ x, (mkIntS b k ++ a.drop k).set k x = mkIntS b k ++ (x :: a.drop (k + 1)) := fun x => by
      rw [List.set_append_right _ _ (by simp [mkIntS_len]), mkIntS_len, Nat.sub_self, List.drop_eq_getElem_cons hk, List.set_cons_zero]
    have e1 : w64 (b + (k : Int) + 1) = b + ((k + 1 : Nat) : Int) := by rw [w64_small (by omega) (by omega)]; omega
    simp only [m_laws_markIntS_L1, hi, Option.bind_some, Int.toNat_natCast, hset, e1, w64_succ (show k ≤ 1099511627776 by omega)]
    rw [decide_eq_true (by rw [hl]; omega), cond_true]
    congr 4
    simp [mkIntS, List.range_succ]
  unfold m_laws_markIntS
  rw [e]
  rfl
theorem heldIntS_eq (n : Nat) (h : SM n) (b : Int) (hb : KM b) : m_laws_heldIntS (mkIntS b n) b = some (b + (n : Int)) := by
  have e : loopM (m_laws_heldIntS_L1 (mkIntS b n)) BIG (b, 0) = some (.inl (b + (n : Int))) := by
    refine loopM_run (fun (k : Nat) => ((b + (k : Int)), (k : Int))) n (by omega) (by simp) (fun k hk => ?_) (by simp [m_laws_heldIntS_L1, mkIntS_len])
    have e1 : w64 (b + (k : Int) + 1) = b + ((k + 1 : Nat) : Int) := by rw [w64_small (by omega) (by omega)]; omega
    simp only [m_laws_heldIntS_L1, mkIntS_len, idx_of (mkIntS_get hk), Option.bind_some, e1, w64_succ (show k ≤ 1099511627776 by omega)]
    rw [decide_eq_true (by omega)]
    simp
  unfold m_laws_heldIntS
  rw [e]
  rfl
theorem toBarS_eq (a : List TBar) (h : SM a.length) : m_laws_toBarS a = some a := by
  unfold m_laws_toBarS
  rw [lenOk_ok (by omega) (by omega), Option.bind_some, Int.toNat_natCast, copy_loop a _ (by omega) (fun k l x y hx hy => ?_) (fun l => ?_)]
  · rfl
  · have hk : k < a.length := (List.getElem?_eq_some_iff.1 hx).1
    simp only [m_laws_toBarS_L1, idx_of hx, idx_of hy, m_laws_toBar, Option.bind_some, Int.toNat_natCast]
    rw [decide_eq_true (by omega)]
    rfl
  · simp [m_laws_toBarS_L1]
theorem eqBarS_refl (a : List TBar) (h : SM a.length) : m_laws_eqBarS a a = some true := by
  unfold m_laws_eqBarS
  rw [count_loop a.length (by omega) (fun k hk => ?_) (by simp [m_laws_eqBarS_L1] <;> rfl)]
  · simp
  · simp only [m_laws_eqBarS_L1, idx_at hk, m_laws_eqBar, Option.bind_some]
    rw [decide_eq_true (by omega)]
    simp
def mkBarS (b : Int) (n : Nat) : List TBar := (List.range n).map fun (i : Nat) => ⟨b + 2 * (i : Int), b + 1 + 2 * (i : Int)⟩
theorem mkBarS_get {b : Int} {n k : Nat} (h : k < n) : (mkBarS b n)[k]? = some ⟨b + 2 * (k : Int), b + 1 + 2 * (k : Int)⟩ := by simp [mkBarS, h]
theorem mkBarS_len (b : Int) (n : Nat) : (mkBarS b n).length = n := by simp [mkBarS]
theorem markBarS_eq (a : List TBar) (h : SM a.length) (b : Int) (hb : KM b) : m_laws_markBarS a b = some (b + 2 * (a.length : Int), mkBarS b a.length) := by
  have e : loopM m_laws_markBarS_L1 BIG (b, 0, a) = some ((b + 2 * (a.length : Int)), mkBarS b a.length) := by
    refine loopM_run (fun (k : Nat) => ((b + 2 * (k : Int)), (k : Int), mkBarS b k ++ a.drop k)) a.length (by omega) (by simp [mkBarS]) (fun k hk => ?_) (by simp [m_laws_markBarS_L1, mkBarS_len])
    have hl : (mkBarS b k ++ a.drop k).length = a.length := by simp [mkBarS_len]; omega
    have hi : idx (mkBarS b k ++ a.drop k) (k : Int) = some a[k] := by
      apply idx_of
      rw [List.getElem?_append_right (by simp [mkBarS_len]), mkBarS_len, Nat.sub_self, List.getElem?_drop, Nat.add_zero, List.getElem?_eq_getElem hk]
    have hset : ∀ x, (mkBarS b k ++ a.drop k).set k x = mkBarS b k ++ (x :: a.drop (k + 1)) := fun x => by
      rw [List.set_append_right _ _ (by simp [mkBarS_len]), mkBarS_len, Nat.sub_self, List.drop_eq_getElem_cons hk, List.set_cons_zero]
    have hi2 : ∀ x : TBar, idx (mkBarS b k ++ (x :: a.drop (k + 1))) (k : Int) = some x := fun x => by
      apply idx_of
      rw [List.getElem?_append_right (by simp [mkBarS_len]), mkBarS_len, Nat.sub_self]
      rfl
    have hset2 : ∀ x y : TBar, (mkBarS b k ++ (x :: a.drop (k + 1))).set k y = mkBarS b k ++ (y :: a.drop (k + 1)) := fun x y => by
      rw [List.set_append_right _ _ (by simp [mkBarS_len]), mkBarS_len, Nat.sub_self, List.set_cons_zero]
    have e1 : w64 (b + 2 * (k : Int) + 1) = b + 1 + 2 * (k : Int) := by rw [w64_small (by omega) (by omega)]; omega
    have e2 : w64 (b + 1 + 2 * (k : Int) + 1) = b + 2 * ((k + 1 : Nat) : Int) := by rw [w64_small (by omega) (by omega)]; omega
    simp only [m_laws_markBarS_L1, hi, Option.bind_some, Int.toNat_natCast, hset, hi2, hset2, e1, e2, w64_succ (show k ≤ 1099511627776 by omega)]
    rw [decide_eq_true (by rw [hl]; omega), cond_true]
    congr 4
    simp [mkBarS, List.range_succ]
  unfold m_laws_markBarS
  rw [e]
  rfl
theorem szBarS_some (a : List TBar) (n : Int) : ∃ z, m_laws_szBarS a n = some z := by
  unfold m_laws_szBarS
  cases decide (w64 (n - (a.length : Int)) < 0) <;> exact ⟨_, rfl⟩

theorem toGraph_eq (a : TGraph) (h0 : SM a.Bars.length) : m_laws_toGraph a = some a := by
  unfold m_laws_toGraph
  simp only [toBarS_eq a.Bars h0, Option.bind_some]
theorem eqGraph_refl (a : TGraph) (h0 : SM a.Bars.length) : m_laws_eqGraph a a = some true := by
  unfold m_laws_eqGraph
  simp [eqBarS_refl a.Bars h0]
theorem szGraph_some (a : TGraph) (n : Int) : ∃ z, m_laws_szGraph a n = some z := by
  unfold m_laws_szGraph
  obtain ⟨z0, e0⟩ := szBarS_some a.Bars n
  rw [e0, Option.bind_some]
  cases decide (z0 < 0)
  rotate_left
  · exact ⟨_, rfl⟩
  simp only [cond_false]
  exact ⟨_, rfl⟩
theorem markGraph_eq (a : TGraph) (h0 : SM a.Bars.length) (b : Int) (hb : 0 ≤ b) (hb2 : b ≤ 549755813888) : m_laws_markGraph a b = some ((b + 2 * (a.Bars.length : Int)), mkBarS b a.Bars.length) := by
  unfold m_laws_markGraph
  simp only [markBarS_eq a.Bars h0 b ⟨by omega, by omega⟩, Option.bind_some]
end Go.Proofs.Ytiphmhofhgbhlaa
