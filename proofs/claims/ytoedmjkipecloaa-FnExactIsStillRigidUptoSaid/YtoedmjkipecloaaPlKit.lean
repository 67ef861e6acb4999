/- Plain: what the helpers of the laws give: copies, equality, marks, for all types of this part. Written by a program of mine. -/
import Derived.Test.YtoedmjkipecloaaPlTools
import Derived.Test.YtoedmjkipecloaaGenM
set_option linter.unusedVariables false
set_option linter.unusedSimpArgs false
set_option linter.unnecessarySimpa false
open Go Go.Fw
namespace Go.Proofs.Ytoedmjkipecloaa
abbrev SM (n : Nat) : Prop := n ≤ 2147483648
abbrev KM (k : Int) : Prop := 0 ≤ k ∧ k ≤ 1099511627776

theorem toIntS_eq (a : List Int) (h : SM a.length) : m_laws_toIntS a = some a := by
  unfold m_laws_toIntS
  rw [lenOk_ok (by omega) (by omega), Option.bind_some, Int.toNat_natCast, copy_loop a _ (by omega) (fun k l x y hx hy => ?_) (fun l => ?_)]
  · rfl
  · have hk : k < a.length := (List.getElem?_eq_some_iff.1 hx).1
    simp only [m_laws_toIntS_L1, idx_of hx, idx_of hy, Option.bind_some, Int.toNat_natCast]
    rw [decide_eq_true (by omega)]
    rfl
  · simp [m_laws_toIntS_L1]
theorem eqIntS_refl (a : List Int) (h : SM a.length) : m_laws_eqIntS a a = some true := by
  unfold m_laws_eqIntS
  rw [count_loop a.length (by omega) (fun k hk => ?_) (by simp [m_laws_eqIntS_L1] <;> rfl)]
  · simp
  · simp only [m_laws_eqIntS_L1, idx_at hk, Option.bind_some]
    rw [decide_eq_true (by omega)]
    simp
def mkIntS (b : Int) (n : Nat) : List Int := (List.range n).map fun (i : Nat) => b + (i : Int)
theorem mkIntS_get {b : Int} {n k : Nat} (h : k < n) : (mkIntS b n)[k]? = some (b + (k : Int)) := by simp [mkIntS, h]
theorem mkIntS_len (b : Int) (n : Nat) : (mkIntS b n).length = n := by simp [mkIntS]
theorem markIntS_eq (a : List Int) (h : SM a.length) (b : Int) (hb : KM b) : m_laws_markIntS a b = some (b + (a.length : Int), mkIntS b a.length) := by
  have e : loopM m_laws_markIntS_L1 BIG (b, 0, a) = some ((b + (a.length : Int)), mkIntS b a.length) := by
    refine loopM_run (fun (k : Nat) => ((b + (k : Int)), (k : Int), mkIntS b k ++ a.drop k)) a.length (by omega) (by simp [mkIntS]) (fun k hk => ?_) (by simp [m_laws_markIntS_L1, mkIntS_len])
    have hl : (mkIntS b k ++ a.drop k).length = a.length := by simp [mkIntS_len]; omega
    have hi : idx (mkIntS b k ++ a.drop k) (k : Int) = some a[k] := by
      apply idx_of
      rw [List.getElem?_append_right (by simp [mkIntS_len]), mkIntS_len, Nat.sub_self, List.getElem?_drop, Nat.add_zero, List.getElem?_eq_getElem hk]
    have hset : ∀ x, (mkIntS b k ++ a.drop k).set k x = mkIntS b k ++ (x :: a.drop (k + 1)) := fun x => by
      rw [List.set_append_right _ _ (by simp [mkIntS_len]), mkIntS_len, Nat.sub_self, List.drop_eq_getElem_cons hk, List.set_cons_zero]
    have e1 : w64 (b + (k : Int) + 1) = b + ((k + 1 : Nat) : Int) := by rw [w64_small (by omega) (by omega)]; omega
    simp only [m_laws_markIntS_L1, hi, Option.bind_some, Int.toNat_natCast, hset, e1, w64_succ (show k ≤ 1099511627776 by omega)]
    rw [decide_eq_true (by rw [hl]; omega), cond_true]
    congr 4
    simp [mkIntS, List.range_succ]
  unfold m_laws_markIntS
  rw [e]
  rfl
theorem heldIntS_eq (n : Nat) (h : SM n) (b : Int) (hb : KM b) : m_laws_heldIntS (mkIntS b n) b = some (b + (n : Int)) := by
  have e : loopM (m_laws_heldIntS_L1 (mkIntS b n)) BIG (b, 0) = some (.inl (b + (n : Int))) := by
    refine loopM_run (fun (k : Nat) => ((b + (k : Int)), (k : Int))) n (by omega) (by simp) (fun k hk => ?_) (by simp [m_laws_heldIntS_L1, mkIntS_len])
    have e1 : w64 (b + (k : Int) + 1) = b + ((k + 1 : Nat) : Int) := by rw [w64_small (by omega) (by omega)]; omega
    simp only [m_laws_heldIntS_L1, mkIntS_len, idx_of (mkIntS_get hk), Option.bind_some, e1, w64_succ (show k ≤ 1099511627776 by omega)]
    rw [decide_eq_true (by omega)]
    simp
  unfold m_laws_heldIntS
  rw [e]
  rfl
theorem szIntS_some (a : List Int) (n : Int) : ∃ z, m_laws_szIntS a n = some z := by
  unfold m_laws_szIntS
  cases decide (w64 (n - (a.length : Int)) < 0) <;> exact ⟨_, rfl⟩

theorem toBarS_eq (a : List TBar) (h : SM a.length) : m_laws_toBarS a = some a := by
  unfold m_laws_toBarS
  rw [lenOk_ok (by omega) (by omega), Option.bind_some, Int.toNat_natCast, copy_loop a _ (by omega) (fun k l x y hx hy => ?_) (fun l => ?_)]
  · rfl
  · have hk : k < a.length := (List.getElem?_eq_some_iff.1 hx).1
    simp only [m_laws_toBarS_L1, idx_of hx, idx_of hy, m_laws_toBar, Option.bind_some, Int.toNat_natCast]
    rw [decide_eq_true (by omega)]
    rfl
  · simp [m_laws_toBarS_L1]
theorem eqBarS_refl (a : List TBar) (h : SM a.length) : m_laws_eqBarS a a = some true := by
  unfold m_laws_eqBarS
  rw [count_loop a.length (by omega) (fun k hk => ?_) (by simp [m_laws_eqBarS_L1] <;> rfl)]
  · simp
  · simp only [m_laws_eqBarS_L1, idx_at hk, m_laws_eqBar, Option.bind_some]
    rw [decide_eq_true (by omega)]
    simp
def mkBarS (b : Int) (n : Nat) : List TBar := (List.range n).map fun (i : Nat) => ⟨b + 2 * (i : Int), b + 1 + 2 * (i : Int)⟩
theorem mkBarS_get {b : Int} {n k : Nat} (h : k < n) : (mkBarS b n)[k]? = some ⟨b + 2 * (k : Int), b + 1 + 2 * (k : Int)⟩ := by simp [mkBarS, h]
theorem mkBarS_len (b : Int) (n : Nat) : (mkBarS b n).length = n := by simp [mkBarS]
theorem markBarS_eq (a : List TBar) (h : SM a.length) (b : Int) (hb : KM b) : m_laws_markBarS a b = some (b + 2 * (a.length : Int), mkBarS b a.length) := by
  have e : loopM m_laws_markBarS_L1 BIG (b, 0, a) = some ((b + 2 * (a.length : Int)), mkBarS b a.length) := by
    refine loopM_run (fun (k : Nat) => ((b + 2 * (k : Int)), (k : Int), mkBarS b k ++ a.drop k)) a.length (by omega) (by simp [mkBarS]) (fun k hk => ?_) (by simp [m_laws_markBarS_L1, mkBarS_len])
    have hl : (mkBarS b k ++ a.drop k).length = a.length := by simp [mkBarS_len]; omega
    have hi : idx (mkBarS b k ++ a.drop k) (k : Int) = some a[k] := by
      apply idx_of
      rw [List.getElem?_append_right (by simp [mkBarS_len]), mkBarS_len, Nat.sub_self, List.getElem?_drop, Nat.add_zero, List.getElem?_eq_getElem hk]
    have hset : ∀ x, (mkBarS b k ++ a.drop k).set k x = mkBarS b k ++ (x :: a.drop (k + 1)) := fun x => by
      rw [List.set_append_right _ _ (by simp [mkBarS_len]), mkBarS_len, Nat.sub_self, List.drop_eq_getElem_cons hk, List.set_cons_zero]
    have hi2 : ∀ x : TBar, idx (mkBarS b k ++ (x :: a.drop (k + 1))) (k : Int) = some x := fun x => by
      apply idx_of
      rw [List.getElem?_append_right (by simp [mkBarS_len]), mkBarS_len, Nat.sub_self]
      rfl
    have hset2 : ∀ x y : TBar, (mkBarS b k ++ (x :: a.drop (k + 1))).set k y = mkBarS b k ++ (y :: a.drop (k + 1)) := fun x y => by
      rw [List.set_append_right _ _ (by simp [mkBarS_len]), mkBarS_len, Nat.sub_self, List.set_cons_zero]
    have e1 : w64 (b + 2 * (k : Int) + 1) = b + 1 + 2 * (k : Int) := by rw [w64_small (by omega) (by omega)]; omega
    have e2 : w64 (b + 1 + 2 * (k : Int) + 1) = b + 2 * ((k + 1 : Nat) : Int) := by rw [w64_small (by omega) (by omega)]; omega
    simp only [m_laws_markBarS_L1, hi, Option.bind_some, Int.toNat_natCast, hset, hi2, hset2, e1, e2, w64_succ (show k ≤ 1099511627776 by omega)]
    rw [decide_eq_true (by rw [hl]; omega), cond_true]
    congr 4
    simp [mkBarS, List.range_succ]
  unfold m_laws_markBarS
  rw [e]
  rfl
theorem heldBarS_eq (n : Nat) (h : SM n) (b : Int) (hb : KM b) : m_laws_heldBarS (mkBarS b n) b = some (b + 2 * (n : Int)) := by
  have e : loopM (m_laws_heldBarS_L1 (mkBarS b n)) BIG (b, 0) = some (.inl (b + 2 * (n : Int))) := by
    refine loopM_run (fun (k : Nat) => ((b + 2 * (k : Int)), (k : Int))) n (by omega) (by simp) (fun k hk => ?_) (by simp [m_laws_heldBarS_L1, mkBarS_len])
    have e1 : w64 (b + 2 * (k : Int) + 1) = b + 1 + 2 * (k : Int) := by rw [w64_small (by omega) (by omega)]; omega
    have e2 : w64 (b + 1 + 2 * (k : Int) + 1) = b + 2 * ((k + 1 : Nat) : Int) := by rw [w64_small (by omega) (by omega)]; omega
    simp only [m_laws_heldBarS_L1, mkBarS_len, idx_of (mkBarS_get hk), Option.bind_some, e1, e2, w64_succ (show k ≤ 1099511627776 by omega)]
    rw [decide_eq_true (by omega)]
    simp
  unfold m_laws_heldBarS
  rw [e]
  rfl
theorem szBarS_some (a : List TBar) (n : Int) : ∃ z, m_laws_szBarS a n = some z := by
  unfold m_laws_szBarS
  cases decide (w64 (n - (a.length : Int)) < 0) <;> exact ⟨_, rfl⟩

theorem toPlaceS_eq (a : List TPlace) (h : SM a.length) : m_laws_toPlaceS a = some a := by
  unfold m_laws_toPlaceS
  rw [lenOk_ok (by omega) (by omega), Option.bind_some, Int.toNat_natCast, copy_loop a _ (by omega) (fun k l x y hx hy => ?_) (fun l => ?_)]
  · rfl
  · have hk : k < a.length := (List.getElem?_eq_some_iff.1 hx).1
    simp only [m_laws_toPlaceS_L1, idx_of hx, idx_of hy, m_laws_toPlace, Option.bind_some, Int.toNat_natCast]
    rw [decide_eq_true (by omega)]
    rfl
  · simp [m_laws_toPlaceS_L1]
theorem eqPlaceS_refl (a : List TPlace) (h : SM a.length) : m_laws_eqPlaceS a a = some true := by
  unfold m_laws_eqPlaceS
  rw [count_loop a.length (by omega) (fun k hk => ?_) (by simp [m_laws_eqPlaceS_L1] <;> rfl)]
  · simp
  · simp only [m_laws_eqPlaceS_L1, idx_at hk, m_laws_eqPlace, Option.bind_some]
    rw [decide_eq_true (by omega)]
    simp
def mkPlaceS (b : Int) (n : Nat) : List TPlace := (List.range n).map fun (i : Nat) => ⟨b + 2 * (i : Int), b + 1 + 2 * (i : Int)⟩
theorem mkPlaceS_get {b : Int} {n k : Nat} (h : k < n) : (mkPlaceS b n)[k]? = some ⟨b + 2 * (k : Int), b + 1 + 2 * (k : Int)⟩ := by simp [mkPlaceS, h]
theorem mkPlaceS_len (b : Int) (n : Nat) : (mkPlaceS b n).length = n := by simp [mkPlaceS]
theorem markPlaceS_eq (a : List TPlace) (h : SM a.length) (b : Int) (hb : KM b) : m_laws_markPlaceS a b = some (b + 2 * (a.length : Int), mkPlaceS b a.length) := by
  have e : loopM m_laws_markPlaceS_L1 BIG (b, 0, a) = some ((b + 2 * (a.length : Int)), mkPlaceS b a.length) := by
    refine loopM_run (fun (k : Nat) => ((b + 2 * (k : Int)), (k : Int), mkPlaceS b k ++ a.drop k)) a.length (by omega) (by simp [mkPlaceS]) (fun k hk => ?_) (by simp [m_laws_markPlaceS_L1, mkPlaceS_len])
    have hl : (mkPlaceS b k ++ a.drop k).length = a.length := by simp [mkPlaceS_len]; omega
    have hi : idx (mkPlaceS b k ++ a.drop k) (k : Int) = some a[k] := by
      apply idx_of
      rw [List.getElem?_append_right (by simp [mkPlaceS_len]), mkPlaceS_len, Nat.sub_self, List.getElem?_drop, Nat.add_zero, List.getElem?_eq_getElem hk]
    have hset : ∀ x, (mkPlaceS b k ++ a.drop k).set k x = mkPlaceS b k ++ (x :: a.drop (k + 1)) := fun x => by
      rw [List.set_append_right _ _ (by simp [mkPlaceS_len]), mkPlaceS_len, Nat.sub_self, List.drop_eq_getElem_cons hk, List.set_cons_zero]
    have hi2 : ∀ x : TPlace, idx (mkPlaceS b k ++ (x :: a.drop (k + 1))) (k : Int) = some x := fun x => by
      apply idx_of
      rw [List.getElem?_append_right (by simp [mkPlaceS_len]), mkPlaceS_len, Nat.sub_self]
      rfl
    have hset2 : ∀ x y : TPlace, (mkPlaceS b k ++ (x :: a.drop (k + 1))).set k y = mkPlaceS b k ++ (y :: a.drop (k + 1)) := fun x y => by
      rw [List.set_append_right _ _ (by simp [mkPlaceS_len]), mkPlaceS_len, Nat.sub_self, List.set_cons_zero]
    have e1 : w64 (b + 2 * (k : Int) + 1) = b + 1 + 2 * (k : Int) := by rw [w64_small (by omega) (by omega)]; omega
    have e2 : w64 (b + 1 + 2 * (k : Int) + 1) = b + 2 * ((k + 1 : Nat) : Int) := by rw [w64_small (by omega) (by omega)]; omega
    simp only [m_laws_markPlaceS_L1, hi, Option.bind_some, Int.toNat_natCast, hset, hi2, hset2, e1, e2, w64_succ (show k ≤ 1099511627776 by omega)]
    rw [decide_eq_true (by rw [hl]; omega), cond_true]
    congr 4
    simp [mkPlaceS, List.range_succ]
  unfold m_laws_markPlaceS
  rw [e]
  rfl
theorem heldPlaceS_eq (n : Nat) (h : SM n) (b : Int) (hb : KM b) : m_laws_heldPlaceS (mkPlaceS b n) b = some (b + 2 * (n : Int)) := by
  have e : loopM (m_laws_heldPlaceS_L1 (mkPlaceS b n)) BIG (b, 0) = some (.inl (b + 2 * (n : Int))) := by
    refine loopM_run (fun (k : Nat) => ((b + 2 * (k : Int)), (k : Int))) n (by omega) (by simp) (fun k hk => ?_) (by simp [m_laws_heldPlaceS_L1, mkPlaceS_len])
    have e1 : w64 (b + 2 * (k : Int) + 1) = b + 1 + 2 * (k : Int) := by rw [w64_small (by omega) (by omega)]; omega
    have e2 : w64 (b + 1 + 2 * (k : Int) + 1) = b + 2 * ((k + 1 : Nat) : Int) := by rw [w64_small (by omega) (by omega)]; omega
    simp only [m_laws_heldPlaceS_L1, mkPlaceS_len, idx_of (mkPlaceS_get hk), Option.bind_some, e1, e2, w64_succ (show k ≤ 1099511627776 by omega)]
    rw [decide_eq_true (by omega)]
    simp
  unfold m_laws_heldPlaceS
  rw [e]
  rfl
theorem szPlaceS_some (a : List TPlace) (n : Int) : ∃ z, m_laws_szPlaceS a n = some z := by
  unfold m_laws_szPlaceS
  cases decide (w64 (n - (a.length : Int)) < 0) <;> exact ⟨_, rfl⟩

theorem toGraph_eq (a : TGraph) (h0 : SM a.Bars.length) : m_laws_toGraph a = some a := by
  unfold m_laws_toGraph
  simp only [toBarS_eq a.Bars h0, Option.bind_some]
theorem eqGraph_refl (a : TGraph) (h0 : SM a.Bars.length) : m_laws_eqGraph a a = some true := by
  unfold m_laws_eqGraph
  simp [eqBarS_refl a.Bars h0]
theorem szGraph_some (a : TGraph) (n : Int) : ∃ z, m_laws_szGraph a n = some z := by
  unfold m_laws_szGraph
  obtain ⟨z0, e0⟩ := szBarS_some a.Bars n
  rw [e0, Option.bind_some]
  cases decide (z0 < 0)
  rotate_left
  · exact ⟨_, rfl⟩
  simp only [cond_false]
  exact ⟨_, rfl⟩
theorem markGraph_eq (a : TGraph) (h0 : SM a.Bars.length) (b : Int) (hb : 0 ≤ b) (hb2 : b ≤ 549755813888) : m_laws_markGraph a b = some ((b + 2 * (a.Bars.length : Int)), mkBarS b a.Bars.length) := by
  unfold m_laws_markGraph
  simp only [markBarS_eq a.Bars h0 b ⟨by omega, by omega⟩, Option.bind_some]
theorem heldGraph_eq (p : Int) (n0 : Nat) (h0 : SM n0) (b : Int) (hb : 0 ≤ b) (hb2 : b ≤ 549755813888) : m_laws_heldGraph (TGraph.mk p (mkBarS b n0)) b = some (b + 2 * (n0 : Int)) := by
  unfold m_laws_heldGraph
  simp only [heldBarS_eq n0 h0 b ⟨by omega, by omega⟩, Option.bind_some]
  rw [decide_eq_false (show ¬ (b + 2 * (n0 : Int)) < 0 by omega)]
  simp only [cond_false]
theorem toFramework_eq (a : TFramework) (h0 : SM a.Graph.Bars.length) (h1 : SM a.Places.length) : m_laws_toFramework a = some a := by
  unfold m_laws_toFramework
  simp only [toGraph_eq a.Graph h0, toPlaceS_eq a.Places h1, Option.bind_some]
theorem eqFramework_refl (a : TFramework) (h0 : SM a.Graph.Bars.length) (h1 : SM a.Places.length) : m_laws_eqFramework a a = some true := by
  unfold m_laws_eqFramework
  simp [eqGraph_refl a.Graph h0, eqPlaceS_refl a.Places h1]
theorem szFramework_some (a : TFramework) (n : Int) : ∃ z, m_laws_szFramework a n = some z := by
  unfold m_laws_szFramework
  obtain ⟨z0, e0⟩ := szGraph_some a.Graph n
  rw [e0, Option.bind_some]
  cases decide (z0 < 0)
  rotate_left
  · exact ⟨_, rfl⟩
  simp only [cond_false]
  obtain ⟨z1, e1⟩ := szPlaceS_some a.Places z0
  rw [e1, Option.bind_some]
  cases decide (z1 < 0)
  rotate_left
  · exact ⟨_, rfl⟩
  simp only [cond_false]
  exact ⟨_, rfl⟩
theorem markFramework_eq (a : TFramework) (h0 : SM a.Graph.Bars.length) (h1 : SM a.Places.length) (b : Int) (hb : 0 ≤ b) (hb2 : b ≤ 274877906944) : m_laws_markFramework a b = some (((b + 2 * (a.Graph.Bars.length : Int)) + 2 * (a.Places.length : Int)), mkBarS b a.Graph.Bars.length, mkPlaceS (b + 2 * (a.Graph.Bars.length : Int)) a.Places.length) := by
  unfold m_laws_markFramework
  simp only [markGraph_eq a.Graph h0 b (by omega) (by omega), markPlaceS_eq a.Places h1 (b + 2 * (a.Graph.Bars.length : Int)) ⟨by omega, by omega⟩, Option.bind_some]
theorem heldFramework_eq (p : Int) (n0 : Nat) (n1 : Nat) (h0 : SM n0) (h1 : SM n1) (b : Int) (hb : 0 ≤ b) (hb2 : b ≤ 274877906944) : m_laws_heldFramework (TFramework.mk (TGraph.mk p (mkBarS b n0)) (mkPlaceS (b + 2 * (n0 : Int)) n1)) b = some ((b + 2 * (n0 : Int)) + 2 * (n1 : Int)) := by
  unfold m_laws_heldFramework
  simp only [heldGraph_eq p n0 h0 b (by omega) (by omega), Option.bind_some]
  rw [decide_eq_false (show ¬ (b + 2 * (n0 : Int)) < 0 by omega)]
  simp only [cond_false]
  simp only [heldPlaceS_eq n1 h1 (b + 2 * (n0 : Int)) ⟨by omega, by omega⟩, Option.bind_some]
  rw [decide_eq_false (show ¬ ((b + 2 * (n0 : Int)) + 2 * (n1 : Int)) < 0 by omega)]
  simp only [cond_false]
theorem toTensegrity_eq (a : TTensegrity) (h0 : SM a.Framework.Graph.Bars.length) (h1 : SM a.Framework.Places.length) (h2 : SM a.Kinds.length) : m_laws_toTensegrity a = some a := by
  unfold m_laws_toTensegrity
  simp only [toFramework_eq a.Framework h0 h1, toIntS_eq a.Kinds h2, Option.bind_some]
theorem eqTensegrity_refl (a : TTensegrity) (h0 : SM a.Framework.Graph.Bars.length) (h1 : SM a.Framework.Places.length) (h2 : SM a.Kinds.length) : m_laws_eqTensegrity a a = some true := by
  unfold m_laws_eqTensegrity
  simp [eqFramework_refl a.Framework h0 h1, eqIntS_refl a.Kinds h2]
theorem szTensegrity_some (a : TTensegrity) (n : Int) : ∃ z, m_laws_szTensegrity a n = some z := by
  unfold m_laws_szTensegrity
  obtain ⟨z0, e0⟩ := szFramework_some a.Framework n
  rw [e0, Option.bind_some]
  cases decide (z0 < 0)
  rotate_left
  · exact ⟨_, rfl⟩
  simp only [cond_false]
  obtain ⟨z1, e1⟩ := szIntS_some a.Kinds z0
  rw [e1, Option.bind_some]
  cases decide (z1 < 0)
  rotate_left
  · exact ⟨_, rfl⟩
  simp only [cond_false]
  exact ⟨_, rfl⟩
theorem markTensegrity_eq (a : TTensegrity) (h0 : SM a.Framework.Graph.Bars.length) (h1 : SM a.Framework.Places.length) (h2 : SM a.Kinds.length) (b : Int) (hb : 0 ≤ b) (hb2 : b ≤ 274877906944) : m_laws_markTensegrity a b = some ((((b + 2 * (a.Framework.Graph.Bars.length : Int)) + 2 * (a.Framework.Places.length : Int)) + (a.Kinds.length : Int)), mkBarS b a.Framework.Graph.Bars.length, mkPlaceS (b + 2 * (a.Framework.Graph.Bars.length : Int)) a.Framework.Places.length, mkIntS ((b + 2 * (a.Framework.Graph.Bars.length : Int)) + 2 * (a.Framework.Places.length : Int)) a.Kinds.length) := by
  unfold m_laws_markTensegrity
  simp only [markFramework_eq a.Framework h0 h1 b (by omega) (by omega), markIntS_eq a.Kinds h2 ((b + 2 * (a.Framework.Graph.Bars.length : Int)) + 2 * (a.Framework.Places.length : Int)) ⟨by omega, by omega⟩, Option.bind_some]
theorem heldTensegrity_eq (p : Int) (n0 : Nat) (n1 : Nat) (n2 : Nat) (h0 : SM n0) (h1 : SM n1) (h2 : SM n2) (b : Int) (hb : 0 ≤ b) (hb2 : b ≤ 274877906944) : m_laws_heldTensegrity (TTensegrity.mk (TFramework.mk (TGraph.mk p (mkBarS b n0)) (mkPlaceS (b + 2 * (n0 : Int)) n1)) (mkIntS ((b + 2 * (n0 : Int)) + 2 * (n1 : Int)) n2)) b = some (((b + 2 * (n0 : Int)) + 2 * (n1 : Int)) + (n2 : Int)) := by
  unfold m_laws_heldTensegrity
  simp only [heldFramework_eq p n0 n1 h0 h1 b (by omega) (by omega), Option.bind_some]
  rw [decide_eq_false (show ¬ ((b + 2 * (n0 : Int)) + 2 * (n1 : Int)) < 0 by omega)]
  simp only [cond_false]
  simp only [heldIntS_eq n2 h2 ((b + 2 * (n0 : Int)) + 2 * (n1 : Int)) ⟨by omega, by omega⟩, Option.bind_some]
  rw [decide_eq_false (show ¬ (((b + 2 * (n0 : Int)) + 2 * (n1 : Int)) + (n2 : Int)) < 0 by omega)]
  simp only [cond_false]
end Go.Proofs.Ytoedmjkipecloaa
