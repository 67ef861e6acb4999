/- Parts of a proof that a law of the program holds: what the program computes, and why that is right. -/
import Derived.Test.YtghofbijdnenoaaZEGenericPlaces1
section
set_option linter.unusedVariables false
set_option linter.unusedSimpArgs false
set_option linter.unnecessarySimpa false
open Go Go.Fw
namespace Go.Proofs.Ytghofbijdnenoaa
abbrev SM (n : Nat) : Prop := n ≤ 2147483648
abbrev KM (k : Int) : Prop := 0 ≤ k ∧ k ≤ 1099511627776
theorem toBarS_eq (a : List TBar) (h : SM a.length) : m_laws_toBarS a = some a := by
  unfold m_laws_toBarS
  rw [lenOk_ok (by omega) (by omega), Option.bind_some, Int.toNat_natCast, copy_loop a _ (by omega) (fun k l x y hx hy => ?_) (fun l => ?_)]
  · rfl
  · have hk : k < a.length := (List.getElem?_eq_some_iff.1 hx).1
    simp only [m_laws_toBarS_L1, idx_of hx, idx_of hy, m_laws_toBar, Option.bind_some, Int.toNat_natCast]
    rw [decide_eq_true (by omega)]
    rfl
  · simp [m_laws_toBarS_L1]
theorem eqBarS_refl (a : List TBar) (h : SM a.length) : m_laws_eqBarS a a = some true := by
  unfold m_laws_eqBarS
  rw [count_loop a.length (by omega) (fun k hk => ?_) (by simp [m_laws_eqBarS_L1] <;> rfl)]
  · simp
  · simp only [m_laws_eqBarS_L1, idx_at hk, m_laws_eqBar, Option.bind_some]
    rw [decide_eq_true (by omega)]
    simp
def mkBarS (b : Int) (n : Nat) : List TBar := (List.range n).map fun (i : Nat) => ⟨b + 2 * (i : Int), b + 1 + 2 * (i : Int)⟩
theorem mkBarS_get {b : Int} {n k : Nat} (h : k < n) : (mkBarS b n)[k]? = some ⟨b + 2 * (k : Int), b + 1 + 2 * (k : Int)⟩ := by simp [mkBarS, h]
theorem mkBarS_len (b : Int) (n : Nat) : (mkBarS b n).length = n := by simp [mkBarS]
theorem markBarS_eq (a : List TBar) (h : SM a.length) (b : Int) (hb : KM b) : m_laws_markBarS a b = some (b + 2 * (a.length : Int), mkBarS b a.length) := by
  have e : loopM m_laws_markBarS_L1 BIG (b, 0, a) = some ((b + 2 * (a.length : Int)), mkBarS b a.length) := by
    refine loopM_run (fun (k : Nat) => ((b + 2 * (k : Int)), (k : Int), mkBarS b k ++ a.drop k)) a.length (by omega) (by simp [mkBarS]) (fun k hk => ?_) (by simp [m_laws_markBarS_L1, mkBarS_len])
    have hl : (mkBarS b k ++ a.drop k).length = a.length := by simp [mkBarS_len]; omega
    have hi : idx (mkBarS b k ++ a.drop k) (k : Int) = some a[k] := by
      apply idx_of
      rw [List.getElem?_append_right (by simp [mkBarS_len]), mkBarS_len, Nat.sub_self, List.getElem?_drop, Nat.add_zero, List.getElem?_eq_getElem hk]
    have hset : ∀ x, (mkBarS b k ++ a.drop k).set k x = mkBarS b k ++ (x :: a.drop (k + 1)) := fun x => by
      rw [List.set_append_right _ _ (by simp [mkBarS_len]), mkBarS_len, Nat.sub_self, List.drop_eq_getElem_cons hk, List.set_cons_zero]
    have hi2 : ∀ x : TBar, idx (mkBarS b k ++ (x :: a.drop (k + 1))) (k : Int) = some x := fun x => by
      apply idx_of
      rw [List.getElem?_append_right (by simp [mkBarS_len]), mkBarS_len, Nat.sub_self]
      rfl
    have hset2 : ∀ x y : TBar, (mkBarS b k ++ (x :: a.drop (k + 1))).set k y = mkBarS b k ++ (y :: a.drop (k + 1)) := fun x y => by
      rw [List.set_append_right _ _ (by simp [mkBarS_len]), mkBarS_len, Nat.sub_self, List.set_cons_zero]
    have e1 : w64 (b + 2 * (k : Int) + 1) = b + 1 + 2 * (k : Int) := by rw [w64_small (by omega) (by omega)]; omega
    have e2 : w64 (b + 1 + 2 * (k : Int) + 1) = b + 2 * ((k + 1 : Nat) : Int) := by rw [w64_small (by omega) (by omega)]; omega
    simp only [m_laws_markBarS_L1, hi, Option.bind_some, Int.toNat_natCast, hset, hi2, hset2, e1, e2, w64_succ (show k ≤ 1099511627776 by omega)]
    rw [decide_eq_true (by rw [hl]; omega), cond_true]
    congr 4
    simp [mkBarS, List.range_succ]
  unfold m_laws_markBarS
  rw [e]
  rfl
theorem heldBarS_eq (n : Nat) (h : SM n) (b : Int) (hb : KM b) : m_laws_heldBarS (mkBarS b n) b = some (b + 2 * (n : Int)) := by
  have e : loopM (m_laws_heldBarS_L1 (mkBarS b n)) BIG (b, 0) = some (.inl (b + 2 * (n : Int))) := by
    refine loopM_run (fun (k : Nat) => ((b + 2 * (k : Int)), (k : Int))) n (by omega) (by simp) (fun k hk => ?_) (by simp [m_laws_heldBarS_L1, mkBarS_len])
    have e1 : w64 (b + 2 * (k : Int) + 1) = b + 1 + 2 * (k : Int) := by rw [w64_small (by omega) (by omega)]; omega
    have e2 : w64 (b + 1 + 2 * (k : Int) + 1) = b + 2 * ((k + 1 : Nat) : Int) := by rw [w64_small (by omega) (by omega)]; omega
    simp only [m_laws_heldBarS_L1, mkBarS_len, idx_of (mkBarS_get hk), Option.bind_some, e1, e2, w64_succ (show k ≤ 1099511627776 by omega)]
    rw [decide_eq_true (by omega)]
    simp
  unfold m_laws_heldBarS
  rw [e]
  rfl
theorem szBarS_some (a : List TBar) (n : Int) : ∃ z, m_laws_szBarS a n = some z := by
  unfold m_laws_szBarS
  cases decide (w64 (n - (a.length : Int)) < 0) <;> exact ⟨_, rfl⟩
theorem eqPlaceS_refl (a : List TPlace) (h : SM a.length) : m_laws_eqPlaceS a a = some true := by
  unfold m_laws_eqPlaceS
  rw [count_loop a.length (by omega) (fun k hk => ?_) (by simp [m_laws_eqPlaceS_L1] <;> rfl)]
  · simp
  · simp only [m_laws_eqPlaceS_L1, idx_at hk, m_laws_eqPlace, Option.bind_some]
    rw [decide_eq_true (by omega)]
    simp
def mkPlaceS (b : Int) (n : Nat) : List TPlace := (List.range n).map fun (i : Nat) => ⟨b + 2 * (i : Int), b + 1 + 2 * (i : Int)⟩
theorem mkPlaceS_get {b : Int} {n k : Nat} (h : k < n) : (mkPlaceS b n)[k]? = some ⟨b + 2 * (k : Int), b + 1 + 2 * (k : Int)⟩ := by simp [mkPlaceS, h]
theorem mkPlaceS_len (b : Int) (n : Nat) : (mkPlaceS b n).length = n := by simp [mkPlaceS]
theorem markPlaceS_eq (a : List TPlace) (h : SM a.length) (b : Int) (hb : KM b) : m_laws_markPlaceS a b = some (b + 2 * (a.length : Int), mkPlaceS b a.length) := by
  have e : loopM m_laws_markPlaceS_L1 BIG (b, 0, a) = some ((b + 2 * (a.length : Int)), mkPlaceS b a.length) := by
    refine loopM_run (fun (k : Nat) => ((b + 2 * (k : Int)), (k : Int), mkPlaceS b k ++ a.drop k)) a.length (by omega) (by simp [mkPlaceS]) (fun k hk => ?_) (by simp [m_laws_markPlaceS_L1, mkPlaceS_len])
    have hl : (mkPlaceS b k ++ a.drop k).length = a.length := by simp [mkPlaceS_len]; omega
    have hi : idx (mkPlaceS b k ++ a.drop k) (k : Int) = some a[k] := by
      apply idx_of
      rw [List.getElem?_append_right (by simp [mkPlaceS_len]), mkPlaceS_len, Nat.sub_self, List.getElem?_drop, Nat.add_zero, List.getElem?_eq_getElem hk]
    have hset : ∀ x, (mkPlaceS b k ++ a.drop k).set k x = mkPlaceS b k ++ (x :: a.drop (k + 1)) := fun x => by
      rw [List.set_append_right _ _ (by simp [mkPlaceS_len]), mkPlaceS_len, Nat.sub_self, List.drop_eq_getElem_cons hk, List.set_cons_zero]
    have hi2 : ∀ x : TPlace, idx (mkPlaceS b k ++ (x :: a.drop (k + 1))) (k : Int) = some x := fun x => by
      apply idx_of
      rw [List.getElem?_append_right (by simp [mkPlaceS_len]), mkPlaceS_len, Nat.sub_self]
      rfl
    have hset2 : ∀ x y : TPlace, (mkPlaceS b k ++ (x :: a.drop (k + 1))).set k y = mkPlaceS b k ++ (y :: a.drop (k + 1)) := fun x y => by
      rw [List.set_append_right _ _ (by simp [mkPlaceS_len]), mkPlaceS_len, Nat.sub_self, List.set_cons_zero]
    have e1 : w64 (b + 2 * (k : Int) + 1) = b + 1 + 2 * (k : Int) := by rw [w64_small (by omega) (by omega)]; omega
    have e2 : w64 (b + 1 + 2 * (k : Int) + 1) = b + 2 * ((k + 1 : Nat) : Int) := by rw [w64_small (by omega) (by omega)]; omega
    simp only [m_laws_markPlaceS_L1, hi, Option.bind_some, Int.toNat_natCast, hset, hi2, hset2, e1, e2, w64_succ (show k ≤ 1099511627776 by omega)]
    rw [decide_eq_true (by rw [hl]; omega), cond_true]
    congr 4
    simp [mkPlaceS, List.range_succ]
  unfold m_laws_markPlaceS
  rw [e]
  rfl
theorem heldPlaceS_eq (n : Nat) (h : SM n) (b : Int) (hb : KM b) : m_laws_heldPlaceS (mkPlaceS b n) b = some (b + 2 * (n : Int)) := by
  have e : loopM (m_laws_heldPlaceS_L1 (mkPlaceS b n)) BIG (b, 0) = some (.inl (b + 2 * (n : Int))) := by
    refine loopM_run (fun (k : Nat) => ((b + 2 * (k : Int)), (k : Int))) n (by omega) (by simp) (fun k hk => ?_) (by simp [m_laws_heldPlaceS_L1, mkPlaceS_len])
    have e1 : w64 (b + 2 * (k : Int) + 1) = b + 1 + 2 * (k : Int) := by rw [w64_small (by omega) (by omega)]; omega
    have e2 : w64 (b + 1 + 2 * (k : Int) + 1) = b + 2 * ((k + 1 : Nat) : Int) := by rw [w64_small (by omega) (by omega)]; omega
    simp only [m_laws_heldPlaceS_L1, mkPlaceS_len, idx_of (mkPlaceS_get hk), Option.bind_some, e1, e2, w64_succ (show k ≤ 1099511627776 by omega)]
    rw [decide_eq_true (by omega)]
    simp
  unfold m_laws_heldPlaceS
  rw [e]
  rfl
theorem toGraph_eq (a : TGraph) (h0 : SM a.Bars.length) : m_laws_toGraph a = some a := by
  unfold m_laws_toGraph
  simp only [toBarS_eq a.Bars h0, Option.bind_some]
theorem eqGraph_refl (a : TGraph) (h0 : SM a.Bars.length) : m_laws_eqGraph a a = some true := by
  unfold m_laws_eqGraph
  simp [eqBarS_refl a.Bars h0]
theorem szGraph_some (a : TGraph) (n : Int) : ∃ z, m_laws_szGraph a n = some z := by
  unfold m_laws_szGraph
  obtain ⟨z0, e0⟩ := szBarS_some a.Bars n
  rw [e0, Option.bind_some]
  cases decide (z0 < 0)
  rotate_left
  · exact ⟨_, rfl⟩
  simp only [cond_false]
  exact ⟨_, rfl⟩
theorem markGraph_eq (a : TGraph) (h0 : SM a.Bars.length) (b : Int) (hb : 0 ≤ b) (hb2 : b ≤ 549755813888) : m_laws_markGraph a b = some ((b + 2 * (a.Bars.length : Int)), mkBarS b a.Bars.length) := by
  unfold m_laws_markGraph
  simp only [markBarS_eq a.Bars h0 b ⟨by omega, by omega⟩, Option.bind_some]
theorem heldGraph_eq (p : Int) (n0 : Nat) (h0 : SM n0) (b : Int) (hb : 0 ≤ b) (hb2 : b ≤ 549755813888) : m_laws_heldGraph (TGraph.mk p (mkBarS b n0)) b = some (b + 2 * (n0 : Int)) := by
  unfold m_laws_heldGraph
  simp only [heldBarS_eq n0 h0 b ⟨by omega, by omega⟩, Option.bind_some]
  rw [decide_eq_false (show ¬ (b + 2 * (n0 : Int)) < 0 by omega)]
  simp only [cond_false]
theorem eqFramework_refl (a : TFramework) (h0 : SM a.Graph.Bars.length) (h1 : SM a.Places.length) : m_laws_eqFramework a a = some true := by
  unfold m_laws_eqFramework
  simp [eqGraph_refl a.Graph h0, eqPlaceS_refl a.Places h1]
theorem markFramework_eq (a : TFramework) (h0 : SM a.Graph.Bars.length) (h1 : SM a.Places.length) (b : Int) (hb : 0 ≤ b) (hb2 : b ≤ 274877906944) : m_laws_markFramework a b = some (((b + 2 * (a.Graph.Bars.length : Int)) + 2 * (a.Places.length : Int)), mkBarS b a.Graph.Bars.length, mkPlaceS (b + 2 * (a.Graph.Bars.length : Int)) a.Places.length) := by
  unfold m_laws_markFramework
  simp only [markGraph_eq a.Graph h0 b (by omega) (by omega), markPlaceS_eq a.Places h1 (b + 2 * (a.Graph.Bars.length : Int)) ⟨by omega, by omega⟩, Option.bind_some]
theorem heldFramework_eq (p : Int) (n0 : Nat) (n1 : Nat) (h0 : SM n0) (h1 : SM n1) (b : Int) (hb : 0 ≤ b) (hb2 : b ≤ 274877906944) : m_laws_heldFramework (TFramework.mk (TGraph.mk p (mkBarS b n0)) (mkPlaceS (b + 2 * (n0 : Int)) n1)) b = some ((b + 2 * (n0 : Int)) + 2 * (n1 : Int)) := by
  unfold m_laws_heldFramework
  simp only [heldGraph_eq p n0 h0 b (by omega) (by omega), Option.bind_some]
  rw [decide_eq_false (show ¬ (b + 2 * (n0 : Int)) < 0 by omega)]
  simp only [cond_false]
  simp only [heldPlaceS_eq n1 h1 (b + 2 * (n0 : Int)) ⟨by omega, by omega⟩, Option.bind_some]
  rw [decide_eq_false (show ¬ ((b + 2 * (n0 : Int)) + 2 * (n1 : Int)) < 0 by omega)]
  simp only [cond_false]
end Go.Proofs.Ytghofbijdnenoaa
end
section
set_option linter.unusedVariables false
set_option linter.unusedSimpArgs false
set_option linter.unnecessarySimpa false
open Go Go.Fw
namespace Go.Proofs.Ytghofbijdnenoaa
theorem l1In_eq (x lo hi : Int) : m_spec_l1In x lo hi = some (decide (lo ≤ x) && decide (x ≤ hi)) := by
  unfold m_spec_l1In
  cases decide (lo ≤ x) <;> simp
theorem within_eq (x lo hi : Int) : m_impl_within x lo hi = some (decide (lo ≤ x) && decide (x ≤ hi)) := by
  unfold m_impl_within
  cases decide (lo ≤ x) <;> simp
theorem compareInts_eq (a b : Int) : m_impl_compareInts a b = some (if a < b then -1 else if b < a then 1 else 0) := by
  unfold m_impl_compareInts
  by_cases h1 : a < b
  · simp [h1]
  · by_cases h2 : b < a <;> simp [h1, h2]
def barGt (x y : TBar) : Bool := decide (y.A < x.A) || (x.A == y.A && decide (y.B < x.B))
theorem compareBars_some (x y : TBar) : ∃ c, m_impl_compareBars x y = some c ∧ decide (0 < c) = barGt x y := by
  unfold m_impl_compareBars barGt
  rw [compareInts_eq, compareInts_eq]
  by_cases h1 : x.A < y.A
  · have h3 : (x.A == y.A) = false := by simp; omega
    exact ⟨-1, by simp [h1], by simp [h3]; omega⟩
  · by_cases h2 : y.A < x.A
    · exact ⟨1, by simp [h1, h2], by simp [h2]⟩
    · have : x.A = y.A := by omega
      by_cases h3 : x.B < y.B
      · exact ⟨-1, by simp [this, h3], by simp [this]; omega⟩
      · by_cases h4 : y.B < x.B
        · exact ⟨1, by simp [this, h3, h4], by simp [this, h4]⟩
        · exact ⟨0, by simp [this, h3, h4], by simp [this]; omega⟩
theorem l2After_eq (x y : TBar) : m_spec_l2After x y = some (!barGt x y) := by
  unfold m_spec_l2After barGt
  by_cases h1 : x.A < y.A
  · have h3 : (x.A == y.A) = false := by simp; omega
    simp [h1, h3]; omega
  · by_cases h2 : y.A < x.A
    · have h3 : (x.A == y.A) = false := by simp; omega
      simp [h1, h2, h3]
    · have : x.A = y.A := by omega
      by_cases h4 : y.B < x.B
      · have h5 : ¬ x.B ≤ y.B := by omega
        simp [this, h4, h5]
      · have h5 : x.B ≤ y.B := by omega
        simp [this, h4, h5]
def badBar (g : TGraph) (k : Nat) : Bool := match g.Bars[k]? with
  | none => false
  | some x => decide (x.A < 0) || decide (x.B ≤ x.A) || decide (g.Points ≤ x.B) || (decide (0 < k) && match g.Bars[k - 1]? with
    | none => false
    | some y => barGt y x)
def vG (g : TGraph) : Bool := decide (1 ≤ g.Points) && decide (g.Points ≤ 8) && !decide (24 < (g.Bars.length : Int)) && !(List.range' 0 g.Bars.length).any (badBar g)
theorem isGraphI_eq (g : TGraph) (h : SM g.Bars.length) : m_impl_IsGraph g = some (vG g) := by
  have e : loopM (m_impl_IsGraph_L1 g) BIG 0 = some (bif (List.range' 0 g.Bars.length).any (badBar g) then .inr false else .inl ()) := by
    refine any_loop0 (badBar g) false g.Bars.length (by omega) (fun k hk => ?_) (by simp [m_impl_IsGraph_L1])
    unfold m_impl_IsGraph_L1 badBar
    rw [decide_eq_true (by omega), cond_true, idx_at hk, Option.bind_some, List.getElem?_eq_getElem hk]
    simp only
    cases decide (g.Bars[k].A < 0)
    · cases decide (g.Bars[k].B ≤ g.Bars[k].A)
      · cases decide (g.Points ≤ g.Bars[k].B)
        · by_cases h0 : 0 < k
          · have e1 : w64 ((k : Int) - 1) = ((k - 1 : Nat) : Int) := by rw [w64_small (by omega) (by omega)]; omega
            obtain ⟨c, hc, hd⟩ := compareBars_some (g.Bars[k - 1]'(by omega)) g.Bars[k]
            rw [decide_eq_true (show (0 : Int) < (k : Int) by omega), decide_eq_true h0, e1, idx_at (show k - 1 < g.Bars.length by omega), List.getElem?_eq_getElem (show k - 1 < g.Bars.length by omega)]
            simp only [cond_false, cond_true, Option.bind_some, hc, hd, Bool.false_or, Bool.true_and]
          · rw [decide_eq_false (show ¬ (0 : Int) < (k : Int) by omega), decide_eq_false h0]
            rfl
        · rfl
      · rfl
    · rfl
  unfold m_impl_IsGraph vG
  rw [within_eq, e]
  simp only [Option.bind_some]
  cases decide (1 ≤ g.Points) && decide (g.Points ≤ 8)
  · rfl
  · cases decide (24 < (g.Bars.length : Int))
    · cases (List.range' 0 g.Bars.length).any (badBar g) <;> rfl
    · rfl
theorem isGraph_L1 (g : TGraph) : m_spec_IsGraph_L1 g = m_impl_IsGraph_L1 g := by
  funext s
  unfold m_spec_IsGraph_L1 m_impl_IsGraph_L1
  have e : ∀ x y, ((m_spec_l2After x y).bind fun r => some (!r)) = (m_impl_compareBars x y).bind fun r => some (decide (0 < r)) := fun x y => by
    obtain ⟨c, hc, hd⟩ := compareBars_some x y
    rw [l2After_eq, hc]
    simp [hd]
  simp only [e]
theorem isGraphS_eq (g : TGraph) (h : SM g.Bars.length) : m_spec_IsGraph g = some (vG g) := by
  rw [← isGraphI_eq g h]
  unfold m_spec_IsGraph m_impl_IsGraph
  rw [l1In_eq, within_eq, isGraph_L1]
structure VG (g : TGraph) : Prop where
  p1 : 1 ≤ g.Points
  p8 : g.Points ≤ 8
  len : g.Bars.length ≤ 24
  a0 : ∀ {k : Nat} {x : TBar}, g.Bars[k]? = some x → 0 ≤ x.A
  ab : ∀ {k : Nat} {x : TBar}, g.Bars[k]? = some x → x.A < x.B
  bp : ∀ {k : Nat} {x : TBar}, g.Bars[k]? = some x → x.B < g.Points
  srt : ∀ {k : Nat} {x y : TBar}, g.Bars[k]? = some x → g.Bars[k + 1]? = some y → barGt x y = false
theorem vG_VG {g : TGraph} (h : vG g = true) : VG g := by
  unfold vG at h
  simp only [Bool.and_eq_true, Bool.not_eq_true', decide_eq_true_eq, decide_eq_false_iff_not] at h
  obtain ⟨⟨⟨h1, h2⟩, h3⟩, h4⟩ := h
  rw [any_range_false] at h4
  have hb : ∀ {k : Nat} {x : TBar}, g.Bars[k]? = some x → 0 ≤ x.A ∧ x.A < x.B ∧ x.B < g.Points ∧ ∀ {y : TBar}, 0 < k → g.Bars[k - 1]? = some y → barGt y x = false := fun {k x} hx => by
    have hk : k < g.Bars.length := (List.getElem?_eq_some_iff.1 hx).1
    have := h4 k (by omega) (by omega)
    unfold badBar at this
    rw [hx] at this
    simp only [Bool.or_eq_false_iff, decide_eq_false_iff_not, Bool.and_eq_false_iff] at this
    obtain ⟨⟨⟨a, b⟩, c⟩, d⟩ := this
    refine ⟨by omega, by omega, by omega, fun {y} hk hy => ?_⟩
    rw [hy] at d
    rcases d with d | d
    · exact absurd hk d
    · exact d
  exact ⟨h1, h2, by omega, fun hx => (hb hx).1, fun hx => (hb hx).2.1, fun hx => (hb hx).2.2.1, fun {k x y} hx hy => (hb hy).2.2.2 (by omega) (by simpa using hx)⟩
theorem VG.sm {g : TGraph} (h : VG g) : SM g.Bars.length := by have := h.len; omega
def hasI (l : List Int) (x : Int) : Bool := l.any (· == x)
def atB {α : Type} (l : List α) (p : α → Bool) (k : Nat) : Bool := match l[k]? with
  | some x => p x
  | none => false
theorem atB_at {α : Type} {l : List α} {k : Nat} (h : k < l.length) (p : α → Bool) : atB l p k = p l[k] := by simp [atB, h]
end Go.Proofs.Ytghofbijdnenoaa
end
section
set_option linter.unusedVariables false
set_option linter.unusedSimpArgs false
set_option linter.unnecessarySimpa false
open Go Go.Fw
namespace Go.Proofs.Ytghofbijdnenoaa
theorem idx_in {α : Type} {l : List α} {i : Int} (d : α) (h0 : 0 ≤ i) (h1 : i < (l.length : Int)) : idx l i = some ((l[i.toNat]?).getD d) := by
  unfold idx
  rw [if_pos h0, List.getElem?_eq_getElem (by omega)]
  rfl
def plAt (f : TFramework) (v : Int) : TPlace := (f.Places[v.toNat]?).getD ⟨0, 0⟩
def onGrid (p : TPlace) : Bool := (decide (0 ≤ p.X) && decide (p.X ≤ 4)) && (decide (0 ≤ p.Y) && decide (p.Y ≤ 4))
theorem isPlace_eq (p : TPlace) : m_impl_isPlace p = some (onGrid p) := by
  unfold m_impl_isPlace onGrid
  rw [within_eq, within_eq]
  simp only [Option.bind_some]
  cases decide (0 ≤ p.X) && decide (p.X ≤ 4) <;> rfl
def badLen (f : TFramework) (k : Nat) : Bool := match f.Graph.Bars[k]? with
  | none => false
  | some x => eqI [(plAt f x.A).X, (plAt f x.A).Y] [(plAt f x.B).X, (plAt f x.B).Y] || (decide (0 < k) && match f.Graph.Bars[k - 1]? with
    | none => false
    | some y => eqI [y.A, y.B] [x.A, x.B])
def vF (f : TFramework) : Bool := vG f.Graph && !decide (6 < f.Graph.Points) && !((f.Places.length : Int) != f.Graph.Points) && !decide (15 < (f.Graph.Bars.length : Int)) && !(List.range' 0 f.Places.length).any (atB f.Places fun p => !onGrid p) && !(List.range' 0 f.Graph.Bars.length).any (badLen f)
theorem isFI_L1 (f : TFramework) (h : SM f.Places.length) : loopM (m_impl_IsFramework_L1 f) BIG 0 = some (bif (List.range' 0 f.Places.length).any (atB f.Places fun p => !onGrid p) then .inr false else .inl ()) := by
  refine any_loop0 _ false f.Places.length (by omega) (fun k hk => ?_) (by simp [m_impl_IsFramework_L1])
  unfold m_impl_IsFramework_L1
  rw [decide_eq_true (by omega), cond_true, idx_at hk, Option.bind_some, atB_at hk, isPlace_eq, Option.bind_some]
theorem isFS_L1 (f : TFramework) (h : SM f.Places.length) : loopM (m_spec_IsFramework_L1 f) BIG 0 = some (bif (List.range' 0 f.Places.length).any (atB f.Places fun p => !onGrid p) then .inr false else .inl ()) := by
  refine any_loop0 _ false f.Places.length (by omega) (fun k hk => ?_) (by simp [m_spec_IsFramework_L1])
  unfold m_spec_IsFramework_L1 onGrid
  rw [decide_eq_true (by omega), cond_true, idx_at hk, atB_at hk]
  simp only [l1In_eq, Option.bind_some]
  cases decide (0 ≤ f.Places[k].X) && decide (f.Places[k].X ≤ 4) <;> rfl
theorem isFI_L2 (f : TFramework) (hv : VG f.Graph) (hp : (f.Places.length : Int) = f.Graph.Points) : loopM (m_impl_IsFramework_L2 f) BIG 0 = some (bif (List.range' 0 f.Graph.Bars.length).any (badLen f) then .inr false else .inl ()) := by
  refine any_loop0 _ false f.Graph.Bars.length (by have := hv.len; omega) (fun k hk => ?_) (by simp [m_impl_IsFramework_L2])
  have hx := List.getElem?_eq_getElem hk
  have a0 := hv.a0 hx
  have ab := hv.ab hx
  have bp := hv.bp hx
  unfold m_impl_IsFramework_L2 badLen
  rw [decide_eq_true (by omega), cond_true, idx_at hk, Option.bind_some, hx]
  simp only [idx_in (⟨0, 0⟩ : TPlace) a0 (show f.Graph.Bars[k].A < (f.Places.length : Int) by omega), idx_in (⟨0, 0⟩ : TPlace) (show 0 ≤ f.Graph.Bars[k].B by omega) (show f.Graph.Bars[k].B < (f.Places.length : Int) by omega), Option.bind_some]
  by_cases h0 : 0 < k
  · have hl := hv.len
    have e1 : w64 ((k : Int) - 1) = ((k - 1 : Nat) : Int) := by rw [w64_small (by omega) (by omega)]; omega
    rw [decide_eq_true (show (0 : Int) < (k : Int) by omega), decide_eq_true h0, cond_true, e1, idx_at (show k - 1 < f.Graph.Bars.length by omega), Option.bind_some, List.getElem?_eq_getElem (show k - 1 < f.Graph.Bars.length by omega)]
    simp only [Bool.true_and, plAt]
    cases eqI [f.Graph.Bars[k - 1].A, f.Graph.Bars[k - 1].B] [f.Graph.Bars[k].A, f.Graph.Bars[k].B] <;> simp
  · rw [decide_eq_false (show ¬ (0 : Int) < (k : Int) by omega), decide_eq_false h0]
    simp [plAt]
theorem isFS_L2 (f : TFramework) (hv : VG f.Graph) (hp : (f.Places.length : Int) = f.Graph.Points) : loopM (m_spec_IsFramework_L2 f) BIG 0 = some (bif (List.range' 0 f.Graph.Bars.length).any (badLen f) then .inr false else .inl ()) := by
  refine any_loop0 _ false f.Graph.Bars.length (by have := hv.len; omega) (fun k hk => ?_) (by simp [m_spec_IsFramework_L2])
  have hx := List.getElem?_eq_getElem hk
  have a0 := hv.a0 hx
  have ab := hv.ab hx
  have bp := hv.bp hx
  unfold m_spec_IsFramework_L2 badLen
  rw [decide_eq_true (by omega), cond_true, idx_at hk, Option.bind_some, hx]
  simp only [idx_in (⟨0, 0⟩ : TPlace) a0 (show f.Graph.Bars[k].A < (f.Places.length : Int) by omega), idx_in (⟨0, 0⟩ : TPlace) (show 0 ≤ f.Graph.Bars[k].B by omega) (show f.Graph.Bars[k].B < (f.Places.length : Int) by omega), Option.bind_some]
  by_cases h0 : 0 < k
  · have hl := hv.len
    have e1 : w64 ((k : Int) - 1) = ((k - 1 : Nat) : Int) := by rw [w64_small (by omega) (by omega)]; omega
    rw [decide_eq_true (show (0 : Int) < (k : Int) by omega), decide_eq_true h0, cond_true, e1, idx_at (show k - 1 < f.Graph.Bars.length by omega), Option.bind_some, List.getElem?_eq_getElem (show k - 1 < f.Graph.Bars.length by omega)]
    simp only [Bool.true_and, plAt]
    generalize eqI [((f.Places[f.Graph.Bars[k].A.toNat]?).getD ⟨0, 0⟩).X, _] _ = c
    cases c <;> simp
  · rw [decide_eq_false (show ¬ (0 : Int) < (k : Int) by omega), decide_eq_false h0]
    simp only [cond_false, Bool.false_and, Bool.or_false, plAt]
    generalize eqI [((f.Places[f.Graph.Bars[k].A.toNat]?).getD ⟨0, 0⟩).X, _] _ = c
    cases c <;> simp
theorem bne_int {a b : Int} : (a != b) = false ↔ a = b := by simp
theorem isFI_eq (f : TFramework) (h : SM f.Graph.Bars.length) (h2 : SM f.Places.length) : m_impl_IsFramework f = some (vF f) := by
  unfold m_impl_IsFramework vF
  rw [isGraphI_eq _ h, isFI_L1 f h2]
  cases hg : vG f.Graph
  · rfl
  · cases decide (6 < f.Graph.Points)
    · cases decide (15 < (f.Graph.Bars.length : Int))
      · cases hp : ((f.Places.length : Int) != f.Graph.Points)
        · rw [isFI_L2 f (vG_VG hg) (bne_int.1 hp)]
          cases (List.range' 0 f.Places.length).any (atB f.Places fun p => !onGrid p)
          · cases (List.range' 0 f.Graph.Bars.length).any (badLen f) <;> rfl
          · rfl
        · rfl
      · cases ((f.Places.length : Int) != f.Graph.Points) <;> rfl
    · rfl
theorem isFS_eq (f : TFramework) (h : SM f.Graph.Bars.length) (h2 : SM f.Places.length) : m_spec_IsFramework f = some (vF f) := by
  unfold m_spec_IsFramework vF
  rw [isGraphS_eq _ h, isFS_L1 f h2]
  cases hg : vG f.Graph
  · rfl
  · cases decide (6 < f.Graph.Points)
    · cases hp : ((f.Places.length : Int) != f.Graph.Points)
      · cases decide (15 < (f.Graph.Bars.length : Int))
        · rw [isFS_L2 f (vG_VG hg) (bne_int.1 hp)]
          cases (List.range' 0 f.Places.length).any (atB f.Places fun p => !onGrid p)
          · cases (List.range' 0 f.Graph.Bars.length).any (badLen f) <;> rfl
          · rfl
        · rfl
      · rfl
    · rfl
structure VF (f : TFramework) : Prop where
  g : VG f.Graph
  p6 : f.Graph.Points ≤ 6
  len : f.Graph.Bars.length ≤ 15
  pls : (f.Places.length : Int) = f.Graph.Points
  grid : ∀ {k : Nat} {p : TPlace}, f.Places[k]? = some p → 0 ≤ p.X ∧ p.X ≤ 4 ∧ 0 ≤ p.Y ∧ p.Y ≤ 4
  dif : ∀ {k : Nat} {x : TBar}, f.Graph.Bars[k]? = some x → eqI [(plAt f x.A).X, (plAt f x.A).Y] [(plAt f x.B).X, (plAt f x.B).Y] = false
  nod : ∀ {k : Nat} {x y : TBar}, f.Graph.Bars[k]? = some x → f.Graph.Bars[k + 1]? = some y → eqI [x.A, x.B] [y.A, y.B] = false
theorem vF_VF {f : TFramework} (h : vF f = true) : VF f := by
  unfold vF at h
  simp only [Bool.and_eq_true, Bool.not_eq_true', decide_eq_false_iff_not] at h
  obtain ⟨⟨⟨⟨⟨h1, h2⟩, h3⟩, h4⟩, h5⟩, h6⟩ := h
  rw [any_range_false] at h5 h6
  refine ⟨vG_VG h1, by omega, by omega, bne_int.1 h3, fun {k p} hk => ?_, fun {k x} hk => ?_, fun {k x y} hx hy => ?_⟩
  · have hl := (List.getElem?_eq_some_iff.1 hk).1
    have := h5 k (by omega) (by omega)
    unfold atB at this
    rw [hk] at this
    simp only [Bool.not_eq_false', onGrid, Bool.and_eq_true, decide_eq_true_eq] at this
    exact ⟨this.1.1, this.1.2, this.2.1, this.2.2⟩
  · have hl := (List.getElem?_eq_some_iff.1 hk).1
    have := h6 k (by omega) (by omega)
    unfold badLen at this
    rw [hk] at this
    simp only [Bool.or_eq_false_iff] at this
    exact this.1
  · have hl := (List.getElem?_eq_some_iff.1 hy).1
    have := h6 (k + 1) (by omega) (by omega)
    unfold badLen at this
    rw [hy] at this
    simp only [Bool.or_eq_false_iff, Nat.add_sub_cancel, hx] at this
    simpa using this.2
theorem VF.pl_in {f : TFramework} (h : VF f) {v : Int} (h0 : 0 ≤ v) (h1 : v < f.Graph.Points) : idx f.Places v = some (plAt f v) := idx_in _ h0 (by have := h.pls; omega)
theorem VF.pl_grid {f : TFramework} (h : VF f) {v : Int} (h0 : 0 ≤ v) (h1 : v < f.Graph.Points) : 0 ≤ (plAt f v).X ∧ (plAt f v).X ≤ 4 ∧ 0 ≤ (plAt f v).Y ∧ (plAt f v).Y ≤ 4 := by
  have hp := h.pls
  have hl : v.toNat < f.Places.length := by omega
  have e : f.Places[v.toNat]? = some (plAt f v) := by unfold plAt; rw [List.getElem?_eq_getElem hl]; rfl
  exact h.grid e
end Go.Proofs.Ytghofbijdnenoaa
end
section
set_option linter.unusedVariables false
set_option linter.unusedSimpArgs false
set_option linter.unnecessarySimpa false
open Go Go.Fw
namespace Go.Proofs.Ytghofbijdnenoaa
def nameStep (set : List Int) (k : Nat) (a : List Int × Nat) : List Int × Nat := bif hasI set k then (a.1 ++ [-1], a.2) else (a.1 ++ [(a.2 : Int)], a.2 + 1)
def names (set : List Int) (n : Nat) : List Int × Nat := iter (nameStep set) n ([], 0)
def nm (l : List Int) (v : Int) : Int := (l[v.toNat]?).getD 0
theorem nextSeed_same (s : Int) : m_spec_NextSeed s = m_impl_NextSeed s := by
  unfold m_spec_NextSeed m_impl_NextSeed
  rw [l1In_eq, within_eq, Int.mul_comm s 25173]
def nseed (s : Int) : Int := bif decide (0 ≤ s) && decide (s ≤ 65535) then Int.tmod (25173 * s + 13849) 65536 else 0
theorem nextSeed_eq (s : Int) : m_impl_NextSeed s = some (nseed s) := by
  unfold m_impl_NextSeed nseed
  rw [within_eq, Option.bind_some]
  cases h : decide (0 ≤ s) && decide (s ≤ 65535)
  · rfl
  · simp only [Bool.and_eq_true, decide_eq_true_eq] at h
    simp only [Bool.not_true, cond_false, cond_true]
    rw [w64_small (n := 25173 * s) (by omega) (by omega), w64_small (by omega) (by omega)]
def placeAt (r : Int) : TPlace := ⟨Int.tmod (Int.tmod (w64 (Int.tdiv r 16)) 25) 5, w64 (Int.tdiv (Int.tmod (w64 (Int.tdiv r 16)) 25) 5)⟩
def seedStep (_ : Nat) (a : Int × List TPlace) : Int × List TPlace := (nseed a.1, a.2 ++ [placeAt (nseed a.1)])
def seeded (g : TGraph) (s : Int) : List TPlace := (iter seedStep g.Points.toNat (s, [])).2
theorem seeded_len (s : Int) : ∀ n, (iter seedStep n (s, [])).2.length = n
  | 0 => rfl
  | n + 1 => by
    have := seeded_len s n
    show ((iter seedStep n (s, [])).2 ++ [placeAt (nseed (iter seedStep n (s, [])).1)]).length = _
    rw [List.length_append, this]
    rfl
theorem placesI_L1 {g r : TGraph} (h : VG g) (s : Int) : loopM (m_impl_PlacesFor_L1 g r) BIG (s, 0, []) = some (r.Bars, r.Points, seeded g s) := by
  have h1 := h.p1
  have h8 := h.p8
  have := fold_loop (b := m_impl_PlacesFor_L1 g r) (s := (s, 0, [])) (fun k (a : Int × List TPlace) => (a.1, (k : Int), a.2)) seedStep (fun k a => a.2.length = k) (fun a => (r.Bars, r.Points, a.2)) g.Points.toNat (s, []) (by omega) rfl rfl (fun k a hk ha => by
    refine ⟨?_, by simp [seedStep, ha]⟩
    unfold m_impl_PlacesFor_L1 seedStep placeAt
    simp only [nextSeed_eq, Option.bind_some, w64_succ (show k ≤ 1099511627776 by omega)]
    rw [decide_eq_true (by omega), cond_true, lim_ok (by rw [ha]; simp; omega)]
    rfl) (fun a ha => by
    unfold m_impl_PlacesFor_L1
    simp only
    rw [decide_eq_false (by omega)]
    rfl)
  exact this.1
theorem placesS_L1 {g r : TGraph} (h : VG g) (s : Int) : loopM (m_spec_PlacesFor_L1 g r) BIG (s, 0, []) = some (r.Bars, seeded g s, r.Points) := by
  have h1 := h.p1
  have h8 := h.p8
  have := fold_loop (b := m_spec_PlacesFor_L1 g r) (s := (s, 0, [])) (fun k (a : Int × List TPlace) => (a.1, (k : Int), a.2)) seedStep (fun k a => a.2.length = k) (fun a => (r.Bars, a.2, r.Points)) g.Points.toNat (s, []) (by omega) rfl rfl (fun k a hk ha => by
    refine ⟨?_, by simp [seedStep, ha]⟩
    unfold m_spec_PlacesFor_L1 seedStep placeAt
    simp only [nextSeed_same, nextSeed_eq, Option.bind_some, w64_succ (show k ≤ 1099511627776 by omega)]
    rw [decide_eq_true (by omega), cond_true, lim_ok (by rw [ha]; simp; omega)]
    rfl) (fun a ha => by
    unfold m_spec_PlacesFor_L1
    simp only
    rw [decide_eq_false (by omega)]
    rfl)
  exact this.1
theorem copyGraph_eq (g : TGraph) (h : SM g.Bars.length) : m_impl_copyGraph g = some g := by
  unfold m_impl_copyGraph
  rw [lim_ok (by simp; omega)]
  rfl
theorem l2Copy_eq (g : TGraph) (h : SM g.Bars.length) : m_spec_l2Copy g = some g := by
  unfold m_spec_l2Copy
  rw [lim_ok (by simp; omega)]
  rfl
def placesFor (g : TGraph) (s : Int) : TFramework × Bool := bif vG g && (decide (0 ≤ s) && decide (s ≤ 65535)) && vF ⟨g, seeded g s⟩ then (⟨g, seeded g s⟩, true) else (⟨⟨0, []⟩, []⟩, false)
theorem placesForI_eq (g : TGraph) (s : Int) (h : SM g.Bars.length) : m_impl_PlacesFor g s = some (placesFor g s) := by
  unfold m_impl_PlacesFor placesFor
  simp only [isGraphI_eq g h, within_eq, copyGraph_eq g h, Option.bind_some]
  cases hv : vG g
  · rfl
  · have hV := vG_VG hv
    have h8 := hV.p8
    have hl := seeded_len s g.Points.toNat
    simp only [placesI_L1 hV, Option.bind_some, isFI_eq ⟨⟨g.Points, g.Bars⟩, seeded g s⟩ h (by unfold seeded SM; simp only; omega)]
    cases decide (0 ≤ s) && decide (s ≤ 65535)
    · rfl
    · cases vF ⟨g, seeded g s⟩ <;> rfl
theorem placesForS_eq (g : TGraph) (s : Int) (h : SM g.Bars.length) : m_spec_PlacesFor g s = some (placesFor g s) := by
  unfold m_spec_PlacesFor placesFor
  simp only [isGraphS_eq g h, l1In_eq, l2Copy_eq g h, Option.bind_some]
  cases hv : vG g
  · rfl
  · have hV := vG_VG hv
    have h8 := hV.p8
    have hl := seeded_len s g.Points.toNat
    simp only [placesS_L1 hV, Option.bind_some, isFS_eq ⟨⟨g.Points, g.Bars⟩, seeded g s⟩ h (by unfold seeded SM; simp only; omega)]
    cases decide (0 ≤ s) && decide (s ≤ 65535)
    · rfl
    · cases vF ⟨g, seeded g s⟩ <;> rfl
end Go.Proofs.Ytghofbijdnenoaa
end
section
set_option linter.unusedVariables false
set_option linter.unusedSimpArgs false
set_option linter.unnecessarySimpa false
open Go Go.Fw
namespace Go.Proofs.Ytghofbijdnenoaa
theorem copyInts_eq (l : List Int) (h : SM l.length) : m_impl_copyInts l = some l := by
  unfold m_impl_copyInts
  rw [lim_ok (by simp; omega)]
  rfl
structure VV (f : TFramework) (v : List Int) : Prop where
  fr : VF f
  len : (v.length : Int) = 2 * f.Graph.Points
  sm : ∀ {k : Nat} {x : Int}, v[k]? = some x → -10000000000 ≤ x ∧ x ≤ 10000000000
def gv (v : List Int) (i : Int) : Int := (v[i.toNat]?).getD 0
theorem VV.lt {f : TFramework} {v : List Int} (h : VV f v) {i : Int} (h0 : 0 ≤ i) (h1 : i < 2 * f.Graph.Points) : -10000000000 ≤ gv v i ∧ gv v i ≤ 10000000000 := by
  have hl := h.len
  have hn : i.toNat < v.length := by omega
  refine h.sm (k := i.toNat) ?_
  unfold gv
  rw [List.getElem?_eq_getElem hn]
  rfl
def otherE (x : TBar) (v : Int) : Int := bif x.A == v then x.B else x.A
end Go.Proofs.Ytghofbijdnenoaa
end
section
set_option linter.unusedVariables false
set_option linter.unusedSimpArgs false
set_option linter.unnecessarySimpa false
namespace Go.Mx
abbrev Ext := List Bool → Int
def wed : List Int → Ext → Ext
  | [], _, _ => 0
  | s :: v, x, m => match m with
    | [] => 0
    | false :: m => wed v (fun m => x (false :: m)) m
    | true :: m => s * x (false :: m) - wed v (fun m => x (true :: m)) m
def con : List Int → Ext → Ext
  | [], _, _ => 0
  | t :: u, x, m => match m with
    | [] => 0
    | false :: m => con u (fun m => x (false :: m)) m + t * x (true :: m)
    | true :: m => - con u (fun m => x (true :: m)) m
def dot : List Int → List Int → Int
  | a :: u, b :: v => a * b + dot u v
  | _, _ => 0
theorem wed_congr : ∀ (v : List Int) (x y : Ext) (m : List Bool), (∀ k : List Bool, k.length = m.length → x k = y k) → wed v x m = wed v y m
  | [], x, y, m, h => rfl
  | s :: v, x, y, [], h => rfl
  | s :: v, x, y, false :: m, h => wed_congr v _ _ m fun k hk => h (false :: k) (by simp [hk])
  | s :: v, x, y, true :: m, h => by
    show s * x (false :: m) - wed v (fun m => x (true :: m)) m = s * y (false :: m) - wed v (fun m => y (true :: m)) m
    rw [h (false :: m) (by simp), wed_congr v (fun m => x (true :: m)) (fun m => y (true :: m)) m fun k hk => h (true :: k) (by simp [hk])]
theorem con_congr : ∀ (v : List Int) (x y : Ext) (m : List Bool), (∀ k : List Bool, k.length = m.length → x k = y k) → con v x m = con v y m
  | [], x, y, m, h => rfl
  | s :: v, x, y, [], h => rfl
  | s :: v, x, y, false :: m, h => by
    show con v (fun m => x (false :: m)) m + s * x (true :: m) = con v (fun m => y (false :: m)) m + s * y (true :: m)
    rw [h (true :: m) (by simp), con_congr v (fun m => x (false :: m)) (fun m => y (false :: m)) m fun k hk => h (false :: k) (by simp [hk])]
  | s :: v, x, y, true :: m, h => by
    show - con v (fun m => x (true :: m)) m = - con v (fun m => y (true :: m)) m
    rw [con_congr v (fun m => x (true :: m)) (fun m => y (true :: m)) m fun k hk => h (true :: k) (by simp [hk])]
theorem wed_lin (a b : Int) : ∀ (v : List Int) (x y : Ext) (m : List Bool), wed v (fun m => a * x m + b * y m) m = a * wed v x m + b * wed v y m
  | [], x, y, m => by simp [wed]
  | s :: v, x, y, [] => by simp [wed]
  | s :: v, x, y, false :: m => wed_lin a b v (fun m => x (false :: m)) (fun m => y (false :: m)) m
  | s :: v, x, y, true :: m => by
    have h := wed_lin a b v (fun m => x (true :: m)) (fun m => y (true :: m)) m
    show s * (a * x (false :: m) + b * y (false :: m)) - wed v (fun m => a * x (true :: m) + b * y (true :: m)) m = a * (s * x (false :: m) - wed v (fun m => x (true :: m)) m) + b * (s * y (false :: m) - wed v (fun m => y (true :: m)) m)
    rw [h]
    grind
theorem con_lin (a b : Int) : ∀ (v : List Int) (x y : Ext) (m : List Bool), con v (fun m => a * x m + b * y m) m = a * con v x m + b * con v y m
  | [], x, y, m => by simp [con]
  | s :: v, x, y, [] => by simp [con]
  | s :: v, x, y, false :: m => by
    have h := con_lin a b v (fun m => x (false :: m)) (fun m => y (false :: m)) m
    show con v (fun m => a * x (false :: m) + b * y (false :: m)) m + s * (a * x (true :: m) + b * y (true :: m)) = a * (con v (fun m => x (false :: m)) m + s * x (true :: m)) + b * (con v (fun m => y (false :: m)) m + s * y (true :: m))
    rw [h]
    grind
  | s :: v, x, y, true :: m => by
    have h := con_lin a b v (fun m => x (true :: m)) (fun m => y (true :: m)) m
    show - con v (fun m => a * x (true :: m) + b * y (true :: m)) m = a * (- con v (fun m => x (true :: m)) m) + b * (- con v (fun m => y (true :: m)) m)
    rw [h]
    grind
theorem wed_zero (v : List Int) (x : Ext) (m : List Bool) (h : ∀ k : List Bool, k.length = m.length → x k = 0) : wed v x m = 0 := by
  rw [wed_congr v x (fun m => 0 * x m + 0 * x m) m fun k hk => by rw [h k hk]; rfl, wed_lin]
  grind
theorem con_zero (v : List Int) (x : Ext) (m : List Bool) (h : ∀ k : List Bool, k.length = m.length → x k = 0) : con v x m = 0 := by
  rw [con_congr v x (fun m => 0 * x m + 0 * x m) m fun k hk => by rw [h k hk]; rfl, con_lin]
  grind
theorem wed_neg (v : List Int) (x : Ext) (m : List Bool) : wed v (fun m => - x m) m = - wed v x m := by
  rw [wed_congr v (fun m => - x m) (fun m => (-1) * x m + 0 * x m) m fun k hk => by grind, wed_lin]
  grind
theorem con_neg (v : List Int) (x : Ext) (m : List Bool) : con v (fun m => - x m) m = - con v x m := by
  rw [con_congr v (fun m => - x m) (fun m => (-1) * x m + 0 * x m) m fun k hk => by grind, con_lin]
  grind
theorem wed_add (t : Int) (v : List Int) (x y : Ext) (m : List Bool) : wed v (fun m => x m + t * y m) m = wed v x m + t * wed v y m := by
  rw [wed_congr v (fun m => x m + t * y m) (fun m => 1 * x m + t * y m) m fun k hk => by grind, wed_lin]
  grind
theorem con_add (t : Int) (v : List Int) (x y : Ext) (m : List Bool) : con v (fun m => x m + t * y m) m = con v x m + t * con v y m := by
  rw [con_congr v (fun m => x m + t * y m) (fun m => 1 * x m + t * y m) m fun k hk => by grind, con_lin]
  grind
theorem wed_sub (t : Int) (v : List Int) (x y : Ext) (m : List Bool) : wed v (fun m => t * x m - y m) m = t * wed v x m - wed v y m := by
  rw [wed_congr v (fun m => t * x m - y m) (fun m => t * x m + (-1) * y m) m fun k hk => by grind, wed_lin]
  grind
theorem con_sub (t : Int) (v : List Int) (x y : Ext) (m : List Bool) : con v (fun m => t * x m - y m) m = t * con v x m - con v y m := by
  rw [con_congr v (fun m => t * x m - y m) (fun m => t * x m + (-1) * y m) m fun k hk => by grind, con_lin]
  grind
theorem con_wed : ∀ (u v : List Int) (x : Ext) (m : List Bool), u.length = m.length → v.length = m.length → con u (wed v x) m + wed v (con u x) m = dot u v * x m
  | [], [], x, m, _, _ => by simp [con, wed, dot]
  | t :: u, s :: v, x, [], h, _ => by cases h
  | [], s :: v, x, m, h1, h2 => by simp at h1 h2; omega
  | t :: u, [], x, m, h1, h2 => by simp at h1 h2; omega
  | t :: u, s :: v, x, false :: m, h1, h2 => by
    have ih := con_wed u v (fun m => x (false :: m)) m (by simpa using h1) (by simpa using h2)
    have e1 := wed_add t v (con u fun m => x (false :: m)) (fun m => x (true :: m)) m
    show con u (wed v fun m => x (false :: m)) m + t * (s * x (false :: m) - wed v (fun m => x (true :: m)) m) + wed v (fun m => con u (fun m => x (false :: m)) m + t * x (true :: m)) m = (t * s + dot u v) * x (false :: m)
    rw [e1]
    grind
  | t :: u, s :: v, x, true :: m, h1, h2 => by
    have ih := con_wed u v (fun m => x (true :: m)) m (by simpa using h1) (by simpa using h2)
    have e1 := con_sub s u (fun m => x (false :: m)) (wed v fun m => x (true :: m)) m
    have e2 := wed_neg v (con u fun m => x (true :: m)) m
    show - con u (fun m => s * x (false :: m) - wed v (fun m => x (true :: m)) m) m + (s * (con u (fun m => x (false :: m)) m + t * x (true :: m)) - wed v (fun m => - con u (fun m => x (true :: m)) m) m) = (t * s + dot u v) * x (true :: m)
    rw [e1, e2]
    grind
theorem wed_wed : ∀ (u v : List Int) (x : Ext) (m : List Bool), u.length = m.length → v.length = m.length → wed u (wed v x) m = - wed v (wed u x) m
  | [], [], x, m, _, _ => by simp [wed]
  | t :: u, s :: v, x, [], h, _ => by cases h
  | [], s :: v, x, m, h1, h2 => by simp at h1 h2; omega
  | t :: u, [], x, m, h1, h2 => by simp at h1 h2; omega
  | t :: u, s :: v, x, false :: m, h1, h2 => wed_wed u v (fun m => x (false :: m)) m (by simpa using h1) (by simpa using h2)
  | t :: u, s :: v, x, true :: m, h1, h2 => by
    have ih := wed_wed u v (fun m => x (true :: m)) m (by simpa using h1) (by simpa using h2)
    have e1 := wed_sub s u (fun m => x (false :: m)) (wed v fun m => x (true :: m)) m
    have e2 := wed_sub t v (fun m => x (false :: m)) (wed u fun m => x (true :: m)) m
    show t * wed v (fun m => x (false :: m)) m - wed u (fun m => s * x (false :: m) - wed v (fun m => x (true :: m)) m) m = - (s * wed u (fun m => x (false :: m)) m - wed v (fun m => t * x (false :: m) - wed u (fun m => x (true :: m)) m) m)
    rw [e1, e2]
    grind
theorem con_con : ∀ (u v : List Int) (x : Ext) (m : List Bool), u.length = m.length → v.length = m.length → con u (con v x) m = - con v (con u x) m
  | [], [], x, m, _, _ => by simp [con]
  | t :: u, s :: v, x, [], h, _ => by cases h
  | [], s :: v, x, m, h1, h2 => by simp at h1 h2; omega
  | t :: u, [], x, m, h1, h2 => by simp at h1 h2; omega
  | t :: u, s :: v, x, false :: m, h1, h2 => by
    have ih := con_con u v (fun m => x (false :: m)) m (by simpa using h1) (by simpa using h2)
    have e1 := con_add s u (con v fun m => x (false :: m)) (fun m => x (true :: m)) m
    have e2 := con_add t v (con u fun m => x (false :: m)) (fun m => x (true :: m)) m
    show con u (fun m => con v (fun m => x (false :: m)) m + s * x (true :: m)) m + t * (- con v (fun m => x (true :: m)) m) = - (con v (fun m => con u (fun m => x (false :: m)) m + t * x (true :: m)) m + s * (- con u (fun m => x (true :: m)) m))
    rw [e1, e2]
    grind
  | t :: u, s :: v, x, true :: m, h1, h2 => by
    have ih := con_con u v (fun m => x (true :: m)) m (by simpa using h1) (by simpa using h2)
    have e1 := con_neg u (con v fun m => x (true :: m)) m
    have e2 := con_neg v (con u fun m => x (true :: m)) m
    show - con u (fun m => - con v (fun m => x (true :: m)) m) m = - - con v (fun m => - con u (fun m => x (true :: m)) m) m
    rw [e1, e2]
    grind
theorem wed_vlin (a b : Int) : ∀ (u v y : List Int) (x : Ext) (m : List Bool), u.length = y.length → v.length = y.length → (∀ k : Nat, y.getD k 0 = a * u.getD k 0 + b * v.getD k 0) → wed y x m = a * wed u x m + b * wed v x m
  | [], [], [], x, m, _, _, _ => by simp [wed]
  | t :: u, s :: v, r :: y, x, [], _, _, _ => by simp [wed]
  | t :: u, s :: v, r :: y, x, false :: m, h1, h2, h3 => wed_vlin a b u v y (fun m => x (false :: m)) m (by simpa using h1) (by simpa using h2) fun k => by simpa using h3 (k + 1)
  | t :: u, s :: v, r :: y, x, true :: m, h1, h2, h3 => by
    have ih := wed_vlin a b u v y (fun m => x (true :: m)) m (by simpa using h1) (by simpa using h2) fun k => by simpa using h3 (k + 1)
    have h0 : r = a * t + b * s := by simpa using h3 0
    show r * x (false :: m) - wed y (fun m => x (true :: m)) m = a * (t * x (false :: m) - wed u (fun m => x (true :: m)) m) + b * (s * x (false :: m) - wed v (fun m => x (true :: m)) m)
    rw [ih, h0]
    grind
  | [], _ :: _, [], _, _, _, h, _ => by cases h
  | _ :: _, [], [], _, _, h, _, _ => by cases h
  | _ :: _, _ :: _, [], _, _, h, _, _ => by cases h
  | [], _, _ :: _, _, _, h, _, _ => by cases h
  | _ :: _, [], _ :: _, _, _, _, h, _ => by cases h
def ip : Nat → Ext → Ext → Int
  | 0, x, y => x [] * y []
  | n + 1, x, y => ip n (fun m => x (false :: m)) (fun m => y (false :: m)) + ip n (fun m => x (true :: m)) (fun m => y (true :: m))
theorem ip_congr : ∀ (n : Nat) (x x' y y' : Ext), (∀ m : List Bool, m.length = n → x m = x' m) → (∀ m : List Bool, m.length = n → y m = y' m) → ip n x y = ip n x' y'
  | 0, x, x', y, y', h1, h2 => by simp [ip, h1 [] rfl, h2 [] rfl]
  | n + 1, x, x', y, y', h1, h2 => by
    unfold ip
    rw [ip_congr n _ _ _ _ (fun m hm => h1 (false :: m) (by simp [hm])) fun m hm => h2 (false :: m) (by simp [hm]), ip_congr n _ _ _ _ (fun m hm => h1 (true :: m) (by simp [hm])) fun m hm => h2 (true :: m) (by simp [hm])]
theorem ip_lin (a b : Int) : ∀ (n : Nat) (x y z : Ext), ip n z (fun m => a * x m + b * y m) = a * ip n z x + b * ip n z y
  | 0, x, y, z => by simp only [ip]; grind
  | n + 1, x, y, z => by
    have h1 := ip_lin a b n (fun m => x (false :: m)) (fun m => y (false :: m)) (fun m => z (false :: m))
    have h2 := ip_lin a b n (fun m => x (true :: m)) (fun m => y (true :: m)) (fun m => z (true :: m))
    unfold ip
    rw [h1, h2]
    grind
theorem ip_comm : ∀ (n : Nat) (x y : Ext), ip n x y = ip n y x
  | 0, x, y => Int.mul_comm ..
  | n + 1, x, y => by
    unfold ip
    rw [ip_comm n, ip_comm n (fun m => x (true :: m))]
theorem ip_add (t : Int) (n : Nat) (x y z : Ext) : ip n z (fun m => x m + t * y m) = ip n z x + t * ip n z y := by
  rw [ip_congr n z z (fun m => x m + t * y m) (fun m => 1 * x m + t * y m) (fun _ _ => rfl) fun m _ => by grind, ip_lin]
  grind
theorem ip_sub (t : Int) (n : Nat) (x y z : Ext) : ip n z (fun m => t * x m - y m) = t * ip n z x - ip n z y := by
  rw [ip_congr n z z (fun m => t * x m - y m) (fun m => t * x m + (-1) * y m) (fun _ _ => rfl) fun m _ => by grind, ip_lin]
  grind
theorem ip_neg (n : Nat) (x z : Ext) : ip n z (fun m => - x m) = - ip n z x := by
  rw [ip_congr n z z (fun m => - x m) (fun m => (-1) * x m + 0 * x m) (fun _ _ => rfl) fun m _ => by grind, ip_lin]
  grind
theorem adj : ∀ (n : Nat) (v : List Int) (x y : Ext), v.length = n → ip n (wed v x) y = ip n x (con v y)
  | 0, [], x, y, _ => by simp [ip, wed, con]
  | n + 1, s :: v, x, y, h => by
    have h1 := adj n v (fun m => x (false :: m)) (fun m => y (false :: m)) (by simpa using h)
    have h2 := adj n v (fun m => x (true :: m)) (fun m => y (true :: m)) (by simpa using h)
    show ip n (wed v fun m => x (false :: m)) (fun m => y (false :: m)) + ip n (fun m => s * x (false :: m) - wed v (fun m => x (true :: m)) m) (fun m => y (true :: m)) = ip n (fun m => x (false :: m)) (fun m => con v (fun m => y (false :: m)) m + s * y (true :: m)) + ip n (fun m => x (true :: m)) (fun m => - con v (fun m => y (true :: m)) m)
    rw [h1, ip_comm n (fun m => s * x (false :: m) - wed v (fun m => x (true :: m)) m), ip_sub, ip_comm n (fun m => y (true :: m)) (wed v fun m => x (true :: m)), h2, ip_add, ip_neg, ip_comm n (fun m => y (true :: m))]
    grind
  | 0, _ :: _, _, _, h => by cases h
  | _ + 1, [], _, _, h => by cases h
def nrm (n : Nat) (x : Ext) : Int := ip n x x
theorem nrm_nonneg : ∀ (n : Nat) (x : Ext), 0 ≤ nrm n x
  | 0, x => by
    show 0 ≤ x [] * x []
    rcases Int.le_total 0 (x []) with h | h
    · exact Int.mul_nonneg h h
    · exact Int.mul_nonneg_of_nonpos_of_nonpos h h
  | n + 1, x => Int.add_nonneg (nrm_nonneg n _) (nrm_nonneg n _)
theorem nrm_wed (n : Nat) (v : List Int) (x : Ext) (h : v.length = n) : nrm n (wed v x) + nrm n (con v x) = dot v v * nrm n x := by
  unfold nrm
  rw [adj n v x _ h]
  have h1 : ip n x (con v (wed v x)) = ip n x (fun m => dot v v * x m - wed v (con v x) m) := ip_congr n _ _ _ _ (fun _ _ => rfl) fun m hm => by
    have := con_wed v v x m (by omega) (by omega)
    omega
  rw [h1, ip_sub, ip_comm n x (wed v (con v x)), adj n v _ _ h]
  omega
theorem nrm_wed_le (n : Nat) (v : List Int) (x : Ext) (h : v.length = n) : nrm n (wed v x) ≤ dot v v * nrm n x := by
  have := nrm_wed n v x h
  have := nrm_nonneg n (con v x)
  omega
theorem nrm_con_le (n : Nat) (v : List Int) (x : Ext) (h : v.length = n) : nrm n (con v x) ≤ dot v v * nrm n x := by
  have := nrm_wed n v x h
  have := nrm_nonneg n (wed v x)
  omega
theorem sq_nonneg (a : Int) : 0 ≤ a * a := by
  rcases Int.le_total 0 a with h | h
  · exact Int.mul_nonneg h h
  · exact Int.mul_nonneg_of_nonpos_of_nonpos h h
theorem sq_le_nrm : ∀ (n : Nat) (x : Ext) (m : List Bool), m.length = n → x m * x m ≤ nrm n x
  | 0, x, [], _ => Int.le_refl _
  | n + 1, x, false :: m, h => by
    have h1 := sq_le_nrm n (fun m => x (false :: m)) m (by simpa using h)
    have h2 := nrm_nonneg n (fun m => x (true :: m))
    have e : nrm (n + 1) x = nrm n (fun m => x (false :: m)) + nrm n (fun m => x (true :: m)) := rfl
    omega
  | n + 1, x, true :: m, h => by
    have h1 := sq_le_nrm n (fun m => x (true :: m)) m (by simpa using h)
    have h2 := nrm_nonneg n (fun m => x (false :: m))
    have e : nrm (n + 1) x = nrm n (fun m => x (false :: m)) + nrm n (fun m => x (true :: m)) := rfl
    omega
  | 0, _, _ :: _, h => by cases h
  | _ + 1, _, [], h => by cases h
def one : Ext := fun m => if m.all (!·) then 1 else 0
def om : List (List Int) → Ext
  | [] => one
  | v :: V => wed v (om V)
def ct : List (List Int) → Ext → Ext
  | [], x => x
  | u :: U, x => ct U (con u x)
def sc (n : Nat) (x : Ext) : Int := x (List.replicate n false)
def prod2 : List (List Int) → Int
  | [] => 1
  | v :: V => dot v v * prod2 V
theorem dot_self (v : List Int) : 0 ≤ dot v v := by
  induction v with
  | nil => exact Int.le_refl _
  | cons a v ih => exact Int.add_nonneg (sq_nonneg a) ih
theorem prod2_nonneg : ∀ V, 0 ≤ prod2 V
  | [] => by decide
  | v :: V => Int.mul_nonneg (dot_self v) (prod2_nonneg V)
theorem nrm_one : ∀ n, nrm n one = 1
  | 0 => rfl
  | n + 1 => by
    have h1 : ip n (fun m => one (false :: m)) (fun m => one (false :: m)) = nrm n one := ip_congr n _ _ _ _ (fun m _ => by simp [one]) (fun m _ => by simp [one])
    have h2 : ip n (fun m => one (true :: m)) (fun m => one (true :: m)) = ip n (fun m => 0 * one m + 0 * one m) (fun m => 0 * one m + 0 * one m) := ip_congr n _ _ _ _ (fun m _ => by simp [one]) (fun m _ => by simp [one])
    show ip n (fun m => one (false :: m)) (fun m => one (false :: m)) + ip n (fun m => one (true :: m)) (fun m => one (true :: m)) = 1
    rw [h1, h2, ip_lin, nrm_one n]
    grind
theorem nrm_om : ∀ (n : Nat) (V : List (List Int)), (∀ v ∈ V, v.length = n) → nrm n (om V) ≤ prod2 V
  | n, [], _ => by rw [show om [] = one from rfl, nrm_one]; exact Int.le_refl _
  | n, v :: V, h => by
    have h1 := nrm_wed_le n v (om V) (h v List.mem_cons_self)
    have h2 := nrm_om n V fun v hv => h v (List.mem_cons_of_mem _ hv)
    exact Int.le_trans h1 (Int.mul_le_mul_of_nonneg_left h2 (dot_self v))
theorem nrm_ct : ∀ (n : Nat) (U : List (List Int)) (x : Ext), (∀ u ∈ U, u.length = n) → nrm n (ct U x) ≤ prod2 U * nrm n x
  | n, [], x, _ => by rw [show prod2 [] = 1 from rfl, Int.one_mul]; exact Int.le_refl _
  | n, u :: U, x, h => by
    have h1 := nrm_ct n U (con u x) fun v hv => h v (List.mem_cons_of_mem _ hv)
    have h2 := nrm_con_le n u x (h u List.mem_cons_self)
    have h3 := Int.mul_le_mul_of_nonneg_left h2 (prod2_nonneg U)
    have e : prod2 (u :: U) * nrm n x = prod2 U * (dot u u * nrm n x) := by
      show dot u u * prod2 U * nrm n x = _
      grind
    rw [e]
    exact Int.le_trans h1 h3
theorem hadamard (n : Nat) (U V : List (List Int)) (hu : ∀ u ∈ U, u.length = n) (hv : ∀ v ∈ V, v.length = n) : sc n (ct U (om V)) * sc n (ct U (om V)) ≤ prod2 U * prod2 V :=
  Int.le_trans (sq_le_nrm n _ _ (List.length_replicate ..)) (Int.le_trans (nrm_ct n U _ hu) (Int.mul_le_mul_of_nonneg_left (nrm_om n V hv) (prod2_nonneg U)))
end Go.Mx
end
section
set_option linter.unusedVariables false
set_option linter.unusedSimpArgs false
set_option linter.unnecessarySimpa false
namespace Go.Mx
structure LinF (n : Nat) (F : Ext → Int) : Prop where
  congr : ∀ x y : Ext, (∀ m : List Bool, m.length = n → x m = y m) → F x = F y
  lin : ∀ (a b : Int) (x y : Ext), F (fun m => a * x m + b * y m) = a * F x + b * F y
theorem LinF.sub {n : Nat} {F : Ext → Int} (h : LinF n F) (t : Int) (x y : Ext) : F (fun m => t * x m - y m) = t * F x - F y := by
  rw [h.congr (fun m => t * x m - y m) (fun m => t * x m + (-1) * y m) fun m _ => by grind, h.lin]
  grind
theorem LinF.neg {n : Nat} {F : Ext → Int} (h : LinF n F) (x : Ext) : F (fun m => - x m) = - F x := by
  rw [h.congr (fun m => - x m) (fun m => (-1) * x m + 0 * x m) fun m _ => by grind, h.lin]
  grind
theorem LinF.zero {n : Nat} {F : Ext → Int} (h : LinF n F) (x : Ext) (hx : ∀ m : List Bool, m.length = n → x m = 0) : F x = 0 := by
  rw [h.congr x (fun m => 0 * x m + 0 * x m) fun m hm => by rw [hx m hm]; rfl, h.lin]
  grind
theorem LinF.sc (n : Nat) : LinF n (sc n) := ⟨fun x y h => h _ (List.length_replicate ..), fun a b x y => rfl⟩
theorem LinF.con {n : Nat} {F : Ext → Int} (h : LinF n F) (u : List Int) : LinF n fun x => F (con u x) :=
  ⟨fun x y hx => h.congr _ _ fun m hm => con_congr u x y m fun k hk => hx k (by omega), fun a b x y => by
    rw [h.congr _ (fun m => a * Mx.con u x m + b * Mx.con u y m) fun m _ => con_lin a b u x y m, h.lin]⟩
theorem LinF.wed {n : Nat} {F : Ext → Int} (h : LinF n F) (u : List Int) : LinF n fun x => F (wed u x) :=
  ⟨fun x y hx => h.congr _ _ fun m hm => wed_congr u x y m fun k hk => hx k (by omega), fun a b x y => by
    rw [h.congr _ (fun m => a * Mx.wed u x m + b * Mx.wed u y m) fun m _ => wed_lin a b u x y m, h.lin]⟩
theorem LinF.ct {n : Nat} : ∀ {F : Ext → Int}, LinF n F → ∀ U : List (List Int), LinF n fun x => F (ct U x)
  | F, h, [] => h
  | F, h, u :: U => (LinF.ct h U).con u
theorem con_one : ∀ (u : List Int) (m : List Bool), con u one m = 0
  | [], m => rfl
  | t :: u, [] => rfl
  | t :: u, false :: m => by
    have h := con_congr u (fun m => one (false :: m)) one m fun k _ => by simp [one]
    show con u (fun m => one (false :: m)) m + t * one (true :: m) = 0
    rw [h, con_one u m]
    simp [one]
  | t :: u, true :: m => by
    have h := con_zero u (fun m => one (true :: m)) m fun k _ => by simp [one]
    show - con u (fun m => one (true :: m)) m = 0
    rw [h]; rfl
theorem sc_wed : ∀ (n : Nat) (v : List Int) (x : Ext), wed v x (List.replicate n false) = 0
  | _, [], _ => rfl
  | 0, _ :: _, _ => rfl
  | n + 1, s :: v, x => sc_wed n v _
def det (n : Nat) (U V : List (List Int)) : Int := sc n (ct U (om V))
def ent (n : Nat) (U V : List (List Int)) (x u : List Int) : Int := det n (u :: U) (x :: V)
def AllL (n : Nat) (V : List (List Int)) : Prop := ∀ v ∈ V, v.length = n
theorem AllL.tail {n : Nat} {v : List Int} {V : List (List Int)} (h : AllL n (v :: V)) : AllL n V := fun x hx => h x (List.mem_cons_of_mem _ hx)
theorem AllL.head {n : Nat} {v : List Int} {V : List (List Int)} (h : AllL n (v :: V)) : v.length = n := h v List.mem_cons_self
theorem ent_eq {n : Nat} {U V : List (List Int)} {x u : List Int} (hx : x.length = n) (hu : u.length = n) : ent n U V x u = dot u x * det n U V - sc n (ct U (wed x (con u (om V)))) := by
  have hF := LinF.ct (LinF.sc n) U
  have h := hF.congr (con u (wed x (om V))) (fun m => dot u x * om V m - wed x (con u (om V)) m) fun m hm => by
    have := con_wed u x (om V) m (by omega) (by omega)
    omega
  show sc n (ct U (con u (wed x (om V)))) = _
  exact h.trans (hF.sub _ _ _)
def Sp (n : Nat) (V : List (List Int)) (y : List Int) : Prop := y.length = n ∧ ∀ m : List Bool, m.length = n → wed y (om V) m = 0
theorem Sp.mem {n : Nat} {v : List Int} : ∀ {V : List (List Int)}, AllL n V → v ∈ V → Sp n V v
  | p :: V, hV, h => by
    refine ⟨hV v h, fun m hm => ?_⟩
    rcases List.mem_cons.1 h with rfl | h
    · have := wed_wed v v (om V) m (by rw [hV.head, hm]) (by rw [hV.head, hm])
      show wed v (wed v (om V)) m = 0
      omega
    · have ih := Sp.mem hV.tail h
      show wed v (wed p (om V)) m = 0
      rw [wed_wed v p (om V) m (by rw [ih.1, hm]) (by rw [hV.head, hm]), wed_zero p (wed v (om V)) m fun k hk => ih.2 k (by omega)]
      rfl
theorem Sp.cons {n : Nat} {V : List (List Int)} {y p : List Int} (h : Sp n V y) (hp : p.length = n) : Sp n (p :: V) y := ⟨h.1, fun m hm => by
  show wed y (wed p (om V)) m = 0
  rw [wed_wed y p (om V) m (by rw [h.1, hm]) (by rw [hp, hm]), wed_zero p (wed y (om V)) m fun k hk => h.2 k (by omega)]
  rfl⟩
theorem Sp.comb {n : Nat} {V : List (List Int)} {u v y : List Int} (a b : Int) (hu : Sp n V u) (hv : Sp n V v) (hy : y.length = n) (h : ∀ k : Nat, y.getD k 0 = a * u.getD k 0 + b * v.getD k 0) : Sp n V y :=
  ⟨hy, fun m hm => by
    rw [wed_vlin a b u v y (om V) m (by rw [hu.1, hy]) (by rw [hv.1, hy]) h, hu.2 m hm, hv.2 m hm]
    simp⟩
theorem ct_wed_sc {n : Nat} {y : List Int} (hy : y.length = n) : ∀ (U : List (List Int)) (x : Ext), AllL n U → (∀ u ∈ U, dot u y = 0) → sc n (ct U (wed y x)) = 0
  | [], x, _, _ => sc_wed n y x
  | u :: U, x, hU, h => by
    have hF := LinF.ct (LinF.sc n) U
    have ih := ct_wed_sc hy U (con u x) hU.tail fun v hv => h v (List.mem_cons_of_mem _ hv)
    have e := hF.congr (con u (wed y x)) (fun m => - wed y (con u x) m) fun m hm => by
      have := con_wed u y x m (by rw [hU.head, hm]) (by omega)
      rw [h u List.mem_cons_self] at this
      omega
    show sc n (ct U (con u (wed y x))) = 0
    refine (e.trans (hF.neg _)).trans ?_
    show - sc n (ct U (wed y (con u x))) = 0
    rw [ih]; rfl
theorem uniq {n : Nat} {U V : List (List Int)} {y u : List Int} (hy : Sp n V y) (hU : AllL n U) (hu : u.length = n) (h : ∀ w ∈ U, dot w y = 0) : dot u y * det n U V = 0 := by
  have h1 := ent_eq (U := U) (V := V) hy.1 hu
  have h2 : ent n U V y u = 0 := (LinF.ct (LinF.sc n) (u :: U)).zero _ fun m hm => hy.2 m hm
  have hF := ((LinF.sc n).ct U)
  rw [h2, ct_wed_sc hy.1 U (con u (om V)) hU h] at h1
  omega
theorem ct_twice {n : Nat} {u : List Int} (hu : u.length = n) : ∀ (U : List (List Int)) (x : Ext), AllL n U → u ∈ U → sc n (ct U (con u x)) = 0
  | w :: U, x, hU, h => by
    have hF := LinF.ct (LinF.sc n) U
    show sc n (ct U (con w (con u x))) = 0
    rcases List.mem_cons.1 h with rfl | h
    · refine hF.zero _ fun m hm => ?_
      have := con_con u u x m (by omega) (by omega)
      omega
    · have ih := ct_twice hu U (con w x) hU.tail h
      have e := hF.congr (con w (con u x)) (fun m => - con u (con w x) m) fun m hm => con_con w u x m (by rw [hU.head, hm]) (by omega)
      refine (e.trans (hF.neg _)).trans ?_
      show - sc n (ct U (con u (con w x))) = 0
      rw [ih]; rfl
theorem ent_col {n : Nat} {U V : List (List Int)} {x u : List Int} (hu : u.length = n) (hU : AllL n U) (h : u ∈ U) : ent n U V x u = 0 := ct_twice hu U _ hU h
def unit (n k : Nat) : List Int := (List.range n).map fun i => if i = k then 1 else 0
theorem unit_len (n k : Nat) : (unit n k).length = n := by simp [unit]
theorem dot_map (f g : Nat → Int) : ∀ n, dot ((List.range n).map f) ((List.range n).map g) = ((List.range n).map fun i => f i * g i).sum := by
  have key : ∀ l : List Nat, dot (l.map f) (l.map g) = (l.map fun i => f i * g i).sum := fun l => by
    induction l with
    | nil => rfl
    | cons a l ih => simp only [List.map_cons, dot, List.sum_cons, ih]
  exact fun n => key _
theorem dot_unit {n k : Nat} {v : List Int} (hv : v.length = n) (hk : k < n) : dot (unit n k) v = v.getD k 0 := by
  have hv' : v = (List.range n).map fun i => v.getD i 0 := by
    refine List.ext_getElem? fun i => ?_
    rw [List.getElem?_map]
    by_cases hi : i < n
    · rw [List.getElem?_range hi]
      simp [List.getD_eq_getElem?_getD, List.getElem?_eq_getElem (show i < v.length by omega)]
    · rw [List.getElem?_eq_none (by omega), List.getElem?_eq_none (by simp; omega)]; rfl
  conv => lhs; rw [hv']
  unfold unit
  rw [dot_map]
  have key : ∀ (l : List Nat), l.Nodup → (l.map fun i => (if i = k then 1 else 0) * v.getD i 0).sum = if k ∈ l then v.getD k 0 else 0 := fun l hl => by
    induction l with
    | nil => rfl
    | cons a l ih =>
      have h1 := (List.nodup_cons.1 hl).1
      have h2 := (List.nodup_cons.1 hl).2
      rw [List.map_cons, List.sum_cons, ih h2]
      by_cases ha : a = k
      · subst ha; simp [h1]
      · rw [if_neg ha]
        simp [Ne.symm ha]
  rw [key _ List.nodup_range, if_pos (List.mem_range.2 hk)]
theorem dot_unit_self {n k : Nat} (hk : k < n) : dot (unit n k) (unit n k) = 1 := by
  rw [dot_unit (unit_len n k) hk]
  simp [unit, List.getD_eq_getElem?_getD, hk]
theorem vec_ext {n : Nat} {u v : List Int} (hu : u.length = n) (hv : v.length = n) (h : ∀ k, k < n → u.getD k 0 = v.getD k 0) : u = v := by
  refine List.ext_getElem? fun i => ?_
  by_cases hi : i < n
  · have := h i hi
    simp only [List.getD_eq_getElem?_getD, List.getElem?_eq_getElem (show i < u.length by omega), List.getElem?_eq_getElem (show i < v.length by omega), Option.getD_some] at this
    rw [List.getElem?_eq_getElem (by omega), List.getElem?_eq_getElem (by omega), this]
  · rw [List.getElem?_eq_none (by omega), List.getElem?_eq_none (by omega)]
theorem getD_out {v : List Int} {k : Nat} (h : v.length ≤ k) : v.getD k 0 = 0 := by
  rw [List.getD_eq_getElem?_getD, List.getElem?_eq_none h]; rfl
def vec (n : Nat) (f : Nat → Int) : List Int := (List.range n).map f
theorem vec_len (n : Nat) (f : Nat → Int) : (vec n f).length = n := by simp [vec]
theorem vec_get {n k : Nat} (f : Nat → Int) (h : k < n) : (vec n f).getD k 0 = f k := by simp [vec, List.getD_eq_getElem?_getD, h]
theorem Sp.vecF {n : Nat} : ∀ (V : List (List Int)) (F : Ext → Int), AllL n V → LinF n F → Sp n V (vec n fun k => F (con (unit n k) (om V)))
  | [], F, _, hF => ⟨vec_len .., fun m hm => by
    have h0 : ∀ k, F (con (unit n k) (om [])) = 0 := fun k => hF.zero _ fun m _ => con_one _ m
    have := wed_vlin 0 0 (vec n fun k => F (con (unit n k) (om []))) (vec n fun k => F (con (unit n k) (om []))) (vec n fun k => F (con (unit n k) (om []))) (om []) m rfl rfl fun k => by
      by_cases hk : k < n
      · rw [vec_get _ hk, h0]; rfl
      · rw [getD_out (by rw [vec_len]; omega)]; rfl
    rw [this]; simp⟩
  | v :: V, F, hV, hF => by
    have ih := Sp.vecF V (fun x => F (wed v x)) hV.tail (hF.wed v)
    have hv := hV.head
    refine ⟨vec_len .., fun m hm => ?_⟩
    have e : ∀ k, k < n → F (con (unit n k) (om (v :: V))) = v.getD k 0 * F (om V) - F (wed v (con (unit n k) (om V))) := fun k hk => by
      have h1 := hF.congr (con (unit n k) (om (v :: V))) (fun m => v.getD k 0 * om V m - wed v (con (unit n k) (om V)) m) fun m hm => by
        have := con_wed (unit n k) v (om V) m (by rw [unit_len, hm]) (by omega)
        rw [dot_unit hv hk] at this
        show con (unit n k) (wed v (om V)) m = _
        omega
      exact h1.trans (hF.sub _ _ _)
    have h2 := wed_vlin (F (om V)) (-1) v (vec n fun k => F (wed v (con (unit n k) (om V)))) (vec n fun k => F (con (unit n k) (om (v :: V)))) (om (v :: V)) m (by rw [vec_len, hv]) (by rw [vec_len, vec_len]) fun k => by
      by_cases hk : k < n
      · rw [vec_get _ hk, vec_get _ hk, e k hk]; grind
      · rw [getD_out (by rw [vec_len]; omega), getD_out (by omega), getD_out (by rw [vec_len]; omega)]; simp
    rw [h2]
    have h3 := (Sp.mem hV List.mem_cons_self).2 m hm
    have h4 := (Sp.cons ih hv).2 m hm
    rw [h3, h4]; simp
def units (n : Nat) (C : List Nat) : List (List Int) := C.map (unit n)
theorem units_len (n : Nat) (C : List Nat) : AllL n (units n C) := fun u hu => by
  obtain ⟨k, _, rfl⟩ := List.mem_map.1 hu
  exact unit_len ..
def arow (n : Nat) (C : List Nat) (V : List (List Int)) (x : List Int) : List Int := vec n fun k => ent n (units n C) V x (unit n k)
structure IsA (n : Nat) (C : List Nat) (V : List (List Int)) (x a : List Int) : Prop where
  len : a.length = n
  sp : Sp n V (vec n fun k => a.getD k 0 - det n (units n C) V * x.getD k 0)
  col : ∀ c ∈ C, a.getD c 0 = 0
theorem arow_isA {n : Nat} {C : List Nat} {V : List (List Int)} {x : List Int} (hV : AllL n V) (hx : x.length = n) : IsA n C V x (arow n C V x) := by
  refine ⟨vec_len .., ?_, fun c hc => ?_⟩
  · have h := Sp.vecF V (fun y => sc n (ct (units n C) (wed x y))) hV (((LinF.sc n).ct _).wed x)
    refine Sp.comb (-1) 0 h h (vec_len ..) fun k => ?_
    by_cases hk : k < n
    · rw [vec_get _ hk, vec_get _ hk, arow, vec_get _ hk, ent_eq hx (unit_len ..), dot_unit hx hk]
      grind
    · rw [getD_out (by rw [vec_len]; omega), getD_out (by rw [vec_len]; omega)]; rfl
  · by_cases hk : c < n
    · rw [arow, vec_get _ hk]
      exact ent_col (unit_len ..) (units_len n C) (List.mem_map.2 ⟨c, hc, rfl⟩)
    · exact getD_out (by rw [arow, vec_len]; omega)
theorem det_cons {n c : Nat} {C : List Nat} {V : List (List Int)} {p : List Int} (hc : c < n) : det n (units n (c :: C)) (p :: V) = (arow n C V p).getD c 0 := by
  rw [arow, vec_get _ hc]; rfl
theorem same_of {n : Nat} {C : List Nat} {V : List (List Int)} {a b : List Int} (hC : ∀ c ∈ C, c < n) (hd : det n (units n C) V ≠ 0) (ha : a.length = n) (hb : b.length = n) (hs : Sp n V (vec n fun k => a.getD k 0 - b.getD k 0)) (hc : ∀ c ∈ C, a.getD c 0 = b.getD c 0) : a = b := by
  refine vec_ext ha hb fun k hk => ?_
  have h := uniq (u := unit n k) hs (units_len n C) (unit_len ..) fun w hw => by
    obtain ⟨c, hcC, rfl⟩ := List.mem_map.1 hw
    have hcn := hC c hcC
    rw [dot_unit (vec_len ..) hcn, vec_get _ hcn, hc c hcC]
    omega
  rw [dot_unit (vec_len ..) hk, vec_get _ hk] at h
  rcases Int.mul_eq_zero.1 h with h | h
  · omega
  · exact absurd h hd
theorem IsA.eq {n : Nat} {C : List Nat} {V : List (List Int)} {x a : List Int} (hC : ∀ c ∈ C, c < n) (hd : det n (units n C) V ≠ 0) (hV : AllL n V) (hx : x.length = n) (h : IsA n C V x a) : a = arow n C V x := by
  have h2 := arow_isA (C := C) hV hx
  refine same_of hC hd h.len h2.len ?_ fun c hc => by rw [h.col c hc, h2.col c hc]
  refine Sp.comb 1 (-1) h.sp h2.sp (vec_len ..) fun k => ?_
  by_cases hk : k < n
  · rw [vec_get _ hk, vec_get _ hk, vec_get _ hk]; grind
  · rw [getD_out (by rw [vec_len]; omega), getD_out (by rw [vec_len]; omega), getD_out (by rw [vec_len]; omega)]; rfl
structure IsB (n : Nat) (C : List Nat) (V : List (List Int)) (c : Nat) (b : List Int) : Prop where
  len : b.length = n
  sp : Sp n V b
  piv : b.getD c 0 = det n (units n C) V
  col : ∀ c' ∈ C, c' ≠ c → b.getD c' 0 = 0
theorem IsB.eq {n : Nat} {C : List Nat} {V : List (List Int)} {c : Nat} {b b' : List Int} (hC : ∀ c ∈ C, c < n) (hd : det n (units n C) V ≠ 0) (h : IsB n C V c b) (h' : IsB n C V c b') : b = b' := by
  refine same_of hC hd h.len h'.len ?_ fun c' hc => ?_
  · refine Sp.comb 1 (-1) h.sp h'.sp (vec_len ..) fun k => ?_
    by_cases hk : k < n
    · rw [vec_get _ hk]; grind
    · rw [getD_out (by rw [vec_len]; omega), getD_out (by rw [h.len]; omega), getD_out (by rw [h'.len]; omega)]; rfl
  · by_cases e : c' = c
    · rw [e, h.piv, h'.piv]
    · rw [h.col c' hc e, h'.col c' hc e]
theorem ct_front {n : Nat} {u : List Int} (hu : u.length = n) : ∀ (U1 U2 : List (List Int)), AllL n (U1 ++ U2) → ∃ s : Int, s * s = 1 ∧ ∀ x : Ext, sc n (ct (U1 ++ u :: U2) x) = s * sc n (ct (u :: (U1 ++ U2)) x)
  | [], U2, _ => ⟨1, rfl, fun x => by rw [Int.one_mul]; rfl⟩
  | w :: U1, U2, hU => by
    obtain ⟨s, h1, h2⟩ := ct_front hu U1 U2 hU.tail
    refine ⟨-s, by grind, fun x => ?_⟩
    have e1 : sc n (ct (w :: U1 ++ u :: U2) x) = s * sc n (ct (u :: (U1 ++ U2)) (con w x)) := h2 (con w x)
    have hF := LinF.ct (LinF.sc n) (U1 ++ U2)
    have hw : w.length = n := hU w List.mem_cons_self
    have e2 := hF.congr (con u (con w x)) (fun m => - con w (con u x) m) fun m hm => con_con u w x m (by omega) (by omega)
    have e3 : sc n (ct (u :: (U1 ++ U2)) (con w x)) = - sc n (ct (u :: (w :: U1 ++ U2)) x) := e2.trans (hF.neg _)
    rw [e1, e3]
    grind
theorem brow_ex {n : Nat} {C1 C2 : List Nat} {c : Nat} {V : List (List Int)} (hC : ∀ k ∈ C1 ++ c :: C2, k < n) (hnd : (C1 ++ c :: C2).Nodup) (hV : AllL n V) :
    ∃ s : Int, s * s = 1 ∧ IsB n (C1 ++ c :: C2) V c (vec n fun k => s * det n (units n (k :: (C1 ++ C2))) V) := by
  have hcn : c < n := hC c (by simp)
  have hl : AllL n (units n C1 ++ units n C2) := fun u hu => by
    rcases List.mem_append.1 hu with h | h
    · exact units_len _ _ u h
    · exact units_len _ _ u h
  obtain ⟨s, h1, h2⟩ := ct_front (unit_len n c) (units n C1) (units n C2) hl
  have hu : units n (C1 ++ C2) = units n C1 ++ units n C2 := by simp [units]
  refine ⟨s, h1, vec_len .., ?_, ?_, fun c' hc' hne => ?_⟩
  · have h := Sp.vecF V (fun y => sc n (ct (units n (C1 ++ C2)) y)) hV ((LinF.sc n).ct _)
    refine Sp.comb s 0 h h (vec_len ..) fun k => ?_
    by_cases hk : k < n
    · rw [vec_get _ hk, vec_get _ hk]
      show s * det n (units n (k :: (C1 ++ C2))) V = s * det n (units n (k :: (C1 ++ C2))) V + 0 * _
      grind
    · rw [getD_out (by rw [vec_len]; omega), getD_out (by rw [vec_len]; omega)]; simp
  · rw [vec_get _ hcn]
    have := h2 (om V)
    have e : units n (C1 ++ c :: C2) = units n C1 ++ unit n c :: units n C2 := by simp [units]
    show s * sc n (ct (units n (c :: (C1 ++ C2))) (om V)) = sc n (ct (units n (C1 ++ c :: C2)) (om V))
    rw [e, this]
    show s * sc n (ct (unit n c :: units n (C1 ++ C2)) (om V)) = _
    rw [hu]
  · have hcn' := hC c' hc'
    rw [vec_get _ hcn']
    have hm : c' ∈ C1 ++ C2 := by
      simp only [List.mem_append, List.mem_cons] at hc' ⊢
      rcases hc' with h | h | h
      · exact .inl h
      · exact absurd h hne
      · exact .inr h
    have : det n (units n (c' :: (C1 ++ C2))) V = 0 := ct_twice (unit_len n c') (units n (C1 ++ C2)) (om V) (units_len n _) (List.mem_map.2 ⟨c', hm, rfl⟩)
    rw [this, Int.mul_zero]
theorem vec_self {n : Nat} {v : List Int} (h : v.length = n) : vec n (fun k => v.getD k 0) = v := vec_ext (vec_len ..) h fun k hk => vec_get _ hk
theorem Sp.vcomb {n : Nat} {V : List (List Int)} {f g h : Nat → Int} (a b : Int) (hf : Sp n V (vec n f)) (hg : Sp n V (vec n g)) (e : ∀ k, k < n → h k = a * f k + b * g k) : Sp n V (vec n h) :=
  Sp.comb a b hf hg (vec_len ..) fun k => by
    by_cases hk : k < n
    · rw [vec_get _ hk, vec_get _ hk, vec_get _ hk, e k hk]
    · rw [getD_out (by rw [vec_len]; omega), getD_out (by rw [vec_len]; omega), getD_out (by rw [vec_len]; omega)]; simp
theorem Sp.self {n : Nat} {V : List (List Int)} {v : List Int} (h : Sp n V v) : Sp n V (vec n fun k => v.getD k 0) := by rw [vec_self h.1]; exact h
theorem Sp.unself {n : Nat} {V : List (List Int)} {v : List Int} (hv : v.length = n) (h : Sp n V (vec n fun k => v.getD k 0)) : Sp n V v := by rwa [vec_self hv] at h
section
variable {n c : Nat} {C : List Nat} {V : List (List Int)} {p : List Int}
theorem allL_cons (hV : AllL n V) (hp : p.length = n) : AllL n (p :: V) := fun v hv => by
  rcases List.mem_cons.1 hv with rfl | h
  · exact hp
  · exact hV v h
theorem step_P (hc : c < n) (hV : AllL n V) (hp : p.length = n) : IsB n (c :: C) (p :: V) c (arow n C V p) := by
  have hP := arow_isA (C := C) hV hp
  refine ⟨hP.len, ?_, ?_, fun c' hc' hne => ?_⟩
  · refine Sp.unself hP.len (Sp.vcomb 1 (det n (units n C) V) (Sp.cons hP.sp hp) (Sp.mem (allL_cons hV hp) List.mem_cons_self).self fun k _ => by grind)
  · rw [det_cons hc]
  · rcases List.mem_cons.1 hc' with h | h
    · exact absurd h hne
    · exact hP.col c' h
theorem step_A (hC : ∀ k ∈ C, k < n) (hc : c < n) (hV : AllL n V) (hp : p.length = n) (hd' : (arow n C V p).getD c 0 ≠ 0) {x : List Int} (hx : x.length = n) (k : Nat) (hk : k < n) :
    det n (units n C) V * (arow n (c :: C) (p :: V) x).getD k 0 = (arow n C V p).getD c 0 * (arow n C V x).getD k 0 - (arow n C V x).getD c 0 * (arow n C V p).getD k 0 := by
  have hA := arow_isA (C := C) hV hx
  have hP := arow_isA (C := C) hV hp
  have hV' := allL_cons hV hp
  have hA' := arow_isA (C := c :: C) hV' hx
  have hB := step_P (C := C) hc hV hp
  have hd := det_cons (C := C) (V := V) (p := p) hc
  have hC' : ∀ k ∈ c :: C, k < n := fun k hk => by
    rcases List.mem_cons.1 hk with rfl | h
    · exact hc
    · exact hC k h
  have hs := hA'.sp
  rw [hd] at hs
  have key := same_of (a := vec n fun k => det n (units n C) V * (arow n (c :: C) (p :: V) x).getD k 0) (b := vec n fun k => (arow n C V p).getD c 0 * (arow n C V x).getD k 0 - (arow n C V x).getD c 0 * (arow n C V p).getD k 0)
    (n := n) (C := c :: C) (V := p :: V) hC' (by rw [hd]; exact hd') (vec_len ..) (vec_len ..) (by
      refine Sp.vcomb 1 1 (Sp.vcomb (h := fun k => det n (units n C) V * (arow n (c :: C) (p :: V) x).getD k 0 - (arow n C V p).getD c 0 * (arow n C V x).getD k 0) (det n (units n C) V) (-(arow n C V p).getD c 0) hs (Sp.cons hA.sp hp) fun k _ => by grind)
        (Sp.vcomb (h := fun k => (arow n C V x).getD c 0 * (arow n C V p).getD k 0) ((arow n C V x).getD c 0) 0 hB.sp.self hB.sp.self fun k _ => by grind) fun k hk => ?_
      rw [vec_get _ hk, vec_get _ hk]
      grind) (fun c' hc' => by
      have hcn := hC' c' hc'
      rw [vec_get _ hcn, vec_get _ hcn, hA'.col c' hc']
      rcases List.mem_cons.1 hc' with rfl | h
      · grind
      · rw [hA.col c' h, hP.col c' h]; grind)
  have := congrArg (fun v => v.getD k 0) key
  simpa only [vec_get _ hk] using this
theorem step_B (hC : ∀ k ∈ C, k < n) (hc : c < n) (hcC : c ∉ C) (hV : AllL n V) (hp : p.length = n) (hd' : (arow n C V p).getD c 0 ≠ 0) {c0 : Nat} (hc0 : c0 ∈ C) {b b' : List Int} (hb : IsB n C V c0 b) (hb' : IsB n (c :: C) (p :: V) c0 b') (k : Nat) (hk : k < n) :
    det n (units n C) V * b'.getD k 0 = (arow n C V p).getD c 0 * b.getD k 0 - b.getD c 0 * (arow n C V p).getD k 0 := by
  have hP := arow_isA (C := C) hV hp
  have hB := step_P (C := C) hc hV hp
  have hd := det_cons (C := C) (V := V) (p := p) hc
  have hC' : ∀ k ∈ c :: C, k < n := fun k hk => by
    rcases List.mem_cons.1 hk with rfl | h
    · exact hc
    · exact hC k h
  have hcc0 : c ≠ c0 := fun e => hcC (e ▸ hc0)
  have key := same_of (a := vec n fun k => det n (units n C) V * b'.getD k 0) (b := vec n fun k => (arow n C V p).getD c 0 * b.getD k 0 - b.getD c 0 * (arow n C V p).getD k 0)
    (n := n) (C := c :: C) (V := p :: V) hC' (by rw [hd]; exact hd') (vec_len ..) (vec_len ..) (by
      refine Sp.vcomb 1 1 (Sp.vcomb (h := fun k => det n (units n C) V * b'.getD k 0 - (arow n C V p).getD c 0 * b.getD k 0) (det n (units n C) V) (-(arow n C V p).getD c 0) hb'.sp.self (Sp.cons hb.sp hp).self fun k _ => by grind)
        (Sp.vcomb (h := fun k => b.getD c 0 * (arow n C V p).getD k 0) (b.getD c 0) 0 hB.sp.self hB.sp.self fun k _ => by grind) fun k hk => ?_
      rw [vec_get _ hk, vec_get _ hk]
      grind) (fun c' hc' => by
      have hcn := hC' c' hc'
      rw [vec_get _ hcn, vec_get _ hcn]
      rcases List.mem_cons.1 hc' with rfl | h
      · rw [hb'.col c' List.mem_cons_self hcc0]; grind
      · by_cases e : c' = c0
        · subst e
          rw [hb'.piv, hb.piv, hP.col c' h, hd]; grind
        · rw [hb'.col c' hc' e, hb.col c' h e, hP.col c' h]; grind)
  have := congrArg (fun v => v.getD k 0) key
  simpa only [vec_get _ hk] using this
end
theorem prod2_units {n : Nat} : ∀ (C : List Nat), (∀ c ∈ C, c < n) → prod2 (units n C) = 1
  | [], _ => rfl
  | c :: C, h => by
    show dot (unit n c) (unit n c) * prod2 (units n C) = 1
    rw [dot_unit_self (h c List.mem_cons_self), prod2_units C fun k hk => h k (List.mem_cons_of_mem _ hk)]
    rfl
theorem det_sq {n : Nat} {C : List Nat} {V : List (List Int)} (hC : ∀ c ∈ C, c < n) (hV : AllL n V) : det n (units n C) V * det n (units n C) V ≤ prod2 V := by
  have := hadamard n (units n C) V (units_len n C) hV
  rw [prod2_units C hC, Int.one_mul] at this
  exact this
end Go.Mx
end
section
set_option linter.unusedVariables false
set_option linter.unusedSimpArgs false
set_option linter.unnecessarySimpa false
namespace Go.Mx
abbrev Mat := List (List Int)
def at2 (a : Mat) (i k : Nat) : Int := (a.getD i []).getD k 0
def pivAt (a : Mat) (r c : Nat) : Option Nat := (List.range' r (a.length - r)).find? fun p => at2 a p c != 0
def swapR (a : Mat) (r p : Nat) : Mat := (a.set r (a.getD p [])).set p (a.getD r [])
def elim (n : Nat) (d f last : Int) (row piv : List Int) : List Int := vec n fun k => Int.tdiv (d * row.getD k 0 - f * piv.getD k 0) last
structure BS where
  a : Mat
  piv : List Nat
  last : Int
def bstep (n c : Nat) (s : BS) : BS :=
  if s.piv.length < s.a.length then
    match pivAt s.a s.piv.length c with
    | none => s
    | some p =>
      let a := swapR s.a s.piv.length p
      let d := at2 a s.piv.length c
      ⟨a.mapIdx fun i row => if i = s.piv.length then row else elim n d (row.getD c 0) s.last row (a.getD s.piv.length []), s.piv ++ [c], d⟩
  else s
def bred (n : Nat) (M : Mat) : Nat → BS
  | 0 => ⟨M, [], 1⟩
  | c + 1 => bstep n c (bred n M c)
theorem pivAt_some {a : Mat} {r c p : Nat} (h : pivAt a r c = some p) : r ≤ p ∧ p < a.length ∧ at2 a p c ≠ 0 ∧ ∀ j, r ≤ j → j < p → at2 a j c = 0 := by
  unfold pivAt at h
  obtain ⟨h1, l1, l2, h2, h3⟩ := List.find?_eq_some_iff_append.1 h
  have hm : p ∈ List.range' r (a.length - r) := by rw [h2]; simp
  have hm' := List.mem_range'_1.1 hm
  refine ⟨hm'.1, by omega, by simpa using h1, fun j hj hjp => ?_⟩
  have hlen : l1.length = p - r := by
    have : (List.range' r (a.length - r))[l1.length]? = some p := by rw [h2]; simp
    have hl := congrArg List.length h2
    simp at hl
    rw [List.getElem?_range' (by omega)] at this
    injection this with this; omega
  have hj1 : l1[j - r]? = some j := by
    have : (List.range' r (a.length - r))[j - r]? = some j := by
      rw [List.getElem?_range' (by omega)]; congr 1; omega
    rw [h2, List.getElem?_append_left (by omega)] at this
    exact this
  have := h3 j (List.mem_of_getElem? hj1)
  simpa using this
theorem pivAt_none {a : Mat} {r c : Nat} (h : pivAt a r c = none) : ∀ j, r ≤ j → j < a.length → at2 a j c = 0 := fun j h1 h2 => by
  unfold pivAt at h
  have := List.find?_eq_none.1 h j (List.mem_range'_1.2 ⟨h1, by omega⟩)
  simpa using this
theorem getD_set {α : Type} {l : List α} {i j : Nat} {x d : α} (hi : i < l.length) : (l.set i x).getD j d = if i = j then x else l.getD j d := by
  simp only [List.getD_eq_getElem?_getD, List.getElem?_set]
  by_cases h : i = j
  · subst h; simp [hi]
  · simp [h]
theorem swapR_len (a : Mat) (r p : Nat) : (swapR a r p).length = a.length := by simp [swapR]
theorem swapR_get {a : Mat} {r p : Nat} (hr : r < a.length) (hp : p < a.length) (j : Nat) : (swapR a r p).getD j [] = if j = p then a.getD r [] else if j = r then a.getD p [] else a.getD j [] := by
  unfold swapR
  rw [getD_set (by simpa using hp), getD_set hr]
  by_cases h1 : p = j
  · subst h1; simp
  · rw [if_neg h1, if_neg (Ne.symm h1)]
    by_cases h2 : r = j
    · subst h2; simp
    · rw [if_neg h2, if_neg (Ne.symm h2)]
structure Reord (M M' : Mat) : Prop where
  ex : ∃ f : Nat → Nat, (∀ i, i < M.length → f i < M.length) ∧ (∀ i j, i < M.length → j < M.length → f i = f j → i = j) ∧ ∀ i, i < M.length → M'.getD i [] = M.getD (f i) []
  len : M'.length = M.length
theorem Reord.refl (M : Mat) : Reord M M := ⟨⟨id, fun i h => h, fun i j _ _ h => h, fun i _ => rfl⟩, rfl⟩
theorem Reord.swap {M M' : Mat} (h : Reord M M') {r p : Nat} (hr : r < M.length) (hp : p < M.length) : Reord M (swapR M' r p) := by
  obtain ⟨⟨f, h1, h2, h3⟩, hl⟩ := h
  refine ⟨⟨fun i => f (if i = p then r else if i = r then p else i), fun i hi => h1 _ (by split; exact hr; split; exact hp; exact hi), fun i j hi hj he => ?_, fun i hi => ?_⟩, by rw [swapR_len, hl]⟩
  · have := h2 _ _ (by split; exact hr; split; exact hp; exact hi) (by split; exact hr; split; exact hp; exact hj) he
    split at this <;> split at this <;> (try split at this) <;> (try split at this) <;> omega
  · rw [swapR_get (by omega) (by omega)]
    show _ = M.getD (f (if i = p then r else if i = r then p else i)) []
    by_cases e1 : i = p
    · rw [if_pos e1, if_pos e1]; exact h3 r hr
    · rw [if_neg e1, if_neg e1]
      by_cases e2 : i = r
      · rw [if_pos e2, if_pos e2]; exact h3 p hp
      · rw [if_neg e2, if_neg e2]; exact h3 i hi
def rowsB (M : Mat) : Nat → Mat
  | 0 => []
  | r + 1 => M.getD r [] :: rowsB M r
theorem rowsB_len (M : Mat) : ∀ r, (rowsB M r).length = r
  | 0 => rfl
  | r + 1 => by simp [rowsB, rowsB_len M r]
theorem rowsB_congr {M M' : Mat} : ∀ r, (∀ i, i < r → M.getD i [] = M'.getD i []) → rowsB M r = rowsB M' r
  | 0, _ => rfl
  | r + 1, h => by
    unfold rowsB
    rw [h r (by omega), rowsB_congr r fun i hi => h i (by omega)]
theorem rowsB_mem {M : Mat} {v : List Int} : ∀ {r : Nat}, v ∈ rowsB M r → ∃ i, i < r ∧ v = M.getD i []
  | 0, h => by cases h
  | r + 1, h => by
    rcases List.mem_cons.1 h with h | h
    · exact ⟨r, by omega, h⟩
    · obtain ⟨i, h1, h2⟩ := rowsB_mem h
      exact ⟨i, by omega, h2⟩
def RowsN (n : Nat) (M : Mat) : Prop := ∀ i, i < M.length → (M.getD i []).length = n
theorem Reord.rows {M M' : Mat} {n : Nat} (h : Reord M M') (hn : RowsN n M) : RowsN n M' := fun i hi => by
  obtain ⟨⟨f, h1, h2, h3⟩, hl⟩ := h
  rw [h3 i (by omega)]
  exact hn _ (h1 i (by omega))
theorem rowsB_all {M : Mat} {n r : Nat} (hn : RowsN n M) (hr : r ≤ M.length) : AllL n (rowsB M r) := fun v hv => by
  obtain ⟨i, h1, rfl⟩ := rowsB_mem hv
  exact hn i (by omega)
structure BInv (n : Nat) (M : Mat) (c : Nat) (s : BS) (M' : Mat) : Prop where
  re : Reord M M'
  len : s.a.length = M.length
  rl : s.piv.length ≤ M.length
  pc : ∀ k ∈ s.piv, k < c
  nd : s.piv.Nodup
  last : det n (units n s.piv.reverse) (rowsB M' s.piv.length) = s.last
  nz : s.last ≠ 0
  lo : ∀ i, s.piv.length ≤ i → i < M.length → s.a.getD i [] = arow n s.piv.reverse (rowsB M' s.piv.length) (M'.getD i [])
  hi : ∀ i (h : i < s.piv.length), IsB n s.piv.reverse (rowsB M' s.piv.length) s.piv[i] (s.a.getD i [])
  zero : ∀ i, s.piv.length ≤ i → i < M.length → ∀ k, k < c → at2 s.a i k = 0
theorem arow_nil {n : Nat} {x : List Int} (hx : x.length = n) : arow n [] [] x = x := vec_ext (vec_len ..) hx fun k hk => by
  rw [arow, vec_get _ hk, ent_eq hx (unit_len ..), dot_unit hx hk]
  have h1 : det n (units n []) [] = 1 := by
    show one (List.replicate n false) = 1
    simp [one]
  have h2 : sc n (ct (units n []) (wed x (con (unit n k) (om [])))) = 0 := sc_wed n x _
  rw [h1, h2]
  omega
theorem BInv.init {n : Nat} {M : Mat} (hn : RowsN n M) : BInv n M 0 (bred n M 0) M := by
  refine ⟨.refl M, rfl, Nat.zero_le _, fun k hk => (by cases hk), List.nodup_nil, ?_, (by show (1 : Int) ≠ 0; decide), fun i _ hi => ?_, fun i h => (by cases h), fun i _ _ k hk => (by omega)⟩
  · show one (List.replicate n false) = 1
    simp [one]
  · exact (arow_nil (hn i hi)).symm
theorem tdiv_of {a b c : Int} (ha : a ≠ 0) (h : a * b = c) : Int.tdiv c a = b := by
  rw [← h]
  exact Int.mul_tdiv_cancel_left b ha
theorem mapIdx_getD {f : Nat → List Int → List Int} {a : Mat} {i : Nat} (h : i < a.length) : (a.mapIdx f).getD i [] = f i (a.getD i []) := by
  simp [List.getD_eq_getElem?_getD, List.getElem?_mapIdx, List.getElem?_eq_getElem h]
theorem elim_eq {n : Nat} {d f last : Int} {row piv b : List Int} (hl : last ≠ 0) (hb : b.length = n) (h : ∀ k, k < n → last * b.getD k 0 = d * row.getD k 0 - f * piv.getD k 0) : elim n d f last row piv = b :=
  vec_ext (vec_len ..) hb fun k hk => by
    rw [elim, vec_get _ hk]
    exact tdiv_of hl (h k hk)
def Exact (n c : Nat) (s : BS) : Prop := ∀ p, pivAt s.a s.piv.length c = some p → s.piv.length < s.a.length → ∀ i, i < s.a.length → i ≠ s.piv.length → ∀ k, k < n →
  s.last * (elim n (at2 (swapR s.a s.piv.length p) s.piv.length c) (((swapR s.a s.piv.length p).getD i []).getD c 0) s.last ((swapR s.a s.piv.length p).getD i []) ((swapR s.a s.piv.length p).getD s.piv.length [])).getD k 0 =
    at2 (swapR s.a s.piv.length p) s.piv.length c * ((swapR s.a s.piv.length p).getD i []).getD k 0 - ((swapR s.a s.piv.length p).getD i []).getD c 0 * ((swapR s.a s.piv.length p).getD s.piv.length []).getD k 0
theorem elim_exact {n : Nat} {d f last : Int} {row piv b : List Int} (hl : last ≠ 0) (hb : b.length = n) (h : ∀ k, k < n → last * b.getD k 0 = d * row.getD k 0 - f * piv.getD k 0) (k : Nat) (hk : k < n) : last * (elim n d f last row piv).getD k 0 = d * row.getD k 0 - f * piv.getD k 0 := by
  rw [elim_eq hl hb h]
  exact h k hk
theorem BInv.step {n : Nat} {M : Mat} {c : Nat} {s : BS} {M' : Mat} (hn : RowsN n M) (hc : c < n) (h : BInv n M c s M') : (∃ M'', BInv n M (c + 1) (bstep n c s) M'') ∧ Exact n c s := by
  unfold bstep
  split
  · rename_i hlt
    rw [h.len] at hlt
    split
    · rename_i hp
      refine ⟨⟨M', h.re, h.len, h.rl, fun k hk => by have := h.pc k hk; omega, h.nd, h.last, h.nz, h.lo, h.hi, fun i h1 h2 k hk => ?_⟩, fun p hp' => by rw [hp] at hp'; cases hp'⟩
      by_cases e : k = c
      · subst e; exact pivAt_none hp i h1 (by rw [h.len]; exact h2)
      · exact h.zero i h1 h2 k (by omega)
    · rename_i p hp
      obtain ⟨p1, p2, p3, p4⟩ := pivAt_some hp
      rw [h.len] at p2
      -- names
      have hre := h.re.swap hlt p2
      have hn' := h.re.rows hn
      have hn'' := hre.rows hn
      have hml : M'.length = M.length := h.re.len
      generalize hV : rowsB M' s.piv.length = V at *
      have hV2 : rowsB (swapR M' s.piv.length p) s.piv.length = V := by
        rw [← hV]
        exact rowsB_congr _ fun i hi => by rw [swapR_get (by omega) (by omega), if_neg (by omega), if_neg (by omega)]
      have hVL : AllL n V := by rw [← hV]; exact rowsB_all hn' (by omega)
      have hC : ∀ k ∈ s.piv.reverse, k < n := fun k hk => by have := h.pc k (by simpa using hk); omega
      have hcC : c ∉ s.piv.reverse := fun hk => by have := h.pc c (by simpa using hk); omega
      have hd := h.last
      have hnz := h.nz
      have hlo := h.lo
      have hhi := h.hi
      rw [hV] at hd
      simp only [hV] at hlo hhi
      -- the pivot's row
      generalize hP : M'.getD p [] = P
      have hPl : P.length = n := by rw [← hP]; exact hn' p (by omega)
      have hap : s.a.getD p [] = arow n s.piv.reverse V P := by rw [← hP]; exact hlo p p1 p2
      have hsw : ∀ i, i < M.length → (swapR s.a s.piv.length p).getD i [] = if i = p then s.a.getD s.piv.length [] else if i = s.piv.length then s.a.getD p [] else s.a.getD i [] := fun i hi => swapR_get (by rw [h.len]; exact hlt) (by rw [h.len]; exact p2) i
      have hswM : ∀ i, (swapR M' s.piv.length p).getD i [] = if i = p then M'.getD s.piv.length [] else if i = s.piv.length then M'.getD p [] else M'.getD i [] := fun i => swapR_get (by omega) (by omega) i
      have hlow : ∀ i, s.piv.length ≤ i → i < M.length → (swapR s.a s.piv.length p).getD i [] = arow n s.piv.reverse V ((swapR M' s.piv.length p).getD i []) := fun i h1 h2 => by
        rw [hsw i h2, hswM i]
        split
        · exact hlo s.piv.length (Nat.le_refl _) hlt
        · split
          · exact hlo p p1 p2
          · exact hlo i h1 h2
      have har : (swapR s.a s.piv.length p).getD s.piv.length [] = arow n s.piv.reverse V P := by
        rw [hlow s.piv.length (Nat.le_refl _) hlt, hswM s.piv.length, ← hP]
        by_cases e : s.piv.length = p
        · rw [if_pos e, e]
        · rw [if_neg e, if_pos rfl]
      have hMr : (swapR M' s.piv.length p).getD s.piv.length [] = P := by
        rw [hswM s.piv.length, ← hP]
        by_cases e : s.piv.length = p
        · rw [if_pos e, e]
        · rw [if_neg e, if_pos rfl]
      have hdv : at2 (swapR s.a s.piv.length p) s.piv.length c = (arow n s.piv.reverse V P).getD c 0 := by unfold at2; rw [har]
      have hdn : (arow n s.piv.reverse V P).getD c 0 ≠ 0 := by
        have : at2 s.a p c ≠ 0 := p3
        unfold at2 at this
        rwa [hap] at this
      have hVn : rowsB (swapR M' s.piv.length p) (s.piv ++ [c]).length = P :: V := by
        rw [List.length_append, List.length_singleton]
        show (swapR M' s.piv.length p).getD s.piv.length [] :: rowsB (swapR M' s.piv.length p) s.piv.length = _
        rw [hMr, hV2]
      have hCn : (s.piv ++ [c]).reverse = c :: s.piv.reverse := by simp
      have hlen' : (s.piv ++ [c]).length = s.piv.length + 1 := by simp
      have hget : ∀ i, i < M.length → ((swapR s.a s.piv.length p).mapIdx fun i row => if i = s.piv.length then row else elim n (at2 (swapR s.a s.piv.length p) s.piv.length c) (row.getD c 0) s.last row ((swapR s.a s.piv.length p).getD s.piv.length [])).getD i [] =
          if i = s.piv.length then (swapR s.a s.piv.length p).getD i [] else elim n (at2 (swapR s.a s.piv.length p) s.piv.length c) (((swapR s.a s.piv.length p).getD i []).getD c 0) s.last ((swapR s.a s.piv.length p).getD i []) ((swapR s.a s.piv.length p).getD s.piv.length []) := fun i hi => mapIdx_getD (by rw [swapR_len, h.len]; exact hi)
      have hdet' : det n (units n (c :: s.piv.reverse)) (P :: V) = at2 (swapR s.a s.piv.length p) s.piv.length c := by rw [det_cons hc, hdv]
      have hlonew : ∀ i, s.piv.length + 1 ≤ i → i < M.length → elim n (at2 (swapR s.a s.piv.length p) s.piv.length c) (((swapR s.a s.piv.length p).getD i []).getD c 0) s.last ((swapR s.a s.piv.length p).getD i []) ((swapR s.a s.piv.length p).getD s.piv.length []) = arow n (c :: s.piv.reverse) (P :: V) ((swapR M' s.piv.length p).getD i []) := fun i h1 h2 => by
        refine elim_eq hnz (vec_len ..) fun k hk => ?_
        rw [hlow i (by omega) h2, har, hdv, ← hd]
        exact step_A hC hc hVL hPl hdn (hn'' i (by rw [swapR_len]; omega)) k hk
      have hbrow : ∀ i (hir : i < s.piv.length), ∃ b, IsB n (c :: s.piv.reverse) (P :: V) s.piv[i] b ∧ ∀ k, k < n → s.last * b.getD k 0 = at2 (swapR s.a s.piv.length p) s.piv.length c * (s.a.getD i []).getD k 0 - (s.a.getD i []).getD c 0 * ((swapR s.a s.piv.length p).getD s.piv.length []).getD k 0 := fun i hir => by
        have hb := hhi i hir
        -- the row of the pivot in the next stage
        obtain ⟨C1, C2, hsp⟩ : ∃ C1 C2, c :: s.piv.reverse = C1 ++ s.piv[i] :: C2 := by
          have : s.piv[i] ∈ c :: s.piv.reverse := List.mem_cons_of_mem _ (by simp)
          exact List.append_of_mem this
        have hC' : ∀ k ∈ c :: s.piv.reverse, k < n := fun k hk => by
          rcases List.mem_cons.1 hk with rfl | hk
          · exact hc
          · exact hC k hk
        have hnd' : (c :: s.piv.reverse).Nodup := List.nodup_cons.2 ⟨hcC, List.pairwise_reverse.2 (h.nd.imp fun h => h.symm)⟩
        obtain ⟨sg, _, hbr⟩ := brow_ex (V := P :: V) (n := n) (C1 := C1) (C2 := C2) (c := s.piv[i]) (by rw [← hsp]; exact hC') (by rw [← hsp]; exact hnd') (allL_cons hVL hPl)
        rw [← hsp] at hbr
        refine ⟨_, hbr, fun k hk => ?_⟩
        rw [har, hdv, ← hd]
        exact step_B hC hc hcC hVL hPl hdn (by simp) hb hbr k hk
      have hai : ∀ i, i < s.piv.length → (swapR s.a s.piv.length p).getD i [] = s.a.getD i [] := fun i hir => by rw [hsw i (by omega), if_neg (by omega), if_neg (by omega)]
      refine ⟨?_, fun p' hp' _ i hi hne k hk => ?_⟩
      rotate_left
      · have : p' = p := by rw [hp] at hp'; injection hp' with hp'; exact hp'.symm
        subst this
        rw [h.len] at hi
        by_cases hir : i < s.piv.length
        · obtain ⟨b, hb1, hb2⟩ := hbrow i hir
          rw [hai i hir]
          exact elim_exact hnz hb1.len hb2 k hk
        · refine elim_exact hnz (vec_len n fun k => ent n (units n (c :: s.piv.reverse)) (P :: V) ((swapR M' s.piv.length p').getD i []) (unit n k)) (fun k hk => ?_) k hk
          rw [hlow i (by omega) hi, har, hdv, ← hd]
          exact step_A hC hc hVL hPl hdn (hn'' i (by rw [swapR_len]; omega)) k hk
      refine ⟨swapR M' s.piv.length p, hre, by rw [List.length_mapIdx, swapR_len, h.len], by rw [hlen']; omega, fun k hk => ?_, ?_, ?_, ?_, fun i h1 h2 => ?_, fun i hi => ?_, fun i h1 h2 k hk => ?_⟩
      · rcases List.mem_append.1 hk with hk | hk
        · have := h.pc k hk; omega
        · have : k = c := by simpa using hk
          omega
      · refine List.nodup_append.2 ⟨h.nd, by simp, fun a ha b hb => ?_⟩
        have : b = c := by simpa using hb
        subst this
        have := h.pc a ha
        omega
      · show det n (units n (s.piv ++ [c]).reverse) (rowsB (swapR M' s.piv.length p) (s.piv ++ [c]).length) = _
        rw [hVn, hCn, hdet']
      · show at2 (swapR s.a s.piv.length p) s.piv.length c ≠ 0
        rw [hdv]; exact hdn
      · rw [hlen'] at h1
        show ((swapR s.a s.piv.length p).mapIdx _).getD i [] = arow n (s.piv ++ [c]).reverse (rowsB (swapR M' s.piv.length p) (s.piv ++ [c]).length) _
        rw [hVn, hCn, hget i h2, if_neg (by omega)]
        exact hlonew i h1 h2
      · show IsB n (s.piv ++ [c]).reverse (rowsB (swapR M' s.piv.length p) (s.piv ++ [c]).length) (s.piv ++ [c])[i] (((swapR s.a s.piv.length p).mapIdx _).getD i [])
        rw [hVn, hCn]
        have hi' : i < s.piv.length + 1 := by rw [← hlen']; exact hi
        rw [hget i (by omega)]
        by_cases e : i = s.piv.length
        · subst e
          have : (s.piv ++ [c])[s.piv.length] = c := by simp
          rw [this, if_pos rfl, har]
          exact step_P hc hVL hPl
        · have hir : i < s.piv.length := by omega
          have hip : i < s.piv.length := by omega
          have e1 : (s.piv ++ [c])[i] = s.piv[i] := List.getElem_append_left hip
          rw [e1, if_neg e]
          obtain ⟨b, hb1, hb2⟩ := hbrow i hir
          rw [hai i hir, elim_eq hnz hb1.len hb2]
          exact hb1
      · rw [hlen'] at h1
        show (((swapR s.a s.piv.length p).mapIdx _).getD i []).getD k 0 = 0
        rw [hget i h2, if_neg (by omega)]
        by_cases e : k = c
        · subst e
          rw [hlonew i h1 h2]
          exact (arow_isA (C := k :: s.piv.reverse) (allL_cons hVL hPl) (hn'' i (by rw [swapR_len]; omega))).col k List.mem_cons_self
        · have hz : ∀ j, s.piv.length ≤ j → j < M.length → ((swapR s.a s.piv.length p).getD j []).getD k 0 = 0 := fun j j1 j2 => by
            rw [hsw j j2]
            split
            · exact h.zero s.piv.length (by omega) hlt k (by omega)
            · split
              · exact h.zero p (by omega) p2 k (by omega)
              · exact h.zero j (by omega) j2 k (by omega)
          rw [elim, vec_get _ (by omega), hz i (by omega) h2, hz s.piv.length (Nat.le_refl _) hlt]
          simp
  · rename_i hlt
    rw [h.len] at hlt
    refine ⟨⟨M', h.re, h.len, h.rl, fun k hk => by have := h.pc k hk; omega, h.nd, h.last, h.nz, h.lo, h.hi, fun i h1 h2 k hk => by omega⟩, fun p _ hl => absurd (by rw [h.len] at hl; exact hl) hlt⟩
theorem bred_inv {n : Nat} {M : Mat} (hn : RowsN n M) : ∀ c, c ≤ n → ∃ M', BInv n M c (bred n M c) M'
  | 0, _ => ⟨M, BInv.init hn⟩
  | c + 1, hc => by
    obtain ⟨M', h⟩ := bred_inv hn c (by omega)
    exact (h.step hn (by omega)).1
theorem bred_exact {n : Nat} {M : Mat} (hn : RowsN n M) {c : Nat} (hc : c < n) : Exact n c (bred n M c) := by
  obtain ⟨M', h⟩ := bred_inv hn c (by omega)
  exact (h.step hn hc).2
end Go.Mx
end
section
set_option linter.unusedVariables false
set_option linter.unusedSimpArgs false
set_option linter.unnecessarySimpa false
namespace Go.Mx
def gl (v : List Int) : Int := v.foldl (fun g x => (Int.gcd g x : Int)) 0
def fnz (v : List Int) : Int := v.foldl (fun f x => if f = 0 then x else f) 0
def sg (v : List Int) : Int := if fnz v < 0 then - gl v else gl v
def prim (v : List Int) : List Int := if gl v = 0 then v else v.map fun x => Int.tdiv x (sg v)
theorem gl_from_nonneg : ∀ (v : List Int) (g : Int), 0 ≤ g → 0 ≤ v.foldl (fun g x => (Int.gcd g x : Int)) g
  | [], g, h => h
  | x :: v, g, _ => gl_from_nonneg v _ (Int.natCast_nonneg _)
theorem gl_nonneg (v : List Int) : 0 ≤ gl v := gl_from_nonneg v 0 (Int.le_refl _)
theorem gl_from_dvd : ∀ (v : List Int) (g : Int), v.foldl (fun g x => (Int.gcd g x : Int)) g ∣ g ∧ ∀ x ∈ v, v.foldl (fun g x => (Int.gcd g x : Int)) g ∣ x
  | [], g => ⟨Int.dvd_refl _, fun x hx => by cases hx⟩
  | a :: v, g => by
    obtain ⟨h1, h2⟩ := gl_from_dvd v (Int.gcd g a : Int)
    refine ⟨Int.dvd_trans h1 (Int.gcd_dvd_left ..), fun x hx => ?_⟩
    rcases List.mem_cons.1 hx with rfl | hx
    · exact Int.dvd_trans h1 (Int.gcd_dvd_right ..)
    · exact h2 x hx
theorem gl_dvd {v : List Int} {x : Int} (hx : x ∈ v) : gl v ∣ x := (gl_from_dvd v 0).2 x hx
theorem gl_from_mul (c : Int) : ∀ (v : List Int) (g : Int), 0 ≤ g → (v.map (c * ·)).foldl (fun g x => (Int.gcd g x : Int)) (c.natAbs * g) = c.natAbs * v.foldl (fun g x => (Int.gcd g x : Int)) g
  | [], g, _ => rfl
  | a :: v, g, hg => by
    show (v.map (c * ·)).foldl (fun g x => (Int.gcd g x : Int)) (Int.gcd ((c.natAbs : Int) * g) (c * a) : Int) = _
    have : (Int.gcd ((c.natAbs : Int) * g) (c * a) : Int) = (c.natAbs : Int) * (Int.gcd g a : Int) := by
      have e : Int.gcd ((c.natAbs : Int) * g) (c * a) = c.natAbs * Int.gcd g a := by
        rw [show Int.gcd ((c.natAbs : Int) * g) (c * a) = Nat.gcd (((c.natAbs : Int) * g).natAbs) ((c * a).natAbs) from rfl, Int.natAbs_mul, Int.natAbs_mul, Int.natAbs_natCast, Nat.gcd_mul_left]
        rfl
      rw [e, Int.natCast_mul]
    rw [this]
    exact gl_from_mul c v _ (Int.natCast_nonneg _)
theorem gl_mul (c : Int) (v : List Int) : gl (v.map (c * ·)) = c.natAbs * gl v := by
  have := gl_from_mul c v 0 (Int.le_refl _)
  rwa [Int.mul_zero] at this
theorem gl_zero {v : List Int} : gl v = 0 ↔ ∀ x ∈ v, x = 0 := by
  refine ⟨fun h x hx => ?_, fun h => ?_⟩
  · have := gl_dvd hx
    rw [h] at this
    exact Int.zero_dvd.1 this
  · have key : ∀ (v : List Int), (∀ x ∈ v, x = 0) → v.foldl (fun g x => (Int.gcd g x : Int)) 0 = 0 := fun v => by
      induction v with
      | nil => intro _; rfl
      | cons a v ih =>
        intro h
        have ha := h a List.mem_cons_self
        subst ha
        exact ih fun x hx => h x (List.mem_cons_of_mem _ hx)
    exact key v h
theorem fnz_from : ∀ (v : List Int) (f : Int), f ≠ 0 → v.foldl (fun f x => if f = 0 then x else f) f = f
  | [], f, _ => rfl
  | a :: v, f, h => by
    show v.foldl (fun f x => if f = 0 then x else f) (if f = 0 then a else f) = f
    rw [if_neg h]
    exact fnz_from v f h
theorem fnz_cons (a : Int) (v : List Int) : fnz (a :: v) = if a = 0 then fnz v else a := by
  show v.foldl (fun f x => if f = 0 then x else f) (if (0 : Int) = 0 then a else 0) = _
  rw [if_pos rfl]
  by_cases h : a = 0
  · rw [if_pos h, h]; rfl
  · rw [if_neg h]; exact fnz_from v a h
theorem fnz_mul {c : Int} (hc : c ≠ 0) (v : List Int) : fnz (v.map (c * ·)) = c * fnz v := by
  induction v with
  | nil => show (0 : Int) = c * 0; omega
  | cons a v ih =>
    rw [List.map_cons, fnz_cons, fnz_cons, ih]
    by_cases h : a = 0
    · rw [if_pos (by rw [h]; omega), if_pos h]
    · rw [if_neg (fun e => by rcases Int.mul_eq_zero.1 e with e | e; exact hc e; exact h e), if_neg h]
theorem fnz_zero {v : List Int} : fnz v = 0 ↔ ∀ x ∈ v, x = 0 := by
  induction v with
  | nil => exact ⟨fun _ x hx => (by cases hx), fun _ => rfl⟩
  | cons a v ih =>
    rw [fnz_cons]
    by_cases h : a = 0
    · rw [if_pos h, ih]
      exact ⟨fun hv x hx => by rcases List.mem_cons.1 hx with e | e; rw [e, h]; exact hv x e, fun hv x hx => hv x (List.mem_cons_of_mem _ hx)⟩
    · rw [if_neg h]
      exact ⟨fun e => absurd e h, fun hv => absurd (hv a List.mem_cons_self) h⟩
theorem sg_zero {v : List Int} : sg v = 0 ↔ gl v = 0 := by unfold sg; split <;> omega
theorem sg_dvd {v : List Int} {x : Int} (hx : x ∈ v) : sg v ∣ x := by
  unfold sg
  split
  · exact Int.neg_dvd.2 (gl_dvd hx)
  · exact gl_dvd hx
theorem sg_mul {c : Int} (hc : c ≠ 0) (v : List Int) : sg (v.map (c * ·)) = c * sg v := by
  unfold sg
  rw [fnz_mul hc, gl_mul]
  have h1 := gl_nonneg v
  by_cases hz : fnz v = 0
  · have : gl v = 0 := gl_zero.2 (fnz_zero.1 hz)
    rw [this, hz]; simp
  · rcases Int.lt_or_gt_of_ne hc with h | h
    · have hn : (c.natAbs : Int) = -c := by omega
      rw [hn]
      rcases Int.lt_or_gt_of_ne hz with g | g
      · have := Int.mul_pos_of_neg_of_neg h g
        rw [if_neg (by omega), if_pos g]; grind
      · have := Int.mul_neg_of_neg_of_pos h g
        rw [if_pos (by omega), if_neg (by omega)]; grind
    · have hn : (c.natAbs : Int) = c := by omega
      rw [hn]
      rcases Int.lt_or_gt_of_ne hz with g | g
      · have := Int.mul_neg_of_pos_of_neg h g
        rw [if_pos (by omega), if_pos g]; grind
      · have := Int.mul_pos h g
        rw [if_neg (by omega), if_neg (by omega)]
theorem prim_len (v : List Int) : (prim v).length = v.length := by unfold prim; split <;> simp
theorem prim_eq (v : List Int) : v = (prim v).map ((if gl v = 0 then 1 else sg v) * ·) := by
  unfold prim
  split
  · simp
  · rename_i h
    rw [List.map_map]
    conv => lhs; rw [← List.map_id v]
    exact List.map_congr_left fun x hx => (Int.mul_tdiv_cancel' (sg_dvd hx)).symm
theorem prim_mul {c : Int} (hc : c ≠ 0) {v : List Int} (hv : gl v ≠ 0) : prim (v.map (c * ·)) = prim v := by
  unfold prim
  have h1 : gl (v.map (c * ·)) ≠ 0 := by
    rw [gl_mul]
    intro e
    rcases Int.mul_eq_zero.1 e with e | e
    · omega
    · exact hv e
  rw [if_neg h1, if_neg hv, List.map_map, sg_mul hc]
  refine List.map_congr_left fun x hx => ?_
  show Int.tdiv (c * x) (c * sg v) = _
  obtain ⟨q, hq⟩ := sg_dvd hx
  have hs : sg v ≠ 0 := fun e => hv (sg_zero.1 e)
  rw [hq, Int.mul_tdiv_cancel_left q hs, ← Int.mul_assoc, Int.mul_tdiv_cancel_left q fun e => by
    rcases Int.mul_eq_zero.1 e with e | e
    · exact hc e
    · exact hs e]
def Par (u v : List Int) : Prop := u.length = v.length ∧ ∃ a b : Int, a ≠ 0 ∧ b ≠ 0 ∧ ∀ k : Nat, a * u.getD k 0 = b * v.getD k 0
theorem map_ext {u v : List Int} {a b : Int} (hl : u.length = v.length) (h : ∀ k : Nat, a * u.getD k 0 = b * v.getD k 0) : u.map (a * ·) = v.map (b * ·) := by
  refine List.ext_getElem (by simpa using hl) fun k h1 h2 => ?_
  have h1 : k < u.length := by simpa using h1
  have h2 : k < v.length := by simpa using h2
  have := h k
  simp only [List.getD_eq_getElem?_getD, List.getElem?_eq_getElem h1, List.getElem?_eq_getElem h2, Option.getD_some] at this
  simpa using this
theorem Par.prim {u v : List Int} (h : Par u v) : prim u = prim v := by
  obtain ⟨hl, a, b, ha, hb, h⟩ := h
  have hm := map_ext hl h
  by_cases hu : gl u = 0
  · have hv : gl v = 0 := by
      have := congrArg gl hm
      rw [gl_mul, gl_mul, hu] at this
      have : (b.natAbs : Int) * gl v = 0 := by omega
      rcases Int.mul_eq_zero.1 this with e | e
      · omega
      · exact e
    have e1 : Mx.prim u = u := if_pos hu
    have e2 : Mx.prim v = v := if_pos hv
    rw [e1, e2]
    have z1 := gl_zero.1 hu
    have z2 := gl_zero.1 hv
    refine List.ext_getElem hl fun k h1 h2 => ?_
    rw [z1 _ (List.getElem_mem h1), z2 _ (List.getElem_mem h2)]
  · have hv : gl v ≠ 0 := fun hv => hu (by
      have := congrArg gl hm
      rw [gl_mul, gl_mul, hv] at this
      have : (a.natAbs : Int) * gl u = 0 := by omega
      rcases Int.mul_eq_zero.1 this with e | e
      · omega
      · exact e)
    rw [← prim_mul ha hu, hm, prim_mul hb hv]
theorem Par.refl (u : List Int) : Par u u := ⟨rfl, 1, 1, by decide, by decide, fun _ => rfl⟩
theorem getD_map_mul (c : Int) (v : List Int) (k : Nat) : (v.map (c * ·)).getD k 0 = c * v.getD k 0 := by
  simp only [List.getD_eq_getElem?_getD, List.getElem?_map]
  cases v[k]? <;> simp
theorem prim_fac (v : List Int) : ∃ t : Int, t ≠ 0 ∧ ∀ k : Nat, v.getD k 0 = t * (prim v).getD k 0 := by
  refine ⟨if gl v = 0 then 1 else sg v, ?_, fun k => ?_⟩
  · split
    · decide
    · rename_i h
      exact fun e => h (sg_zero.1 e)
  · conv => lhs; rw [prim_eq v]
    exact getD_map_mul ..
theorem prim_zero_iff (v : List Int) (k : Nat) : (prim v).getD k 0 = 0 ↔ v.getD k 0 = 0 := by
  obtain ⟨t, ht, h⟩ := prim_fac v
  rw [h k]
  refine ⟨fun e => by rw [e, Int.mul_zero], fun e => ?_⟩
  rcases Int.mul_eq_zero.1 e with e | e
  · exact absurd e ht
  · exact e
theorem prim_le (v : List Int) {B : Int} (hB : ∀ k : Nat, (v.getD k 0).natAbs ≤ B) (k : Nat) : ((prim v).getD k 0).natAbs ≤ B := by
  obtain ⟨t, ht, h⟩ := prim_fac v
  have h1 := hB k
  rw [h k, Int.natAbs_mul] at h1
  have h2 : 1 ≤ t.natAbs := by omega
  have h3 : 1 * ((prim v).getD k 0).natAbs ≤ t.natAbs * ((prim v).getD k 0).natAbs := Nat.mul_le_mul_right _ h2
  omega
end Go.Mx
end
section
set_option linter.unusedVariables false
set_option linter.unusedSimpArgs false
set_option linter.unnecessarySimpa false
open Go Go.Fw Go.Mx
namespace Go.Proofs.Ytghofbijdnenoaa
theorem nz_ok {x : Int} (h : x ≠ 0) : nz x = some () := by unfold nz; rw [if_pos h]
theorem tmod_cast (a b : Nat) : Int.tmod (a : Int) (b : Int) = ((a % b : Nat) : Int) := (Int.ofNat_tmod a b).symm
theorem euclid {bm : Int × Int → Option ((Int × Int) ⊕ Int)} (h0 : ∀ a : Nat, bm ((a : Int), ((0 : Nat) : Int)) = some (.inr (a : Int))) (h1 : ∀ a b : Nat, 0 < b → bm ((a : Int), (b : Int)) = some (.inl ((b : Int), ((a % b : Nat) : Int)))) :
    ∀ (m a b f : Nat), b < 2 ^ m → 2 * m + 1 ≤ f → loopM bm f ((a : Int), (b : Int)) = some ((Nat.gcd a b : Nat) : Int) := by
  intro m
  induction m with
  | zero =>
    intro a b f hb hf
    have : b = 0 := by simp at hb; omega
    subst this
    obtain ⟨f, rfl⟩ : ∃ g, f = g + 1 := ⟨f - 1, by omega⟩
    unfold loopM
    rw [h0, Nat.gcd_zero_right]
  | succ m ih =>
    intro a b f hb hf
    obtain ⟨f, rfl⟩ : ∃ g, f = g + 2 := ⟨f - 2, by omega⟩
    by_cases hb0 : b = 0
    · subst hb0
      unfold loopM
      rw [h0, Nat.gcd_zero_right]
    · unfold loopM
      rw [h1 a b (by omega)]
      show loopM bm (f + 1) ((b : Int), ((a % b : Nat) : Int)) = _
      have e1 : Nat.gcd a b = Nat.gcd b (a % b) := by rw [Nat.gcd_comm b, ← Nat.gcd_rec, Nat.gcd_comm]
      rw [e1]
      by_cases hc0 : a % b = 0
      · rw [hc0]
        unfold loopM
        rw [h0, Nat.gcd_zero_right]
      · unfold loopM
        rw [h1 b (a % b) (by omega)]
        show loopM bm f (((a % b : Nat) : Int), ((b % (a % b) : Nat) : Int)) = _
        have e2 : Nat.gcd b (a % b) = Nat.gcd (a % b) (b % (a % b)) := by rw [Nat.gcd_comm (a % b), ← Nat.gcd_rec, Nat.gcd_comm]
        rw [e2]
        refine ih _ _ f ?_ (by omega)
        have hlt : a % b < b := Nat.mod_lt _ (by omega)
        have hlt2 : b % (a % b) < a % b := Nat.mod_lt _ (by omega)
        have hle : (a % b) + b % (a % b) ≤ b := by
          have := Nat.div_add_mod b (a % b)
          have hq : 1 ≤ b / (a % b) := Nat.div_pos (by omega) (by omega)
          have := Nat.mul_le_mul_left (a % b) hq
          omega
        rw [Nat.pow_succ] at hb
        omega
def Small (B : Int) (x : Int) : Prop := -B ≤ x ∧ x ≤ B
def G9 : Int := 9000000000000000000
theorem abs_if {x : Int} (h : Small G9 x) : (if x < w64 (-x) then w64 (-x) else x) = ((x.natAbs : Nat) : Int) := by
  unfold Small G9 at h
  rw [w64_id (by omega) (by omega)]
  split <;> omega
theorem natAbs_lt {x : Int} (h : Small G9 x) : x.natAbs < 2 ^ 63 := by
  unfold Small G9 at h
  have : (2 : Nat) ^ 63 = 9223372036854775808 := by decide
  omega
theorem BIG_big : 1000 ≤ BIG := by unfold BIG; omega
theorem gcdS_eq {a b : Int} (ha : Small G9 a) (hb : Small G9 b) : m_spec_GcdOf a b = some (Int.gcd a b : Int) := by
  have ha' := ha
  have hb' := hb
  unfold Small G9 at ha' hb'
  unfold m_spec_GcdOf
  simp only [l1In_eq, Option.bind_some]
  rw [decide_eq_true (show -9000000000000000000 ≤ a by omega), decide_eq_true (show a ≤ 9000000000000000000 by omega), decide_eq_true (show -9000000000000000000 ≤ b by omega), decide_eq_true (show b ≤ 9000000000000000000 by omega)]
  simp only [Bool.and_self, Bool.not_true, cond_false, Option.bind_some, abs_if ha, abs_if hb]
  rw [euclid (fun a => by simp [m_spec_GcdOf_L1]) (fun a b h => by
    unfold m_spec_GcdOf_L1
    rw [decide_eq_true (by show 0 < (b : Int); omega), cond_true, nz_ok (by show (b : Int) ≠ 0; omega), Option.bind_some, tmod_cast]) 63 a.natAbs b.natAbs BIG (natAbs_lt hb) (by have := BIG_big; omega)]
  rfl
def SmallL (B : Int) (v : List Int) : Prop := ∀ x ∈ v, Small B x
theorem fold_take {β : Type} (f : β → Int → β) (b : β) {v : List Int} {k : Nat} (hk : k < v.length) : (v.take (k + 1)).foldl f b = f ((v.take k).foldl f b) v[k] := by
  rw [take_get hk, List.foldl_append]; rfl
theorem gl_take_small {v : List Int} (h : SmallL G9 v) (k : Nat) : Small G9 (gl (v.take k)) := by
  have h0 := gl_nonneg (v.take k)
  refine ⟨by unfold G9; omega, ?_⟩
  by_cases hz : gl (v.take k) = 0
  · rw [hz]; unfold G9; omega
  · have : ¬ ∀ x ∈ v.take k, x = 0 := fun e => hz (gl_zero.2 e)
    obtain ⟨x, hx⟩ := Classical.not_forall.1 this
    obtain ⟨hx1, hx2⟩ := Classical.not_imp.1 hx
    have hd := gl_dvd hx1
    have hs := h x (List.mem_of_mem_take hx1)
    have := Int.le_of_dvd (by omega : (0 : Int) < x.natAbs) (Int.dvd_natAbs.2 hd)
    unfold Small at hs
    omega
theorem sg_small {v : List Int} (h : SmallL G9 v) : Small G9 (sg v) := by
  have := gl_take_small h v.length
  rw [List.take_length] at this
  have h0 := gl_nonneg v
  unfold Small at this ⊢
  unfold sg
  split <;> omega
theorem tdiv_small {x g : Int} (hx : Small G9 x) (hg : g ≠ 0) (hd : g ∣ x) : w64 (Int.tdiv x g) = Int.tdiv x g := by
  obtain ⟨q, hq⟩ := hd
  have e : Int.tdiv x g = q := by rw [hq, Int.mul_tdiv_cancel_left q hg]
  rw [e]
  have h2 : (q.natAbs : Int) ≤ x.natAbs := by
    rw [hq, Int.natAbs_mul]
    have : 1 * q.natAbs ≤ g.natAbs * q.natAbs := Nat.mul_le_mul_right _ (by omega)
    omega
  unfold Small G9 at hx
  exact w64_id (by omega) (by omega)
theorem primS_eq (v : List Int) (hl : SM v.length) (h : SmallL G9 v) : m_spec_PrimitiveVector v = some (prim v) := by
  unfold m_spec_PrimitiveVector
  have hL1 : loopM (m_spec_PrimitiveVector_L1 v) BIG (0, 0) = some (.inl (gl v)) := by
    refine loopM_run (fun k => (gl (v.take k), (k : Int))) v.length (by omega) (by simp [gl]) (fun k hk => ?_) ?_
    · have hs := h v[k] (List.getElem_mem hk)
      have hs' := hs
      unfold Small G9 at hs'
      have e1 : gl (v.take (k + 1)) = (Int.gcd (gl (v.take k)) v[k] : Int) := fold_take _ _ hk
      unfold m_spec_PrimitiveVector_L1
      simp only [idx_at hk, l1In_eq, gcdS_eq (gl_take_small h k) hs, Option.bind_some, w64_succ (show k ≤ 1099511627776 by omega)]
      rw [decide_eq_true (show (k : Int) < (v.length : Int) by omega), decide_eq_true (show -9000000000000000000 ≤ v[k] by omega), decide_eq_true (show v[k] ≤ 9000000000000000000 by omega), e1]
      rfl
    · unfold m_spec_PrimitiveVector_L1
      simp only [List.take_length]
      rw [decide_eq_false (by omega), cond_false]
  rw [hL1, Option.bind_some]
  show (bif gl v == 0 then _ else _) = _
  have hl0 : lim (([] : List Int).length + v.length) = some () := lim_ok (by simp; exact hl)
  by_cases hz : gl v = 0
  · rw [hz]
    show (lim (([] : List Int).length + v.length)).bind _ = some (prim v)
    rw [hl0, prim, if_pos hz]
    rfl
  · rw [show (gl v == 0) = false by simp [hz], cond_false]
    have hL2 : loopM (m_spec_PrimitiveVector_L2 v (gl v)) BIG (0, 0) = some (gl v, fnz v) := by
      refine loopM_run (fun k => (fnz (v.take k), (k : Int))) v.length (by omega) (by simp [fnz]) (fun k hk => ?_) ?_
      · have e2 : fnz (v.take (k + 1)) = if fnz (v.take k) = 0 then v[k] else fnz (v.take k) := fold_take _ _ hk
        unfold m_spec_PrimitiveVector_L2
        simp only [idx_at hk, Option.bind_some, w64_succ (show k ≤ 1099511627776 by omega)]
        rw [decide_eq_true (by omega), cond_true, e2]
        by_cases hz : fnz (v.take k) = 0
        · rw [hz, if_pos rfl]; rfl
        · rw [if_neg hz, show (fnz (v.take k) == 0) = false by simp [hz]]; rfl
      · unfold m_spec_PrimitiveVector_L2
        simp only [List.take_length]
        rw [decide_eq_false (by omega), cond_false]
    rw [hL2, Option.bind_some]
    have hj : (bif decide (fnz v < 0) then some (w64 (-gl v)) else some (gl v)) = some (sg v) := by
      have := sg_small h
      unfold Small G9 sg at this
      unfold sg
      by_cases hn : fnz v < 0
      · rw [decide_eq_true hn, cond_true, if_pos hn, w64_id (by rw [if_pos hn] at this; omega) (by rw [if_pos hn] at this; omega)]
      · rw [decide_eq_false hn, cond_false, if_neg hn]
    show ((bif decide (fnz v < 0) then some (w64 (-gl v)) else some (gl v)) : Option Int).bind _ = _
    rw [hj, Option.bind_some]
    have hsg : sg v ≠ 0 := fun e => hz (sg_zero.1 e)
    have hL3 : loopM (m_spec_PrimitiveVector_L3 v (sg v)) BIG (0, []) = some (prim v) := by
      have e0 : prim v = v.map fun x => Int.tdiv x (sg v) := by rw [prim, if_neg hz]
      rw [e0]
      refine loopM_run (fun k => ((k : Int), (v.take k).map (fun x => Int.tdiv x (sg v)))) v.length (by omega) (by simp) (fun k hk => ?_) ?_
      · have htl : (v.take k).length = k := by rw [List.length_take]; omega
        have hlm : lim (((v.take k).map (fun x => Int.tdiv x (sg v))).length + ([Int.tdiv v[k] (sg v)] : List Int).length) = some () := lim_ok (by simp; omega)
        unfold m_spec_PrimitiveVector_L3
        simp only [idx_at hk, nz_ok hsg, Option.bind_some, w64_succ (show k ≤ 1099511627776 by omega), tdiv_small (h v[k] (List.getElem_mem hk)) hsg (sg_dvd (List.getElem_mem hk)), hlm]
        rw [decide_eq_true (by omega), cond_true, take_get hk, List.map_append]
        rfl
      · unfold m_spec_PrimitiveVector_L3
        simp only [List.take_length]
        rw [decide_eq_false (by omega), cond_false]
    rw [hL3]
    rfl
end Go.Proofs.Ytghofbijdnenoaa
end
section
set_option linter.unusedVariables false
set_option linter.unusedSimpArgs false
set_option linter.unnecessarySimpa false
open Go Go.Fw Go.Mx
namespace Go.Proofs.Ytghofbijdnenoaa
def mix {α : Type} (u v : List α) (i : Nat) : List α := u.take i ++ v.drop i
section
variable {α : Type} {u v : List α} {i j : Nat}
theorem mix_len (h : u.length = v.length) (hi : i ≤ v.length) : (mix u v i).length = v.length := by
  unfold mix
  rw [List.length_append, List.length_take, List.length_drop]
  omega
theorem mix_zero : mix u v 0 = v := by simp [mix]
theorem mix_full (h : u.length = v.length) : mix u v v.length = u := by
  unfold mix
  rw [List.drop_length, List.append_nil, ← h, List.take_length]
theorem mix_get (d : α) (h : u.length = v.length) (hi : i ≤ v.length) : (mix u v i).getD j d = if j < i then u.getD j d else v.getD j d := by
  unfold mix
  simp only [List.getD_eq_getElem?_getD]
  have hl : (u.take i).length = i := by rw [List.length_take]; omega
  by_cases hj : j < i
  · rw [if_pos hj, List.getElem?_append_left (by omega), List.getElem?_take, if_pos hj]
  · rw [if_neg hj, List.getElem?_append_right (by omega), hl, List.getElem?_drop, show i + (j - i) = j by omega]
theorem mix_set {d x : α} (h : u.length = v.length) (hi : i < v.length) (hx : u.getD i d = x) : (mix u v i).set i x = mix u v (i + 1) := by
  subst hx
  unfold mix
  have hl : (u.take i).length = i := by rw [List.length_take]; omega
  rw [List.set_append_right _ _ (by omega), hl, Nat.sub_self, List.drop_eq_getElem_cons hi, List.set_cons_zero, take_get (by omega), List.append_assoc]
  congr 1
  simp [List.getD_eq_getElem?_getD, List.getElem?_eq_getElem (show i < u.length by omega)]
theorem mix_skip {d : α} (h : u.length = v.length) (hi : i < v.length) (hx : u.getD i d = v.getD i d) : mix u v i = mix u v (i + 1) := by
  rw [← mix_set (d := d) h hi rfl, hx]
  refine (List.ext_getElem? fun j => ?_).symm
  rw [List.getElem?_set]
  by_cases hj : i = j
  · subst hj
    have hl := mix_len h (i := i) (by omega)
    rw [if_pos rfl, if_pos (by omega)]
    have := mix_get (j := i) d h (i := i) (by omega)
    rw [if_neg (by omega)] at this
    rw [← this]
    simp [List.getD_eq_getElem?_getD, List.getElem?_eq_getElem (show i < (mix u v i).length by omega)]
  · rw [if_neg hj]
end
theorem idxD {α : Type} {l : List α} {k : Nat} (d : α) (h : k < l.length) : idx l (k : Int) = some (l.getD k d) := by
  rw [idx_at h]
  simp [List.getD_eq_getElem?_getD, List.getElem?_eq_getElem h]
theorem setD_same {α : Type} {l : List α} {k : Nat} (d : α) (h : k < l.length) : l.set k (l.getD k d) = l := by
  refine List.ext_getElem? fun j => ?_
  rw [List.getElem?_set]
  by_cases hj : k = j
  · subst hj
    rw [if_pos rfl, if_pos h]
    simp [List.getD_eq_getElem?_getD, List.getElem?_eq_getElem h]
  · rw [if_neg hj]
def BB : Nat := 2000000000
theorem mul_b {x y : Int} (hx : x.natAbs ≤ BB) (hy : y.natAbs ≤ BB) : (x * y).natAbs ≤ 4000000000000000000 := by
  rw [Int.natAbs_mul]
  have := Nat.mul_le_mul hx hy
  unfold BB at this
  omega
theorem w64_mul {x y : Int} (hx : x.natAbs ≤ BB) (hy : y.natAbs ≤ BB) : w64 (x * y) = x * y := by
  have := mul_b hx hy
  exact w64_id (by omega) (by omega)
theorem w64_cross {a b c d : Int} (ha : a.natAbs ≤ BB) (hb : b.natAbs ≤ BB) (hc : c.natAbs ≤ BB) (hd : d.natAbs ≤ BB) : w64 (w64 (a * b) - w64 (c * d)) = a * b - c * d ∧ (a * b - c * d).natAbs ≤ 8000000000000000000 := by
  rw [w64_mul ha hb, w64_mul hc hd]
  have := mul_b ha hb
  have := mul_b hc hd
  exact ⟨w64_id (by omega) (by omega), by omega⟩
theorem w64_tdiv {x y : Int} (hx : x.natAbs ≤ 8000000000000000000) : w64 (Int.tdiv x y) = Int.tdiv x y := by
  have : (Int.tdiv x y).natAbs ≤ x.natAbs := by
    rw [Int.natAbs_tdiv]
    exact Nat.div_le_self _ _
  exact w64_id (by omega) (by omega)
structure BndS (s : BS) : Prop where
  ent : ∀ i k : Nat, (at2 s.a i k).natAbs ≤ BB
  last : s.last.natAbs ≤ BB
def Tame (n : Nat) (M : Mat) : Prop := ∀ c, c ≤ n → BndS (bred n M c)
theorem elimI_eq {n : Nat} {a : Mat} {i r : Nat} {d f last c len : Int} {pivs : List Int} (hn : n ≤ 1000000) (hi : i < a.length) (hr : r < a.length) (hir : i ≠ r) (hri : (a.getD i []).length = n) (hrr : (a.getD r []).length = n)
    (hd : d.natAbs ≤ BB) (hf : f.natAbs ≤ BB) (hl : last ≠ 0) (hb : ∀ k : Nat, (at2 a i k).natAbs ≤ BB) (hb2 : ∀ k : Nat, (at2 a r k).natAbs ≤ BB) :
    loopM (m_impl_reduced_L14 (n : Int) ((i : Int), last, c, (r : Int), d, len, pivs, a) f) BIG (0, a) = some (last, c, (r : Int), d, len, (i : Int), a.set i (elim n d f last (a.getD i []) (a.getD r [])), pivs) := by
  have hel : (elim n d f last (a.getD i []) (a.getD r [])).length = (a.getD i []).length := by rw [elim, vec_len, hri]
  refine loopM_run (fun k => ((k : Int), a.set i (mix (elim n d f last (a.getD i []) (a.getD r [])) (a.getD i []) k))) n (by omega) (by simp only [mix_zero]; rw [setD_same [] hi]; rfl) (fun k hk => ?_) ?_
  · have hl1 : (a.set i (mix (elim n d f last (a.getD i []) (a.getD r [])) (a.getD i []) k)).length = a.length := by simp
    have e1 := idxD (l := a.set i (mix (elim n d f last (a.getD i []) (a.getD r [])) (a.getD i []) k)) [] (show i < _ by rw [hl1]; exact hi)
    have e2 := idxD (l := a.set i (mix (elim n d f last (a.getD i []) (a.getD r [])) (a.getD i []) k)) [] (show r < _ by rw [hl1]; exact hr)
    rw [getD_set hi, if_pos rfl] at e1
    rw [getD_set hi, if_neg hir] at e2
    have hml := mix_len hel (i := k) (by omega)
    have e3 := idxD (l := mix (elim n d f last (a.getD i []) (a.getD r [])) (a.getD i []) k) 0 (show k < _ by omega)
    rw [mix_get 0 hel (by omega), if_neg (by omega)] at e3
    have e4 := idxD (l := a.getD r []) 0 (show k < _ by omega)
    obtain ⟨w1, w2⟩ := w64_cross hd (hb k) hf (hb2 k)
    unfold at2 at w1 w2
    unfold m_impl_reduced_L14
    simp only [e1, e2, e3, e4, nz_ok hl, Option.bind_some, Int.toNat_natCast, w64_succ (show k ≤ 1099511627776 by omega), w1, w64_tdiv w2]
    rw [decide_eq_true (by omega), cond_true, List.set_set]
    congr 3
    rw [mix_set (d := 0) hel (by omega)]
    rw [elim, vec_get _ hk]
  · unfold m_impl_reduced_L14
    have := mix_full hel
    rw [hri] at this
    simp only [this]
    rw [decide_eq_false (by omega), cond_false]
theorem stepI_eq {n : Nat} {a : Mat} {r c : Nat} {d last : Int} {pivs : List Int} (hn : n ≤ 1000000) (ha : a.length ≤ 1000000) (hr : r < a.length) (hcn : c < n) (hrows : RowsN n a)
    (hd : d.natAbs ≤ BB) (hl : last ≠ 0) (hb : ∀ i k : Nat, (at2 a i k).natAbs ≤ BB) :
    loopM (m_impl_reduced_L13 (n : Int)) BIG (0, last, (c : Int), (r : Int), d, (a.length : Int), pivs, a) =
      some ((c : Int), d, (a.mapIdx fun i row => if i = r then row else elim n d (row.getD c 0) last row (a.getD r [])), pivs) := by
  generalize hu : (a.mapIdx fun i row => if i = r then row else elim n d (row.getD c 0) last row (a.getD r [])) = u
  have hul : u.length = a.length := by rw [← hu, List.length_mapIdx]
  have hug : ∀ i, i < a.length → u.getD i [] = if i = r then a.getD i [] else elim n d ((a.getD i []).getD c 0) last (a.getD i []) (a.getD r []) := fun i hi => by rw [← hu]; exact mapIdx_getD hi
  refine loopM_run (fun i => ((i : Int), last, (c : Int), (r : Int), d, (a.length : Int), pivs, mix u a i)) a.length (by omega) (by simp [mix_zero]) (fun i hi => ?_) ?_
  · have hml := mix_len hul (i := i) (by omega)
    unfold m_impl_reduced_L13
    by_cases hir : i = r
    · subst hir
      simp only [beq_self_eq_true, cond_true, w64_succ (show i ≤ 1099511627776 by omega)]
      rw [decide_eq_true (by omega), cond_true, mix_skip (d := []) hul hi (by rw [hug i hi, if_pos rfl])]
    · have e1 := idxD (l := mix u a i) [] (show i < _ by omega)
      rw [mix_get [] hul (by omega), if_neg (by omega)] at e1
      have e2 := idxD (l := a.getD i []) 0 (show c < _ by rw [hrows i hi]; exact hcn)
      have hgr : (mix u a i).getD r [] = a.getD r [] := by
        rw [mix_get [] hul (by omega)]
        split
        · rw [hug r hr, if_pos rfl]
        · rfl
      have hgi : (mix u a i).getD i [] = a.getD i [] := by rw [mix_get [] hul (by omega), if_neg (by omega)]
      have e3 := elimI_eq (a := mix u a i) (d := d) (f := (a.getD i []).getD c 0) (last := last) (c := (c : Int)) (len := (a.length : Int)) (pivs := pivs) hn (show i < _ by omega) (show r < _ by omega) hir (by rw [hgi]; exact hrows i hi) (by rw [hgr]; exact hrows r hr) hd (hb i c) hl
        (fun k => by unfold at2; rw [hgi]; exact hb i k) (fun k => by unfold at2; rw [hgr]; exact hb r k)
      rw [hgi, hgr] at e3
      have hne : ((i : Int) == (r : Int)) = false := by simp; omega
      simp only [hne, cond_false, e1, e2, e3, Option.bind_some, w64_succ (show i ≤ 1099511627776 by omega)]
      rw [decide_eq_true (by omega), cond_true, mix_set (d := []) hul hi (by rw [hug i hi, if_neg hir])]
  · unfold m_impl_reduced_L13
    simp only [mix_full hul]
    rw [decide_eq_false (by omega), cond_false]
def pivOr (a : Mat) (r c : Nat) : Nat := (pivAt a r c).getD a.length
theorem pivOr_le {a : Mat} {r c : Nat} (hr : r ≤ a.length) : r ≤ pivOr a r c ∧ pivOr a r c ≤ a.length ∧ (∀ j, r ≤ j → j < pivOr a r c → at2 a j c = 0) ∧ (pivOr a r c < a.length → at2 a (pivOr a r c) c ≠ 0) := by
  unfold pivOr
  cases h : pivAt a r c with
  | none => exact ⟨hr, Nat.le_refl _, fun j h1 h2 => pivAt_none h j h1 h2, fun h => absurd h (Nat.lt_irrefl _)⟩
  | some p =>
    obtain ⟨p1, p2, p3, p4⟩ := pivAt_some h
    exact ⟨p1, by simp; omega, p4, fun _ => p3⟩
theorem findI_eq {n : Nat} {a : Mat} {c : Nat} {last : Int} {pivs : List Int} (ha : a.length ≤ 1000000) (hr : pivs.length < a.length) (hcn : c < n) (hrows : RowsN n a) :
    loopM (m_impl_reduced_L10 ((c : Int), a, last, pivs)) BIG (pivs.length : Int) = some (last, (c : Int), (pivs.length : Int), (pivOr a pivs.length c : Int), a, pivs) := by
  obtain ⟨h1, h2, h3, h4⟩ := pivOr_le (a := a) (c := c) (show pivs.length ≤ a.length by omega)
  refine loopM_run (fun k => ((pivs.length + k : Nat) : Int)) (pivOr a pivs.length c - pivs.length) (by omega) (by simp) (fun k hk => ?_) ?_
  · have hlt : pivs.length + k < a.length := by omega
    have e1 := idxD (l := a) [] hlt
    have e2 := idxD (l := a.getD (pivs.length + k) []) 0 (show c < _ by rw [hrows _ hlt]; exact hcn)
    have e3 := h3 (pivs.length + k) (by omega) (by omega)
    unfold at2 at e3
    unfold m_impl_reduced_L10
    simp only [e1, e2, e3, Option.bind_some]
    rw [decide_eq_true (by omega), cond_true]
    simp only [beq_self_eq_true, Option.bind_some, cond_true]
    rw [w64_succ (by omega)]
    rfl
  · have e0 : ((pivs.length + (pivOr a pivs.length c - pivs.length) : Nat) : Int) = (pivOr a pivs.length c : Int) := by omega
    rw [e0]
    unfold m_impl_reduced_L10
    by_cases hlt : pivOr a pivs.length c < a.length
    · have e1 := idxD (l := a) [] hlt
      have e2 := idxD (l := a.getD (pivOr a pivs.length c) []) 0 (show c < _ by rw [hrows _ hlt]; exact hcn)
      have e3 := h4 hlt
      unfold at2 at e3
      simp only [e1, e2, Option.bind_some]
      rw [decide_eq_true (by omega), cond_true]
      rw [show (((a.getD (pivOr a pivs.length c) []).getD c 0) == 0) = false by simpa using e3]
      rfl
    · simp only []
      rw [decide_eq_false (by omega)]
      rfl
def castL (l : List Nat) : List Int := l.map fun (c : Nat) => (c : Int)
theorem castL_len (l : List Nat) : (castL l).length = l.length := by simp [castL]
theorem castL_snoc (l : List Nat) (c : Nat) : castL (l ++ [c]) = castL l ++ [(c : Int)] := by simp [castL]
theorem inv_rowsN {n : Nat} {M M' : Mat} {c : Nat} {s : BS} (h : BInv n M c s M') : RowsN n s.a := fun i hi => by
  rw [h.len] at hi
  by_cases hl : s.piv.length ≤ i
  · rw [h.lo i hl hi, arow, vec_len]
  · exact (h.hi i (by omega)).len
theorem swap_eq {a : Mat} {r p : Nat} (hr : r < a.length) (hp : p < a.length) : (a.set r (a.getD p [])).set p (a.getD r []) = swapR a r p := rfl
theorem at2_swap {n : Nat} {a : Mat} {r p : Nat} (hr : r < a.length) (hp : p < a.length) (hb : ∀ i k : Nat, (at2 a i k).natAbs ≤ BB) (i k : Nat) : (at2 (swapR a r p) i k).natAbs ≤ BB := by
  unfold at2
  rw [swapR_get hr hp]
  split
  · exact hb r k
  · split
    · exact hb p k
    · exact hb i k
theorem bred_stop {n c : Nat} {M : Mat} (h : ¬ (bred n M c).piv.length < (bred n M c).a.length) : ∀ j, bred n M (c + j) = bred n M c
  | 0 => rfl
  | j + 1 => by
    show bstep n (c + j) (bred n M (c + j)) = _
    rw [bred_stop h j]
    unfold bstep
    rw [if_neg h]
theorem redI_eq {n : Nat} {M : Mat} (hn : n ≤ 1000000) (hM : M.length ≤ 1000000) (hrows : RowsN n M) (hT : Tame n M) :
    loopM (m_impl_reduced_L9 (n : Int)) BIG (0, M, 1, []) = some ((bred n M n).last, (bred n M n).a, castL (bred n M n).piv) := by
  have key := loop_inv (b := m_impl_reduced_L9 (n : Int)) (s := (0, M, 1, [])) (fun k s => s = ((k : Int), (bred n M k).a, (bred n M k).last, castL (bred n M k).piv)) (fun r => r = ((bred n M n).last, (bred n M n).a, castL (bred n M n).piv)) n (by omega) rfl
    (fun c s hc hs => by
      subst hs
      obtain ⟨M', hI⟩ := bred_inv hrows c (by omega)
      have hB := hT c (by omega)
      have hrow := inv_rowsN hI
      have hal : (bred n M c).a.length = M.length := hI.len
      have hnext : bred n M (c + 1) = bstep n c (bred n M c) := rfl
      have hnz := hI.nz
      generalize hsd : bred n M c = s at *
      by_cases hlt : s.piv.length < s.a.length
      · left
        have hf := findI_eq (n := n) (a := s.a) (c := c) (last := s.last) (pivs := castL s.piv) (by omega) (by rw [castL_len]; exact hlt) hc hrow
        rw [castL_len] at hf
        unfold m_impl_reduced_L9
        simp only [castL_len]
        rw [decide_eq_true (show (c : Int) < (n : Int) by omega), cond_true, decide_eq_true (show (s.piv.length : Int) < (s.a.length : Int) by omega), Option.bind_some, cond_true, hf, Option.bind_some]
        obtain ⟨q1, q2, q3, q4⟩ := pivOr_le (a := s.a) (c := c) (show s.piv.length ≤ s.a.length by omega)
        cases hp : pivAt s.a s.piv.length c with
        | none =>
          have hpo : pivOr s.a s.piv.length c = s.a.length := by unfold pivOr; rw [hp]; rfl
          have hst : bred n M (c + 1) = s := by
            rw [hnext]
            unfold bstep
            rw [if_pos hlt, hp]
          refine ⟨_, ?_, rfl⟩
          rw [hst, hpo]
          simp only [beq_self_eq_true, cond_true, w64_succ (show c ≤ 1099511627776 by omega)]
        | some p =>
          have hpo : pivOr s.a s.piv.length c = p := by unfold pivOr; rw [hp]; rfl
          obtain ⟨p1, p2, p3, p4⟩ := pivAt_some hp
          rw [hpo]
          have hne : ((p : Int) == (s.a.length : Int)) = false := by simp; omega
          have e1 := idxD (l := s.a) [] p2
          have e2 := idxD (l := s.a) [] hlt
          have hsl : (swapR s.a s.piv.length p).length = s.a.length := swapR_len ..
          have e3 := idxD (l := swapR s.a s.piv.length p) [] (show s.piv.length < _ by rw [hsl]; exact hlt)
          have hrow2 : RowsN n (swapR s.a s.piv.length p) := fun i hi => by
            rw [hsl] at hi
            rw [swapR_get hlt p2]
            split
            · exact hrow _ hlt
            · split
              · exact hrow _ p2
              · exact hrow i hi
          have e4 := idxD (l := (swapR s.a s.piv.length p).getD s.piv.length []) 0 (show c < _ by rw [hrow2 _ (by rw [hsl]; exact hlt)]; exact hc)
          have e5 := stepI_eq (a := swapR s.a s.piv.length p) (r := s.piv.length) (c := c) (d := at2 (swapR s.a s.piv.length p) s.piv.length c) (last := s.last) (pivs := castL s.piv) hn (by rw [hsl]; omega) (by rw [hsl]; exact hlt) hc hrow2
            (at2_swap (n := n) hlt p2 hB.ent _ _) hnz (at2_swap (n := n) hlt p2 hB.ent)
          rw [hsl] at e5
          have hlim : lim ((castL s.piv).length + ([(c : Int)] : List Int).length) = some () := lim_ok (by rw [castL_len]; simp; omega)
          have hst : bred n M (c + 1) = ⟨(swapR s.a s.piv.length p).mapIdx fun i row => if i = s.piv.length then row else elim n (at2 (swapR s.a s.piv.length p) s.piv.length c) (row.getD c 0) s.last row ((swapR s.a s.piv.length p).getD s.piv.length []), s.piv ++ [c], at2 (swapR s.a s.piv.length p) s.piv.length c⟩ := by
            rw [hnext]
            unfold bstep
            rw [if_pos hlt, hp]
          refine ⟨_, ?_, rfl⟩
          rw [hst]
          simp only [hne, cond_false, e1, e2, Option.bind_some, Int.toNat_natCast, swap_eq hlt p2, e3, e4]
          have e5' : loopM (m_impl_reduced_L13 (n : Int)) BIG (0, s.last, (c : Int), (s.piv.length : Int), ((swapR s.a s.piv.length p).getD s.piv.length []).getD c 0, (s.a.length : Int), castL s.piv, swapR s.a s.piv.length p) = _ := e5
          simp only [e5', Option.bind_some, hlim, w64_succ (show c ≤ 1099511627776 by omega), castL_snoc]
      · right
        refine ⟨_, ?_, rfl⟩
        unfold m_impl_reduced_L9
        simp only [castL_len]
        rw [decide_eq_true (show (c : Int) < (n : Int) by omega), cond_true, decide_eq_false (show ¬ (s.piv.length : Int) < (s.a.length : Int) by omega), Option.bind_some, cond_false]
        have := bred_stop (n := n) (M := M) (c := c) (by rw [hsd]; exact hlt) (n - c)
        rw [show c + (n - c) = n by omega, hsd] at this
        rw [this]) (fun s hs => by
      subst hs
      refine ⟨_, ?_, rfl⟩
      unfold m_impl_reduced_L9
      rw [decide_eq_false (by omega)]
      rfl)
  obtain ⟨r, h1, h2⟩ := key
  rw [h1, h2]
theorem small_of {v : List Int} (h : ∀ k : Nat, (v.getD k 0).natAbs ≤ 8000000000000000000) : SmallL G9 v := fun x hx => by
  obtain ⟨k, hk⟩ := List.mem_iff_getElem?.1 hx
  have := h k
  rw [List.getD_eq_getElem?_getD, hk, Option.getD_some] at this
  unfold Small G9
  omega
theorem copyL_eq {n : Nat} {M : Mat} (hn : n ≤ 1000000) (hM : M.length ≤ 1000000) (hrows : RowsN n M) : m_impl_copyLists M = some M := by
  unfold m_impl_copyLists
  have e : loopM (m_impl_copyLists_L1 M) BIG (0, []) = some M := by
    refine loopM_run (fun k => ((k : Int), M.take k)) M.length (by omega) (by simp) (fun k hk => ?_) ?_
    · have e1 := idxD (l := M) [] hk
      have hl : lim ((M.take k).length + 1) = some () := lim_ok (by rw [List.length_take]; omega)
      have hr : m_impl_copyInts (M.getD k []) = some (M.getD k []) := copyInts_eq _ (by rw [hrows k hk]; show n ≤ _; omega)
      unfold m_impl_copyLists_L1
      simp only [e1, hr, hl, Option.bind_some, w64_succ (show k ≤ 1099511627776 by omega)]
      rw [decide_eq_true (by omega), cond_true, take_get hk]
      simp [List.getD_eq_getElem?_getD, List.getElem?_eq_getElem hk]
    · unfold m_impl_copyLists_L1
      rw [decide_eq_false (by omega), cond_false, List.take_length]
  rw [e]
  rfl
theorem reducedI_eq {n : Nat} {M : Mat} (hn : n ≤ 1000000) (hM : M.length ≤ 1000000) (hrows : RowsN n M) (hT : Tame n M) : m_impl_reduced M (n : Int) = some ((bred n M n).a, castL (bred n M n).piv, (bred n M n).last) := by
  unfold m_impl_reduced
  rw [copyL_eq hn hM hrows, Option.bind_some, redI_eq hn hM hrows hT]
  rfl
end Go.Proofs.Ytghofbijdnenoaa
end
section
set_option linter.unusedVariables false
set_option linter.unusedSimpArgs false
set_option linter.unnecessarySimpa false
open Go Go.Fw Go.Mx
namespace Go.Proofs.Ytghofbijdnenoaa
theorem gcd_ne {a b : Int} (h : b ≠ 0) : (Int.gcd a b : Int) ≠ 0 := by
  have : Int.gcd a b ≠ 0 := fun e => h (Int.gcd_eq_zero_iff.1 e).2
  omega
theorem tdiv_le (x y : Int) : (Int.tdiv x y).natAbs ≤ x.natAbs := by
  rw [Int.natAbs_tdiv]
  exact Nat.div_le_self _ _
def woV (n : Nat) (a row : List Int) (j : Nat) : List Int := vec n fun k => a.getD k 0 * Int.tdiv (row.getD j 0) (Int.gcd (a.getD j 0) (row.getD j 0)) - row.getD k 0 * Int.tdiv (a.getD j 0) (Int.gcd (a.getD j 0) (row.getD j 0))
theorem g9_of {x : Int} (h : x.natAbs ≤ BB) : Small G9 x := by unfold BB at h; unfold Small G9; omega
theorem withoutV_eq {n j : Nat} {a row : List Int} (hn : n ≤ 1000000) (hj : j < n) (ha : a.length = n) (hr : row.length = n) (hba : ∀ k : Nat, (a.getD k 0).natAbs ≤ BB) (hbr : ∀ k : Nat, (row.getD k 0).natAbs ≤ BB) (hp : row.getD j 0 ≠ 0) :
    m_spec_l9Without a row (j : Int) = some (prim (woV n a row j)) := by
  have hg := gcd_ne (a := a.getD j 0) hp
  have hX : w64 (Int.tdiv (row.getD j 0) (Int.gcd (a.getD j 0) (row.getD j 0))) = Int.tdiv (row.getD j 0) (Int.gcd (a.getD j 0) (row.getD j 0)) := w64_tdiv (by have := hbr j; unfold BB at this; omega)
  have hY : w64 (Int.tdiv (a.getD j 0) (Int.gcd (a.getD j 0) (row.getD j 0))) = Int.tdiv (a.getD j 0) (Int.gcd (a.getD j 0) (row.getD j 0)) := w64_tdiv (by have := hba j; unfold BB at this; omega)
  have hcr : ∀ k : Nat, w64 (w64 (a.getD k 0 * Int.tdiv (row.getD j 0) (Int.gcd (a.getD j 0) (row.getD j 0))) - w64 (row.getD k 0 * Int.tdiv (a.getD j 0) (Int.gcd (a.getD j 0) (row.getD j 0)))) = a.getD k 0 * Int.tdiv (row.getD j 0) (Int.gcd (a.getD j 0) (row.getD j 0)) - row.getD k 0 * Int.tdiv (a.getD j 0) (Int.gcd (a.getD j 0) (row.getD j 0)) ∧ _ := fun k =>
    w64_cross (hba k) (Nat.le_trans (tdiv_le _ _) (hbr j)) (hbr k) (Nat.le_trans (tdiv_le _ _) (hba j))
  have e1 := idxD (l := a) 0 (show j < _ by omega)
  have e2 := idxD (l := row) 0 (show j < _ by omega)
  unfold m_spec_l9Without
  simp only [e1, e2, gcdS_eq (g9_of (hba j)) (g9_of (hbr j)), nz_ok hg, Option.bind_some]
  have hL : loopM (m_spec_l9Without_L1 a row (Int.gcd (a.getD j 0) (row.getD j 0) : Int) (row.getD j 0) (a.getD j 0)) BIG (0, []) = some (woV n a row j) := by
    refine loopM_run (fun k => ((k : Int), (woV n a row j).take k)) n (by omega) (by simp) (fun k hk => ?_) ?_
    · have hvl : (woV n a row j).length = n := vec_len ..
      have e3 := idxD (l := a) 0 (show k < _ by omega)
      have e4 := idxD (l := row) 0 (show k < _ by omega)
      have hl : ∀ x : Int, lim (((woV n a row j).take k).length + ([x] : List Int).length) = some () := fun x => lim_ok (by rw [List.length_take]; simp; omega)
      unfold m_spec_l9Without_L1
      simp only [e3, e4, hX, hY, (hcr k).1, hl, Option.bind_some, w64_succ (show k ≤ 1099511627776 by omega)]
      rw [decide_eq_true (by omega), cond_true, take_get (show k < _ by omega)]
      have : (woV n a row j)[k]'(by omega) = a.getD k 0 * Int.tdiv (row.getD j 0) (Int.gcd (a.getD j 0) (row.getD j 0)) - row.getD k 0 * Int.tdiv (a.getD j 0) (Int.gcd (a.getD j 0) (row.getD j 0)) := by simp [woV, vec]
      rw [this]
    · unfold m_spec_l9Without_L1
      rw [decide_eq_false (by omega), cond_false, List.take_of_length_le (by rw [woV, vec_len]; exact Nat.le_refl _)]
  rw [hL, Option.bind_some]
  unfold m_spec_l9Clean
  rw [primS_eq _ (by rw [woV, vec_len]; show n ≤ _; omega) (small_of fun k => by
    by_cases hk : k < n
    · rw [woV, vec_get _ hk]
      exact (hcr k).2
    · rw [getD_out (by rw [woV, vec_len]; omega)]
      decide)]
  rfl
theorem without_par {n c : Nat} {X Y : List Int} {last : Int} (hl : last ≠ 0) (hX : X.length = n) (hY : Y.length = n) (hYc : Y.getD c 0 ≠ 0) (hc : c < n)
    (he : ∀ k, k < n → last * (elim n (Y.getD c 0) (X.getD c 0) last X Y).getD k 0 = Y.getD c 0 * X.getD k 0 - X.getD c 0 * Y.getD k 0) :
    prim (woV n (prim X) (prim Y) c) = prim (elim n (Y.getD c 0) (X.getD c 0) last X Y) := by
  obtain ⟨s, hs, h1⟩ := prim_fac X
  obtain ⟨t, ht, h2⟩ := prim_fac Y
  have hp : (prim Y).getD c 0 ≠ 0 := fun e => hYc ((prim_zero_iff Y c).1 e)
  have hg := gcd_ne (a := (prim X).getD c 0) hp
  refine Par.prim ⟨by rw [woV, vec_len, elim, vec_len], s * t * (Int.gcd ((prim X).getD c 0) ((prim Y).getD c 0) : Int), last, fun e => ?_, hl, fun k => ?_⟩
  · rcases Int.mul_eq_zero.1 e with e | e
    · rcases Int.mul_eq_zero.1 e with e | e
      · exact hs e
      · exact ht e
    · exact hg e
  · by_cases hk : k < n
    · rw [he k hk, woV, vec_get _ hk]
      have d1 : (Int.gcd ((prim X).getD c 0) ((prim Y).getD c 0) : Int) * Int.tdiv ((prim Y).getD c 0) (Int.gcd ((prim X).getD c 0) ((prim Y).getD c 0)) = (prim Y).getD c 0 := Int.mul_tdiv_cancel' (Int.gcd_dvd_right ..)
      have d2 : (Int.gcd ((prim X).getD c 0) ((prim Y).getD c 0) : Int) * Int.tdiv ((prim X).getD c 0) (Int.gcd ((prim X).getD c 0) ((prim Y).getD c 0)) = (prim X).getD c 0 := Int.mul_tdiv_cancel' (Int.gcd_dvd_left ..)
      rw [h1 k, h2 k, h1 c, h2 c]
      generalize (Int.gcd ((prim X).getD c 0) ((prim Y).getD c 0) : Int) = g at *
      generalize Int.tdiv ((prim Y).getD c 0) g = q1 at *
      generalize Int.tdiv ((prim X).getD c 0) g = q2 at *
      rw [← d1, ← d2]
      generalize (prim X).getD k 0 = x
      generalize (prim Y).getD k 0 = y
      grind
    · rw [getD_out (v := woV n (prim X) (prim Y) c) (by rw [woV, vec_len]; omega), getD_out (v := elim n (Y.getD c 0) (X.getD c 0) last X Y) (by rw [elim, vec_len]; omega)]
      simp
theorem skip_par {n : Nat} {X Y : List Int} {c : Nat} {last : Int} (hl : last ≠ 0) (hX : X.length = n) (hYc : Y.getD c 0 ≠ 0) (hXc : X.getD c 0 = 0)
    (he : ∀ k, k < n → last * (elim n (Y.getD c 0) (X.getD c 0) last X Y).getD k 0 = Y.getD c 0 * X.getD k 0 - X.getD c 0 * Y.getD k 0) : prim (elim n (Y.getD c 0) (X.getD c 0) last X Y) = prim X :=
  (Par.prim (u := X) ⟨by rw [elim, vec_len, hX], Y.getD c 0, last, hYc, hl, fun k => by
    by_cases hk : k < n
    · rw [he k hk, hXc]; simp
    · rw [getD_out (v := X) (by omega), getD_out (v := elim n (Y.getD c 0) (X.getD c 0) last X Y) (by rw [elim, vec_len]; omega)]; simp⟩).symm
theorem map_getD {a : Mat} {i : Nat} (h : i < a.length) : (a.map prim).getD i [] = prim (a.getD i []) := by
  simp [List.getD_eq_getElem?_getD, List.getElem?_map, List.getElem?_eq_getElem h]
theorem swap_map {a : Mat} {r p : Nat} (hr : r < a.length) (hp : p < a.length) : ((a.map prim).set p ((a.map prim).getD r [])).set r ((a.map prim).getD p []) = (swapR a r p).map prim := by
  rw [map_getD hr, map_getD hp]
  unfold swapR
  rw [List.map_set, List.map_set]
  by_cases h : r = p
  · subst h; simp
  · rw [List.set_comm _ _ (Ne.symm h)]
theorem findS_eq {n : Nat} {a : Mat} {c : Nat} {cols : List Int} (ha : a.length ≤ 1000000) (hr : cols.length ≤ a.length) (hcn : c < n) (hrows : RowsN n a) :
    loopM (m_spec_l9Reduced_L7 ((c : Int), a.map prim, cols)) BIG (cols.length : Int) = some ((c : Int), (pivOr a cols.length c : Int), a.map prim, cols) := by
  obtain ⟨h1, h2, h3, h4⟩ := pivOr_le (a := a) (c := c) hr
  have hml : (a.map prim).length = a.length := List.length_map ..
  refine loopM_run (fun k => ((cols.length + k : Nat) : Int)) (pivOr a cols.length c - cols.length) (by omega) (by simp) (fun k hk => ?_) ?_
  · have hlt : cols.length + k < a.length := by omega
    have e1 := idxD (l := a.map prim) [] (show cols.length + k < _ by omega)
    rw [map_getD hlt] at e1
    have e2 := idxD (l := prim (a.getD (cols.length + k) [])) 0 (show c < _ by rw [prim_len, hrows _ hlt]; exact hcn)
    have e3 := h3 (cols.length + k) (by omega) (by omega)
    unfold at2 at e3
    rw [(prim_zero_iff _ _).2 e3] at e2
    unfold m_spec_l9Reduced_L7
    simp only [e1, e2, Option.bind_some, hml]
    rw [decide_eq_true (by omega), cond_true]
    simp only [beq_self_eq_true, Option.bind_some, cond_true]
    rw [w64_succ (by omega)]
    rfl
  · have e0 : ((cols.length + (pivOr a cols.length c - cols.length) : Nat) : Int) = (pivOr a cols.length c : Int) := by omega
    rw [e0]
    unfold m_spec_l9Reduced_L7
    by_cases hlt : pivOr a cols.length c < a.length
    · have e1 := idxD (l := a.map prim) [] (show pivOr a cols.length c < _ by omega)
      rw [map_getD hlt] at e1
      have e2 := idxD (l := prim (a.getD (pivOr a cols.length c) [])) 0 (show c < _ by rw [prim_len, hrows _ hlt]; exact hcn)
      have e3 := h4 hlt
      unfold at2 at e3
      have e4 : (prim (a.getD (pivOr a cols.length c) [])).getD c 0 ≠ 0 := fun e => e3 ((prim_zero_iff _ _).1 e)
      simp only [e1, e2, Option.bind_some, hml]
      rw [decide_eq_true (by omega), cond_true]
      rw [show ((prim (a.getD (pivOr a cols.length c) [])).getD c 0 == 0) = false by simpa using e4]
      rfl
    · simp only [hml]
      rw [decide_eq_false (by omega)]
      rfl
theorem stepS_eq {n : Nat} {a : Mat} {c : Nat} {last : Int} {cols : List Int} {p0 : Int} {out0 : List (List Int)} (hn : n ≤ 1000000) (ha : a.length ≤ 1000000) (hr : cols.length < a.length) (hcn : c < n) (hrows : RowsN n a) (hl : last ≠ 0)
    (hd : at2 a cols.length c ≠ 0) (hb : ∀ i k : Nat, (at2 a i k).natAbs ≤ BB)
    (he : ∀ i, i < a.length → i ≠ cols.length → ∀ k, k < n → last * (elim n (at2 a cols.length c) ((a.getD i []).getD c 0) last (a.getD i []) (a.getD cols.length [])).getD k 0 = at2 a cols.length c * (a.getD i []).getD k 0 - (a.getD i []).getD c 0 * (a.getD cols.length []).getD k 0) :
    loopM (m_spec_l9Reduced_L8 ((c : Int), p0, out0, cols) (prim (a.getD cols.length []))) BIG (0, a.map prim) =
      some ((c : Int), (a.mapIdx fun i row => if i = cols.length then row else elim n (at2 a cols.length c) (row.getD c 0) last row (a.getD cols.length [])).map prim, cols) := by
  generalize hu : (a.mapIdx fun i row => if i = cols.length then row else elim n (at2 a cols.length c) (row.getD c 0) last row (a.getD cols.length [])) = u
  have hul : u.length = a.length := by rw [← hu, List.length_mapIdx]
  have hug : ∀ i, i < a.length → u.getD i [] = if i = cols.length then a.getD i [] else elim n (at2 a cols.length c) ((a.getD i []).getD c 0) last (a.getD i []) (a.getD cols.length []) := fun i hi => by rw [← hu]; exact mapIdx_getD hi
  have hml : (a.map prim).length = a.length := List.length_map ..
  have hmu : (u.map prim).length = (a.map prim).length := by rw [hml, List.length_map, hul]
  refine loopM_run (fun i => ((i : Int), mix (u.map prim) (a.map prim) i)) a.length (by omega) (by simp [mix_zero]) (fun i hi => ?_) ?_
  · have hil : i < (a.map prim).length := by omega
    have hmm := mix_len hmu (i := i) (by omega)
    have hgi : (mix (u.map prim) (a.map prim) i).getD i [] = prim (a.getD i []) := by rw [mix_get [] hmu (by omega), if_neg (by omega), map_getD hi]
    have e1 := idxD (l := mix (u.map prim) (a.map prim) i) [] (show i < _ by omega)
    rw [hgi] at e1
    have e2 := idxD (l := prim (a.getD i [])) 0 (show c < _ by rw [prim_len, hrows i hi]; exact hcn)
    have hui : (u.map prim).getD i [] = prim (u.getD i []) := map_getD (by omega)
    unfold m_spec_l9Reduced_L8
    rw [show decide ((((i : Int), mix (u.map prim) (a.map prim) i) : Int × List (List Int)).1 < ((((i : Int), mix (u.map prim) (a.map prim) i) : Int × List (List Int)).2.length : Int)) = true by simp; omega, cond_true]
    by_cases hir : i = cols.length
    · rw [show (((i : Int), mix (u.map prim) (a.map prim) i).1 != (cols.length : Int)) = false by simp [hir]]
      simp only [cond_false, Option.bind_some, w64_succ (show i ≤ 1099511627776 by omega)]
      rw [mix_skip (d := []) hmu hil (by rw [hui, map_getD hi, hug i hi, if_pos hir])]
    · rw [show (((i : Int), mix (u.map prim) (a.map prim) i).1 != (cols.length : Int)) = true by simp; omega]
      simp only [cond_true, e1, e2, Option.bind_some]
      have hex := he i hi hir
      by_cases hz : (prim (a.getD i [])).getD c 0 = 0
      · rw [hz]
        simp only [bne_self_eq_false, cond_false, Option.bind_some, w64_succ (show i ≤ 1099511627776 by omega)]
        rw [mix_skip (d := []) hmu hil (by
          rw [hui, map_getD hi, hug i hi, if_neg hir]
          exact skip_par (Y := a.getD cols.length []) hl (hrows i hi) hd ((prim_zero_iff _ _).1 hz) hex)]
      · have hw := withoutV_eq (a := prim (a.getD i [])) (row := prim (a.getD cols.length [])) hn hcn (by rw [prim_len, hrows i hi]) (by rw [prim_len, hrows _ hr])
          (fun k => by have := prim_le (a.getD i []) (B := (BB : Int)) (fun k => by have := hb i k; unfold at2 at this; omega) k; omega)
          (fun k => by have := prim_le (a.getD cols.length []) (B := (BB : Int)) (fun k => by have := hb cols.length k; unfold at2 at this; omega) k; omega) (fun e => hd ((prim_zero_iff _ _).1 e))
        rw [show ((prim (a.getD i [])).getD c 0 != 0) = true by simpa using hz]
        simp only [cond_true, hw, Option.bind_some, Int.toNat_natCast, w64_succ (show i ≤ 1099511627776 by omega)]
        rw [mix_set (d := []) hmu hil (by
          rw [hui, hug i hi, if_neg hir]
          exact (without_par (Y := a.getD cols.length []) hl (hrows i hi) (hrows _ hr) hd hcn hex).symm)]
  · have := mix_full hmu
    rw [hml] at this
    unfold m_spec_l9Reduced_L8
    simp only [this]
    rw [decide_eq_false (by rw [List.length_map, hul]; omega), cond_false]
theorem redS_eq {n : Nat} {M : Mat} (hn : n ≤ 1000000) (hM : M.length ≤ 1000000) (hM0 : 0 < M.length) (hrows : RowsN n M) (hT : Tame n M) :
    loopM m_spec_l9Reduced_L6 BIG (0, M.map prim, []) = some ((bred n M n).a.map prim, castL (bred n M n).piv) := by
  have key := loop_inv (b := m_spec_l9Reduced_L6) (s := (0, M.map prim, [])) (fun k s => s = ((k : Int), (bred n M k).a.map prim, castL (bred n M k).piv)) (fun r => r = ((bred n M n).a.map prim, castL (bred n M n).piv)) n (by omega) rfl
    (fun c s hc hs => by
      subst hs
      left
      obtain ⟨M', hI⟩ := bred_inv hrows c (by omega)
      have hB := hT c (by omega)
      have hrow := inv_rowsN hI
      have hal : (bred n M c).a.length = M.length := hI.len
      have hnext : bred n M (c + 1) = bstep n c (bred n M c) := rfl
      have hnz := hI.nz
      have hex := bred_exact hrows hc
      have hrl := hI.rl
      generalize hsd : bred n M c = s at *
      have hml : (s.a.map prim).length = s.a.length := List.length_map ..
      have e0 : idx (s.a.map prim) 0 = some (prim (s.a.getD 0 [])) := by
        have := idxD (l := s.a.map prim) (k := 0) [] (by omega)
        rw [map_getD (by omega)] at this
        exact this
      have hf := findS_eq (n := n) (a := s.a) (c := c) (cols := castL s.piv) (by omega) (by rw [castL_len]; omega) hc hrow
      rw [castL_len] at hf
      unfold m_spec_l9Reduced_L6
      simp only [hml, castL_len]
      rw [decide_eq_true (show (0 : Int) < (s.a.length : Int) by omega), cond_true, e0, Option.bind_some, Option.bind_some, decide_eq_true (show (c : Int) < ((prim (s.a.getD 0 [])).length : Int) by rw [prim_len, hrow 0 (by omega)]; omega), cond_true, hf, Option.bind_some]
      by_cases hlt : s.piv.length < s.a.length
      · cases hp : pivAt s.a s.piv.length c with
        | none =>
          have hpo : pivOr s.a s.piv.length c = s.a.length := by unfold pivOr; rw [hp]; rfl
          have hst : bred n M (c + 1) = s := by
            rw [hnext]
            unfold bstep
            rw [if_pos hlt, hp]
          refine ⟨_, ?_, rfl⟩
          rw [hst, hpo]
          simp only [hml, beq_self_eq_true, cond_true, w64_succ (show c ≤ 1099511627776 by omega)]
        | some p =>
          have hpo : pivOr s.a s.piv.length c = p := by unfold pivOr; rw [hp]; rfl
          obtain ⟨p1, p2, p3, p4⟩ := pivAt_some hp
          rw [hpo]
          have hne : ((p : Int) == (s.a.length : Int)) = false := by simp; omega
          have e1 := idxD (l := s.a.map prim) [] (show p < _ by omega)
          have e2 := idxD (l := s.a.map prim) [] (show s.piv.length < _ by omega)
          have e1' : idx (s.a.map prim) (p : Int) = some (prim (s.a.getD p [])) := by rw [e1, map_getD p2]
          have e3 := idxD (l := (s.a.map prim).set p ((s.a.map prim).getD s.piv.length [])) [] (show s.piv.length < _ by rw [List.length_set]; omega)
          have hsw := swap_map hlt p2
          rw [map_getD p2] at hsw
          have hsl : (swapR s.a s.piv.length p).length = s.a.length := swapR_len ..
          have hrow2 : RowsN n (swapR s.a s.piv.length p) := fun i hi => by
            rw [hsl] at hi
            rw [swapR_get hlt p2]
            split
            · exact hrow _ hlt
            · split
              · exact hrow _ p2
              · exact hrow i hi
          have hpr : (swapR s.a s.piv.length p).getD s.piv.length [] = s.a.getD p [] := by
            rw [swapR_get hlt p2]
            by_cases e : s.piv.length = p
            · rw [if_pos e, e]
            · rw [if_neg e, if_pos rfl]
          have e5 := stepS_eq (a := swapR s.a s.piv.length p) (c := c) (last := s.last) (cols := castL s.piv) (p0 := (p : Int)) (out0 := s.a.map prim) hn (by rw [hsl]; omega) (by rw [castL_len, hsl]; exact hlt) hc hrow2 hnz
            (by rw [castL_len]; unfold at2; rw [hpr]; exact p3) (at2_swap (n := n) hlt p2 hB.ent) (by rw [castL_len, hsl]; exact hex p hp hlt)
          rw [castL_len, hpr] at e5
          have hlim : lim (s.piv.length + ([(c : Int)] : List Int).length) = some () := lim_ok (by simp; omega)
          have hst : bred n M (c + 1) = ⟨(swapR s.a s.piv.length p).mapIdx fun i row => if i = s.piv.length then row else elim n (at2 (swapR s.a s.piv.length p) s.piv.length c) (row.getD c 0) s.last row ((swapR s.a s.piv.length p).getD s.piv.length []), s.piv ++ [c], at2 (swapR s.a s.piv.length p) s.piv.length c⟩ := by
            rw [hnext]
            unfold bstep
            rw [if_pos hlt, hp]
          refine ⟨_, ?_, rfl⟩
          rw [hst]
          simp only [hml, castL_len, hne, cond_false, e1', e2, e3, Option.bind_some, Int.toNat_natCast, hsw, e5, hlim, w64_succ (show c ≤ 1099511627776 by omega), castL_snoc, hpr]
      · have hpo : pivOr s.a s.piv.length c = s.a.length := by
          obtain ⟨q1, q2, _⟩ := pivOr_le (a := s.a) (c := c) (show s.piv.length ≤ s.a.length by omega)
          omega
        have hst : bred n M (c + 1) = s := by
          rw [hnext]
          unfold bstep
          rw [if_neg hlt]
        refine ⟨_, ?_, rfl⟩
        rw [hst, hpo]
        simp only [hml, beq_self_eq_true, cond_true, w64_succ (show c ≤ 1099511627776 by omega)]) (fun s hs => by
      subst hs
      refine ⟨_, ?_, rfl⟩
      obtain ⟨M', hI⟩ := bred_inv hrows n (Nat.le_refl _)
      have hrow := inv_rowsN hI
      have hal : (bred n M n).a.length = M.length := hI.len
      have hml : ((bred n M n).a.map prim).length = (bred n M n).a.length := List.length_map ..
      have e0 : idx ((bred n M n).a.map prim) 0 = some (prim ((bred n M n).a.getD 0 [])) := by
        have := idxD (l := (bred n M n).a.map prim) (k := 0) [] (by omega)
        rw [map_getD (by omega)] at this
        exact this
      unfold m_spec_l9Reduced_L6
      simp only [hml]
      rw [decide_eq_true (show (0 : Int) < ((bred n M n).a.length : Int) by omega), cond_true, e0, Option.bind_some, Option.bind_some, decide_eq_false (by rw [prim_len, hrow 0 (by omega)]; omega)]
      rfl)
  obtain ⟨r, h1, h2⟩ := key
  rw [h1, h2]
theorem reducedS_eq {n : Nat} {M : Mat} (hn : n ≤ 1000000) (hM : M.length ≤ 1000000) (hrows : RowsN n M) (hT : Tame n M) : m_spec_l9Reduced M = some ((bred n M n).a.map prim, castL (bred n M n).piv) := by
  unfold m_spec_l9Reduced
  have e : loopM (m_spec_l9Reduced_L1 M) BIG (0, []) = some (M.map prim) := by
    refine loopM_run (fun k => ((k : Int), (M.take k).map prim)) M.length (by omega) (by simp) (fun k hk => ?_) ?_
    · have e1 := idxD (l := M) [] hk
      have hl : ∀ x : List Int, lim (((M.take k).map prim).length + [x].length) = some () := fun x => lim_ok (by rw [List.length_map, List.length_take]; simp; omega)
      have hr : m_spec_l9Clean (M.getD k []) = some (prim (M.getD k [])) := by
        unfold m_spec_l9Clean
        rw [primS_eq _ (by rw [hrows k hk]; show n ≤ _; omega) (small_of fun j => by have := (hT 0 (Nat.zero_le _)).ent k j; unfold at2 BB at this; exact Nat.le_trans this (by decide))]
        rfl
      unfold m_spec_l9Reduced_L1
      simp only [e1, hr, hl, Option.bind_some, w64_succ (show k ≤ 1099511627776 by omega)]
      rw [decide_eq_true (by omega), cond_true, take_get hk, List.map_append]
      simp [List.getD_eq_getElem?_getD, List.getElem?_eq_getElem hk]
    · unfold m_spec_l9Reduced_L1
      rw [decide_eq_false (by omega), cond_false, List.take_length]
  rw [e, Option.bind_some]
  by_cases h0 : 0 < M.length
  · rw [redS_eq hn hM h0 hrows hT]
    rfl
  · have hM0 : M = [] := List.eq_nil_of_length_eq_zero (by omega)
    subst hM0
    have hs := bred_stop (n := n) (M := []) (c := 0) (by show ¬ (0 < 0); omega) n
    rw [Nat.zero_add] at hs
    rw [hs]
    have : loopM m_spec_l9Reduced_L6 BIG (0, ([] : List (List Int)).map prim, []) = some ([], []) := by
      refine loopM_run (fun _ => (0, [], [])) 0 (by omega) rfl (fun k hk => by omega) rfl
    rw [this]
    rfl
end Go.Proofs.Ytghofbijdnenoaa
end
section
set_option linter.unusedVariables false
set_option linter.unusedSimpArgs false
set_option linter.unnecessarySimpa false
open Go Go.Fw Go.Mx
namespace Go.Proofs.Ytghofbijdnenoaa
section
variable {n : Nat} {M : Mat} {s : BS} {f : Nat}
def prow (s : BS) (i : Nat) : List Int := prim (s.a.getD i [])
end
end Go.Proofs.Ytghofbijdnenoaa
end
section
set_option linter.unusedVariables false
set_option linter.unusedSimpArgs false
set_option linter.unnecessarySimpa false
namespace Go.Mx
theorem dot_comm : ∀ u v : List Int, dot u v = dot v u
  | [], [] => rfl
  | [], _ :: _ => rfl
  | _ :: _, [] => rfl
  | a :: u, b :: v => by
    show a * b + dot u v = b * a + dot v u
    rw [dot_comm u v, Int.mul_comm]
theorem dot_set : ∀ (u y : List Int) (i : Nat) (x : Int), i < u.length → u.length ≤ y.length → dot (u.set i x) y = dot u y + (x - u.getD i 0) * y.getD i 0
  | [], _, _, _, h, _ => by cases h
  | _ :: _, [], _, _, _, h => by simp at h
  | a :: u, b :: y, 0, x, _, _ => by
    show x * b + dot u y = a * b + dot u y + (x - a) * b
    grind
  | a :: u, b :: y, i + 1, x, h1, h2 => by
    have := dot_set u y i x (by simpa using h1) (by simpa using h2)
    show a * b + dot (u.set i x) y = a * b + dot u y + (x - u.getD i 0) * y.getD i 0
    rw [this]
    omega
theorem dot_zero : ∀ (n : Nat) (y : List Int), dot (List.replicate n 0) y = 0
  | 0, _ => by cases ‹List Int› <;> rfl
  | n + 1, [] => rfl
  | n + 1, b :: y => by
    show 0 * b + dot (List.replicate n 0) y = 0
    rw [dot_zero n y]; omega
theorem con_vlin (a b : Int) : ∀ (u v y : List Int) (x : Ext) (m : List Bool), u.length = y.length → v.length = y.length → (∀ k : Nat, y.getD k 0 = a * u.getD k 0 + b * v.getD k 0) → con y x m = a * con u x m + b * con v x m
  | [], [], [], x, m, _, _, _ => by simp [con]
  | t :: u, s :: v, r :: y, x, [], _, _, _ => by simp [con]
  | t :: u, s :: v, r :: y, x, false :: m, h1, h2, h3 => by
    have ih := con_vlin a b u v y (fun m => x (false :: m)) m (by simpa using h1) (by simpa using h2) fun k => by simpa using h3 (k + 1)
    have h0 : r = a * t + b * s := by simpa using h3 0
    show con y (fun m => x (false :: m)) m + r * x (true :: m) = a * (con u (fun m => x (false :: m)) m + t * x (true :: m)) + b * (con v (fun m => x (false :: m)) m + s * x (true :: m))
    rw [ih, h0]
    grind
  | t :: u, s :: v, r :: y, x, true :: m, h1, h2, h3 => by
    have ih := con_vlin a b u v y (fun m => x (true :: m)) m (by simpa using h1) (by simpa using h2) fun k => by simpa using h3 (k + 1)
    show - con y (fun m => x (true :: m)) m = a * (- con u (fun m => x (true :: m)) m) + b * (- con v (fun m => x (true :: m)) m)
    rw [ih]
    grind
  | [], _ :: _, [], _, _, _, h, _ => by cases h
  | _ :: _, [], [], _, _, h, _, _ => by cases h
  | _ :: _, _ :: _, [], _, _, h, _, _ => by cases h
  | [], _, _ :: _, _, _, h, _, _ => by cases h
  | _ :: _, [], _ :: _, _, _, _, h, _ => by cases h
theorem con_om_zero {n : Nat} {y : List Int} (hy : y.length = n) : ∀ (V : List (List Int)), AllL n V → (∀ v ∈ V, dot y v = 0) → ∀ m : List Bool, m.length = n → con y (om V) m = 0
  | [], _, _, m, _ => con_one y m
  | v :: V, hV, h, m, hm => by
    have ih := con_om_zero hy V hV.tail fun v hv => h v (List.mem_cons_of_mem _ hv)
    have h1 := con_wed y v (om V) m (by omega) (by rw [hV.head, hm])
    rw [h v List.mem_cons_self, wed_zero v (con y (om V)) m fun k hk => ih k (by omega)] at h1
    show con y (wed v (om V)) m = 0
    omega
def On (y : List Int) (L : List Nat) : Prop := ∀ k, k ∉ L → y.getD k 0 = 0
theorem On.split {n c : Nat} {y : List Int} {L : List Nat} (hy : y.length = n) (hc : c < n) (h : On y (c :: L)) : On (y.set c 0) L ∧ ∀ k : Nat, y.getD k 0 = y.getD c 0 * (unit n c).getD k 0 + 1 * (y.set c 0).getD k 0 := by
  have hu : ∀ k, (unit n c).getD k 0 = if k = c then 1 else 0 := fun k => by
    by_cases hk : k < n
    · rw [show unit n c = vec n fun i => if i = c then 1 else 0 from rfl, vec_get _ hk]
    · rw [getD_out (by rw [unit_len]; omega), if_neg (by omega)]
  refine ⟨fun k hk => ?_, fun k => ?_⟩
  · rw [getD_set (by omega)]
    by_cases e : c = k
    · rw [if_pos e]
    · rw [if_neg e]
      exact h k (by simp [hk, Ne.symm e])
  · rw [hu, getD_set (by omega)]
    by_cases e : k = c
    · subst e; simp
    · rw [if_neg e, if_neg (Ne.symm e)]; omega
theorem On.nil {y : List Int} (h : On y []) (k : Nat) : y.getD k 0 = 0 := h k (by simp)
theorem On.sp {n : Nat} {V : List (List Int)} (hV : AllL n V) : ∀ (L : List Nat) (y : List Int), y.length = n → (∀ c ∈ L, c < n ∧ unit n c ∈ V) → On y L → Sp n V y
  | [], y, hy, _, h => ⟨hy, fun m _ => by
    rw [wed_vlin 0 0 y y y (om V) m rfl rfl fun k => by rw [h.nil k]; rfl]
    simp⟩
  | c :: L, y, hy, hL, h => by
    obtain ⟨h1, h2⟩ := h.split hy (hL c List.mem_cons_self).1
    have ih := On.sp hV L (y.set c 0) (by simpa using hy) (fun k hk => hL k (List.mem_cons_of_mem _ hk)) h1
    exact Sp.comb (y.getD c 0) 1 (Sp.mem hV (hL c List.mem_cons_self).2) ih hy h2
theorem On.ct {n : Nat} {U : List (List Int)} (hU : AllL n U) : ∀ (L : List Nat) (y : List Int), y.length = n → (∀ c ∈ L, c < n ∧ unit n c ∈ U) → On y L → ∀ z : Ext, sc n (ct U (con y z)) = 0
  | [], y, hy, _, h, z => ((LinF.sc n).ct U).zero _ fun m _ => by
    rw [con_vlin 0 0 y y y z m rfl rfl fun k => by rw [h.nil k]; rfl]
    simp
  | c :: L, y, hy, hL, h, z => by
    obtain ⟨h1, h2⟩ := h.split hy (hL c List.mem_cons_self).1
    have ih := On.ct hU L (y.set c 0) (by simpa using hy) (fun k hk => hL k (List.mem_cons_of_mem _ hk)) h1 z
    have hF := (LinF.sc n).ct U
    have e := hF.congr (con y z) (fun m => y.getD c 0 * con (unit n c) z m + 1 * con (y.set c 0) z m) fun m _ => con_vlin (y.getD c 0) 1 (unit n c) (y.set c 0) y z m (by rw [unit_len, hy]) (by simp) h2
    have h3 : sc n (Mx.ct U (con (unit n c) z)) = 0 := ct_twice (unit_len n c) U z hU (hL c List.mem_cons_self).2
    refine e.trans ((hF.lin _ _ _ _).trans ?_)
    show y.getD c 0 * sc n (Mx.ct U (con (unit n c) z)) + 1 * sc n (Mx.ct U (con (y.set c 0) z)) = 0
    rw [h3, ih]; simp
theorem det_zero_cols {n : Nat} {C : List Nat} {V : List (List Int)} {y : List Int} (hC : ∀ c ∈ C, c < n) (hV : AllL n V) (hy : y.length = n) (hon : On y C) (h : ∀ v ∈ V, dot y v = 0) {k : Nat} (hk : y.getD k 0 ≠ 0) : det n (units n C) V = 0 := by
  have hkn : k < n := Nat.lt_of_not_le fun hle => hk (getD_out (by omega))
  have h1 := On.ct (units_len n C) C y hy (fun c hc => ⟨hC c hc, List.mem_map.2 ⟨c, hc, rfl⟩⟩) hon (wed (unit n k) (om V))
  have hF := (LinF.sc n).ct (units n C)
  have e := hF.congr (con y (wed (unit n k) (om V))) (fun m => dot y (unit n k) * om V m - wed (unit n k) (con y (om V)) m) fun m hm => by
    have := con_wed y (unit n k) (om V) m (by omega) (by rw [unit_len, hm])
    omega
  have h2 : sc n (ct (units n C) (wed (unit n k) (con y (om V)))) = 0 := hF.zero _ fun m hm => wed_zero _ _ m fun j hj => con_om_zero hy V hV h j (by omega)
  have h3 : dot y (unit n k) * det n (units n C) V - sc n (ct (units n C) (wed (unit n k) (con y (om V)))) = 0 := ((e.trans (hF.sub _ _ _)).symm.trans h1)
  rw [h2, dot_comm, dot_unit hy hkn] at h3
  rcases Int.mul_eq_zero.1 (by omega : y.getD k 0 * det n (units n C) V = 0) with e | e
  · exact absurd e hk
  · exact e
theorem two_conds (a1 b1 c1 a2 b2 c2 : Int) : ∃ x y z : Int, (x ≠ 0 ∨ y ≠ 0 ∨ z ≠ 0) ∧ a1 * x + b1 * y + c1 * z = 0 ∧ a2 * x + b2 * y + c2 * z = 0 := by
  by_cases h : b1 * c2 - c1 * b2 ≠ 0 ∨ c1 * a2 - a1 * c2 ≠ 0 ∨ a1 * b2 - b1 * a2 ≠ 0
  · exact ⟨b1 * c2 - c1 * b2, c1 * a2 - a1 * c2, a1 * b2 - b1 * a2, h, by grind, by grind⟩
  · have h1 : b1 * c2 - c1 * b2 = 0 := Classical.byContradiction fun e => h (.inl e)
    have h2 : c1 * a2 - a1 * c2 = 0 := Classical.byContradiction fun e => h (.inr (.inl e))
    have h3 : a1 * b2 - b1 * a2 = 0 := Classical.byContradiction fun e => h (.inr (.inr e))
    by_cases e1 : a1 = 0 ∧ b1 = 0
    · obtain ⟨rfl, rfl⟩ := e1
      by_cases e2 : c1 = 0
      · subst e2
        by_cases e3 : a2 = 0 ∧ b2 = 0
        · obtain ⟨rfl, rfl⟩ := e3
          exact ⟨1, 0, 0, .inl (by decide), by omega, by omega⟩
        · refine ⟨b2, -a2, 0, ?_, by omega, by grind⟩
          by_cases e4 : b2 = 0
          · exact .inr (.inl fun e => e3 ⟨by omega, e4⟩)
          · exact .inl e4
      · have ha2 : a2 = 0 := by
          rcases Int.mul_eq_zero.1 (by omega : c1 * a2 = 0) with e | e
          · exact absurd e e2
          · exact e
        exact ⟨1, 0, 0, .inl (by decide), by omega, by rw [ha2]; omega⟩
    · refine ⟨b1, -a1, 0, ?_, by grind, by grind⟩
      by_cases e4 : b1 = 0
      · exact .inr (.inl fun e => e1 ⟨by omega, e4⟩)
      · exact .inl e4
def Minors (n : Nat) (M : Mat) (B : Nat) : Prop := ∀ (M' : Mat) (C : List Nat), Reord M M' → C.length ≤ M.length → C.Nodup → (∀ c ∈ C, c < n) → (det n (units n C) (rowsB M' C.length)).natAbs ≤ B
theorem at2_out {a : Mat} {i k : Nat} (h : a.length ≤ i) : at2 a i k = 0 := by
  unfold at2
  rw [List.getD_eq_getElem?_getD (l := a), List.getElem?_eq_none h]
  rfl
theorem stage_small {n B : Nat} {M M' : Mat} {c : Nat} {s : BS} (hn : RowsN n M) (hc : c ≤ n) (hm : Minors n M B) (h : BInv n M c s M') : (∀ i k : Nat, (at2 s.a i k).natAbs ≤ B) ∧ s.last.natAbs ≤ B := by
  have hC : ∀ k ∈ s.piv.reverse, k < n := fun k hk => by have := h.pc k (by simpa using hk); omega
  have hnd : s.piv.reverse.Nodup := List.pairwise_reverse.2 (h.nd.imp fun h => h.symm)
  have hrl := h.rl
  have hM'len := h.re.len
  have hn' := h.re.rows hn
  refine ⟨fun i k => ?_, ?_⟩
  · by_cases hi : i < M.length
    · by_cases hlo : s.piv.length ≤ i
      · unfold at2
        rw [h.lo i hlo hi]
        by_cases hk : k < n
        · by_cases hkC : k ∈ s.piv.reverse
          · rw [(arow_isA (C := s.piv.reverse) (rowsB_all hn' (by omega)) (hn' i (by omega))).col k hkC]
            exact Nat.zero_le _
          · rw [arow, vec_get _ hk]
            have hre := h.re.swap (r := s.piv.length) (p := i) (by omega) hi
            have := hm (swapR M' s.piv.length i) (k :: s.piv.reverse) hre (by simp; omega) (List.nodup_cons.2 ⟨hkC, hnd⟩) fun x hx => by
              rcases List.mem_cons.1 hx with rfl | hx
              · exact hk
              · exact hC x hx
            have e : rowsB (swapR M' s.piv.length i) (k :: s.piv.reverse).length = M'.getD i [] :: rowsB M' s.piv.length := by
              rw [List.length_cons, List.length_reverse]
              show (swapR M' s.piv.length i).getD s.piv.length [] :: rowsB (swapR M' s.piv.length i) s.piv.length = _
              congr 1
              · rw [swapR_get (by omega) (by omega)]
                by_cases e : s.piv.length = i
                · rw [if_pos e, e]
                · rw [if_neg e, if_pos rfl]
              · exact rowsB_congr _ fun j hj => by rw [swapR_get (by omega) (by omega), if_neg (by omega), if_neg (by omega)]
            rw [e] at this
            exact this
        · rw [getD_out (by rw [arow, vec_len]; omega)]; exact Nat.zero_le _
      · have hip : i < s.piv.length := by omega
        have hb := h.hi i hip
        by_cases hk : k < n
        · obtain ⟨C1, C2, hsp⟩ : ∃ C1 C2, s.piv.reverse = C1 ++ s.piv[i] :: C2 := List.append_of_mem (List.mem_reverse.2 (List.getElem_mem hip))
          obtain ⟨sg, hsg, hbr⟩ := brow_ex (V := rowsB M' s.piv.length) (n := n) (C1 := C1) (C2 := C2) (c := s.piv[i]) (by rw [← hsp]; exact hC) (by rw [← hsp]; exact hnd) (rowsB_all hn' (by omega))
          rw [← hsp] at hbr
          have e := hb.eq hC (by rw [h.last]; exact h.nz) hbr
          unfold at2
          rw [e, vec_get _ hk]
          have hsa : sg.natAbs = 1 := by
            have := congrArg Int.natAbs hsg
            rw [Int.natAbs_mul] at this
            exact Nat.eq_one_of_mul_eq_one_right this
          rw [Int.natAbs_mul, hsa, Nat.one_mul]
          have hnd2 := hnd
          rw [hsp] at hnd2
          have hC2 : ∀ x ∈ C1 ++ C2, x < n := fun x hx => hC x (by
            rw [hsp]
            rcases List.mem_append.1 hx with h | h
            · exact List.mem_append_left _ h
            · exact List.mem_append_right _ (List.mem_cons_of_mem _ h))
          by_cases hkC : k ∈ C1 ++ C2
          · have : det n (units n (k :: (C1 ++ C2))) (rowsB M' s.piv.length) = 0 := ct_twice (unit_len n k) (units n (C1 ++ C2)) _ (units_len n _) (List.mem_map.2 ⟨k, hkC, rfl⟩)
            rw [this]; exact Nat.zero_le _
          · have hlen : (k :: (C1 ++ C2)).length = s.piv.length := by
              have := congrArg List.length hsp
              simp at this ⊢
              omega
            have := hm M' (k :: (C1 ++ C2)) h.re (by omega) (List.nodup_cons.2 ⟨hkC, by
              have := List.nodup_append.1 hnd2
              refine List.nodup_append.2 ⟨this.1, (List.nodup_cons.1 this.2.1).2, fun a ha b hb => this.2.2 a ha b (List.mem_cons_of_mem _ hb)⟩⟩) fun x hx => by
              rcases List.mem_cons.1 hx with rfl | hx
              · exact hk
              · exact hC2 x hx
            rw [hlen] at this
            exact this
        · unfold at2
          rw [getD_out (by rw [hb.len]; omega)]; exact Nat.zero_le _
    · rw [at2_out (by rw [h.len]; omega)]; exact Nat.zero_le _
  · rw [← h.last]
    have := hm M' s.piv.reverse h.re (by simpa using hrl) hnd hC
    rw [List.length_reverse] at this
    exact this
end Go.Mx
end
section
set_option linter.unusedVariables false
set_option linter.unusedSimpArgs false
set_option linter.unnecessarySimpa false
namespace Go.Mx
theorem nodup_le : ∀ (N : Nat) (l : List Nat), l.Nodup → (∀ x ∈ l, x < N) → l.length ≤ N
  | 0, [], _, _ => Nat.le_refl _
  | 0, x :: l, _, h => by have := h x List.mem_cons_self; omega
  | N + 1, l, hn, h => by
    have h1 : (l.erase N).Nodup := hn.erase N
    have ih := nodup_le N (l.erase N) h1 fun x hx => by
      have := (hn.mem_erase_iff).1 hx
      have := h x this.2
      omega
    by_cases hm : N ∈ l
    · rw [List.length_erase_of_mem hm] at ih; omega
    · rw [List.erase_of_not_mem hm] at ih; omega
theorem one_missing {N : Nat} {l : List Nat} (hn : l.Nodup) (h : ∀ x ∈ l, x < N) (hl : N ≤ l.length + 1) : ∃ k0, ∀ k, k < N → k ∉ l → k = k0 := by
  by_cases hx : ∃ k0, k0 < N ∧ k0 ∉ l
  · obtain ⟨k0, h1, h2⟩ := hx
    refine ⟨k0, fun k hk hkl => ?_⟩
    by_cases e : k = k0
    · exact e
    · have := nodup_le N (k :: k0 :: l) (List.nodup_cons.2 ⟨by simp [e, hkl], List.nodup_cons.2 ⟨h2, hn⟩⟩) fun x hx => by
        rcases List.mem_cons.1 hx with rfl | hx
        · exact hk
        · rcases List.mem_cons.1 hx with rfl | hx
          · exact h1
          · exact h x hx
      simp at this
      omega
  · exact ⟨0, fun k hk hkl => absurd ⟨k, hk, hkl⟩ hx⟩
theorem abs_le_of_sq {a : Int} {B : Nat} (h : a * a ≤ (B : Int) * B) : a.natAbs ≤ B := by
  refine Nat.le_of_not_lt fun hlt => ?_
  have h1 : (B + 1) * (B + 1) ≤ a.natAbs * a.natAbs := Nat.mul_le_mul hlt hlt
  have h2 : ((a.natAbs * a.natAbs : Nat) : Int) = a * a := by rw [← Int.natAbs_mul]; have := sq_nonneg a; omega
  have h3 : ((B + 1) * (B + 1) : Nat) = B * B + 2 * B + 1 := by grind
  have h4 : ((B * B : Nat) : Int) = (B : Int) * B := Int.natCast_mul ..
  omega
theorem prod2_le {c : Int} (hc : 0 ≤ c) : ∀ (V : List (List Int)), (∀ v ∈ V, dot v v ≤ c) → prod2 V ≤ c ^ V.length
  | [], _ => by show (1 : Int) ≤ c ^ 0; simp
  | v :: V, h => by
    have ih := prod2_le hc V fun v hv => h v (List.mem_cons_of_mem _ hv)
    show dot v v * prod2 V ≤ c ^ (V.length + 1)
    rw [Int.pow_succ, Int.mul_comm]
    exact Int.mul_le_mul ih (h v List.mem_cons_self) (dot_self v) (Int.le_trans (prod2_nonneg V) ih)
theorem pow64 {r : Nat} (h : r ≤ 10) : (64 : Int) ^ r ≤ 1073741824 * 1073741824 := by
  have h1 : (64 : Nat) ^ r ≤ 64 ^ 10 := Nat.pow_le_pow_right (by decide) h
  have h2 : ((64 : Nat) ^ 10 : Nat) = 1073741824 * 1073741824 := by decide
  have h3 : (((64 : Nat) ^ r : Nat) : Int) = (64 : Int) ^ r := by simp
  omega
def yv (N : Nat) (X Y : Nat → Int) (a b g : Int) : List Int := vec N fun k => if k % 2 = 0 then a - g * Y (k / 2) else b + g * X (k / 2)
structure RigB (N : Nat) (B : Mat) (X Y : Nat → Int) : Prop where
  len : ∀ v ∈ B, v.length = N
  sq : ∀ v ∈ B, dot v v ≤ 64
  kill : ∀ v ∈ B, ∀ a b g, dot v (yv N X Y a b g) = 0
  nz : B ≠ [] → ∀ a b g : Int, (a ≠ 0 ∨ b ≠ 0 ∨ g ≠ 0) → ∃ k, (yv N X Y a b g).getD k 0 ≠ 0
  n12 : N ≤ 12
section
variable {N : Nat} {B : Mat} {X Y : Nat → Int}
theorem yv_at (k : Nat) : ∃ p q r : Int, ∀ a b g, p * a + q * b + r * g = 0 → (yv N X Y a b g).getD k 0 = 0 := by
  by_cases hk : k < N
  · by_cases h : k % 2 = 0
    · exact ⟨1, 0, - Y (k / 2), fun a b g e => by rw [yv, vec_get _ hk, if_pos h]; grind⟩
    · exact ⟨0, 1, X (k / 2), fun a b g e => by rw [yv, vec_get _ hk, if_neg h]; grind⟩
  · exact ⟨0, 0, 0, fun a b g _ => getD_out (by rw [yv, vec_len]; omega)⟩
theorem RigB.minors (h : RigB N B X Y) : Minors N B 2000000000 := fun M' C hre hCl hnd hC => by
  have hrows : RowsN N B := fun i hi => h.len _ (by rw [List.getD_eq_getElem?_getD, List.getElem?_eq_getElem hi]; exact List.getElem_mem hi)
  have hmem : ∀ v ∈ rowsB M' C.length, v ∈ B := fun v hv => by
    obtain ⟨i, hi, rfl⟩ := rowsB_mem hv
    obtain ⟨⟨f, f1, f2, f3⟩, hl⟩ := hre
    rw [f3 i (by omega), List.getD_eq_getElem?_getD, List.getElem?_eq_getElem (f1 i (by omega))]
    exact List.getElem_mem _
  have hVL : AllL N (rowsB M' C.length) := fun v hv => h.len v (hmem v hv)
  by_cases h10 : C.length ≤ 10
  · have h1 := det_sq hC hVL
    have h2 := prod2_le (c := 64) (by decide) _ fun v hv => h.sq v (hmem v hv)
    rw [rowsB_len] at h2
    have h3 := pow64 h10
    exact Nat.le_trans (abs_le_of_sq (B := 1073741824) (Int.le_trans h1 (Int.le_trans h2 h3))) (by decide)
  · have hCN := nodup_le N C hnd hC
    have hn12 := h.n12
    obtain ⟨k0, hk0⟩ := one_missing hnd hC (by omega)
    obtain ⟨p, q, r, hy⟩ := yv_at (N := N) (X := X) (Y := Y) k0
    obtain ⟨a, b, g, hne, e1, _⟩ := two_conds p q r 0 0 0
    have hB : B ≠ [] := fun e => by
      have : C.length ≤ 0 := by rw [e] at hCl; exact hCl
      omega
    obtain ⟨k, hk⟩ := h.nz hB a b g hne
    have := det_zero_cols (y := yv N X Y a b g) hC hVL (vec_len ..) (fun j hj => by
      by_cases hjN : j < N
      · rw [hk0 j hjN hj]; exact hy a b g e1
      · exact getD_out (by rw [yv, vec_len]; omega)) (fun v hv => by rw [dot_comm]; exact h.kill v (hmem v hv) a b g) hk
    rw [this]
    exact Nat.zero_le _
end
def rrow (N i j : Nat) (dx dy : Int) : List Int := ((((List.replicate N 0).set i dx).set (i + 1) dy).set j (-dx)).set (j + 1) (-dy)
theorem rrow_len (N i j : Nat) (dx dy : Int) : (rrow N i j dx dy).length = N := by simp [rrow]
theorem rrow_dot {N i j : Nat} {dx dy : Int} {y : List Int} (hy : y.length = N) (h1 : i + 1 < j) (h2 : j + 1 < N) : dot (rrow N i j dx dy) y = dx * y.getD i 0 + dy * y.getD (i + 1) 0 - dx * y.getD j 0 - dy * y.getD (j + 1) 0 := by
  have g0 : ∀ k, (List.replicate N (0 : Int)).getD k 0 = 0 := fun k => by
    simp only [List.getD_eq_getElem?_getD, List.getElem?_replicate]
    split <;> rfl
  unfold rrow
  rw [dot_set _ _ _ _ (by simp; omega) (by simp; omega), dot_set _ _ _ _ (by simp; omega) (by simp; omega), dot_set _ _ _ _ (by simp; omega) (by simp; omega), dot_set _ _ _ _ (by simp; omega) (by simp; omega), dot_zero,
    getD_set (by simp; omega), if_neg (by omega), getD_set (by simp; omega), if_neg (by omega), getD_set (by simp; omega), if_neg (by omega), g0, getD_set (by simp; omega), if_neg (by omega), getD_set (by simp; omega), if_neg (by omega), g0,
    getD_set (by simp; omega), if_neg (by omega), g0, g0]
  grind
theorem rrow_get {N i j : Nat} {dx dy : Int} (h1 : i + 1 < j) (h2 : j + 1 < N) : (rrow N i j dx dy).getD i 0 = dx ∧ (rrow N i j dx dy).getD (i + 1) 0 = dy ∧ (rrow N i j dx dy).getD j 0 = -dx ∧ (rrow N i j dx dy).getD (j + 1) 0 = -dy := by
  unfold rrow
  refine ⟨?_, ?_, ?_, ?_⟩
  · rw [getD_set (by simp; omega), if_neg (by omega), getD_set (by simp; omega), if_neg (by omega), getD_set (by simp; omega), if_neg (by omega), getD_set (by simp; omega), if_pos rfl]
  · rw [getD_set (by simp; omega), if_neg (by omega), getD_set (by simp; omega), if_neg (by omega), getD_set (by simp; omega), if_pos rfl]
  · rw [getD_set (by simp; omega), if_neg (by omega), getD_set (by simp; omega), if_pos rfl]
  · rw [getD_set (by simp; omega), if_pos rfl]
theorem rrow_sq {N i j : Nat} {dx dy : Int} (h1 : i + 1 < j) (h2 : j + 1 < N) : dot (rrow N i j dx dy) (rrow N i j dx dy) = 2 * (dx * dx + dy * dy) := by
  obtain ⟨a, b, c, d⟩ := rrow_get (N := N) (dx := dx) (dy := dy) h1 h2
  rw [rrow_dot (rrow_len ..) h1 h2, a, b, c, d]
  grind
end Go.Mx
end
section
set_option linter.unusedVariables false
set_option linter.unusedSimpArgs false
set_option linter.unnecessarySimpa false
open Go Go.Fw Go.Mx
namespace Go.Proofs.Ytghofbijdnenoaa
theorem tame_of {n : Nat} {M : Mat} (hn : RowsN n M) (hm : Minors n M 2000000000) : Tame n M := fun c hc => by
  obtain ⟨M', h⟩ := bred_inv hn c hc
  obtain ⟨h1, h2⟩ := stage_small hn hc hm h
  exact ⟨h1, h2⟩
def nC (f : TFramework) : Nat := 2 * f.Graph.Points.toNat
def rowOf (f : TFramework) (b : TBar) : List Int := rrow (nC f) (2 * b.A.toNat) (2 * b.B.toNat) ((plAt f b.A).X - (plAt f b.B).X) ((plAt f b.A).Y - (plAt f b.B).Y)
def rigM (f : TFramework) : Mat := f.Graph.Bars.map (rowOf f)
section
variable {f : TFramework}
theorem rigM_len : (rigM f).length = f.Graph.Bars.length := by simp [rigM]
theorem mem_bar {b : TBar} (h : b ∈ f.Graph.Bars) : ∃ k : Nat, f.Graph.Bars[k]? = some b := List.mem_iff_getElem?.1 h
theorem sq16 {x : Int} (h1 : -4 ≤ x) (h2 : x ≤ 4) : x * x ≤ 16 := by
  have : x = -4 ∨ x = -3 ∨ x = -2 ∨ x = -1 ∨ x = 0 ∨ x = 1 ∨ x = 2 ∨ x = 3 ∨ x = 4 := by omega
  rcases this with h | h | h | h | h | h | h | h | h <;> subst h <;> decide
theorem bar_pos (h : VF f) {k : Nat} {b : TBar} (hb : f.Graph.Bars[k]? = some b) : 2 * b.A.toNat + 1 < 2 * b.B.toNat ∧ 2 * b.B.toNat + 1 < nC f := by
  have a0 := h.g.a0 hb
  have ab := h.g.ab hb
  have bp := h.g.bp hb
  unfold nC
  omega
theorem rigB (h : VF f) : RigB (nC f) (rigM f) (fun k => (plAt f (k : Int)).X) (fun k => (plAt f (k : Int)).Y) := by
  have key : ∀ v ∈ rigM f, ∃ (k : Nat) (b : TBar), f.Graph.Bars[k]? = some b ∧ v = rowOf f b := fun v hv => by
    obtain ⟨b, hb, rfl⟩ := List.mem_map.1 hv
    obtain ⟨k, hk⟩ := mem_bar hb
    exact ⟨k, b, hk, rfl⟩
  have yat : ∀ (a b g : Int) (v : Nat), 2 * v + 1 < nC f → (yv (nC f) (fun k => (plAt f (k : Int)).X) (fun k => (plAt f (k : Int)).Y) a b g).getD (2 * v) 0 = a - g * (plAt f (v : Int)).Y ∧ (yv (nC f) (fun k => (plAt f (k : Int)).X) (fun k => (plAt f (k : Int)).Y) a b g).getD (2 * v + 1) 0 = b + g * (plAt f (v : Int)).X := fun a b g v hv => by
    unfold yv
    rw [vec_get _ (by omega), vec_get _ hv, if_pos (by omega), if_neg (by omega), show 2 * v / 2 = v by omega, show (2 * v + 1) / 2 = v by omega]
    exact ⟨rfl, rfl⟩
  refine ⟨fun v hv => ?_, fun v hv => ?_, fun v hv a b g => ?_, fun hne a b g habg => ?_, ?_⟩
  · obtain ⟨k, b, hb, rfl⟩ := key v hv
    exact rrow_len ..
  · obtain ⟨k, b, hb, rfl⟩ := key v hv
    obtain ⟨p1, p2⟩ := bar_pos h hb
    have a0 := h.g.a0 hb
    have ab := h.g.ab hb
    have bp := h.g.bp hb
    have ga := h.pl_grid (v := b.A) (by omega) (by omega)
    have gb := h.pl_grid (v := b.B) (by omega) (by omega)
    unfold rowOf
    rw [rrow_sq p1 p2]
    have := sq16 (x := (plAt f b.A).X - (plAt f b.B).X) (by omega) (by omega)
    have := sq16 (x := (plAt f b.A).Y - (plAt f b.B).Y) (by omega) (by omega)
    omega
  · obtain ⟨k, x, hb, rfl⟩ := key v hv
    obtain ⟨p1, p2⟩ := bar_pos h hb
    have a0 := h.g.a0 hb
    have ab := h.g.ab hb
    obtain ⟨y1, y2⟩ := yat a b g x.A.toNat (by omega)
    obtain ⟨y3, y4⟩ := yat a b g x.B.toNat (by omega)
    rw [Int.toNat_of_nonneg a0] at y1 y2
    rw [Int.toNat_of_nonneg (show 0 ≤ x.B by omega)] at y3 y4
    unfold rowOf
    rw [rrow_dot (by rw [yv, vec_len]) p1 p2, y1, y2, y3, y4]
    grind
  · refine Classical.byContradiction fun hno => ?_
    have hz : ∀ k, (yv (nC f) (fun k => (plAt f (k : Int)).X) (fun k => (plAt f (k : Int)).Y) a b g).getD k 0 = 0 := fun k => Classical.byContradiction fun e => hno ⟨k, e⟩
    obtain ⟨v, hv⟩ := List.exists_mem_of_ne_nil _ hne
    obtain ⟨k, x, hb, rfl⟩ := key v hv
    obtain ⟨p1, p2⟩ := bar_pos h hb
    have a0 := h.g.a0 hb
    have ab := h.g.ab hb
    obtain ⟨y1, y2⟩ := yat a b g x.A.toNat (by omega)
    obtain ⟨y3, y4⟩ := yat a b g x.B.toNat (by omega)
    rw [Int.toNat_of_nonneg a0, hz] at y1 y2
    rw [Int.toNat_of_nonneg (show 0 ≤ x.B by omega), hz] at y3 y4
    have hdif := h.dif hb
    have e1 : g * ((plAt f x.A).X - (plAt f x.B).X) = 0 := by grind
    have e2 : g * ((plAt f x.A).Y - (plAt f x.B).Y) = 0 := by grind
    have hg : g = 0 := by
      rcases Int.mul_eq_zero.1 e1 with e | e
      · exact e
      · rcases Int.mul_eq_zero.1 e2 with e' | e'
        · exact e'
        · have h1 : (plAt f x.A).X = (plAt f x.B).X := by omega
          have h2 : (plAt f x.A).Y = (plAt f x.B).Y := by omega
          rw [h1, h2] at hdif
          simp [eqI] at hdif
    subst hg
    have : a = 0 := by omega
    have : b = 0 := by omega
    omega
  · have := h.p6
    unfold nC
    omega
theorem rigRows (h : VF f) : RowsN (nC f) (rigM f) := fun i hi => (rigB h).len _ (by rw [List.getD_eq_getElem?_getD, List.getElem?_eq_getElem hi]; exact List.getElem_mem hi)
theorem rigTame (h : VF f) : Tame (nC f) (rigM f) := tame_of (rigRows h) (rigB h).minors
theorem w64_2p (h : VF f) : w64 (2 * f.Graph.Points) = ((nC f : Nat) : Int) := by
  have := h.p6
  have := h.g.p1
  unfold nC
  rw [w64_small (by omega) (by omega)]
  omega
theorem rigI_eq (h0 : SM f.Graph.Bars.length) (h1 : SM f.Places.length) : m_impl_RigidityMatrix f = some (bif vF f then rigM f else []) := by
  unfold m_impl_RigidityMatrix
  rw [isFI_eq f h0 h1, Option.bind_some]
  cases hv : vF f with
  | false => rfl
  | true =>
    have h := vF_VF hv
    have hp6 := h.p6
    have hlen := h.len
    have hL : loopM (m_impl_RigidityMatrix_L1 f) BIG (0, []) = some (rigM f) := by
      refine loopM_run (fun k => ((k : Int), (rigM f).take k)) f.Graph.Bars.length (by omega) (by simp) (fun k hk => ?_) ?_
      · have hx := List.getElem?_eq_getElem hk
        have a0 := h.g.a0 hx
        have ab := h.g.ab hx
        have bp := h.g.bp hx
        obtain ⟨p1, p2⟩ := bar_pos h hx
        have ga := h.pl_grid (v := f.Graph.Bars[k].A) (by omega) (by omega)
        have gb := h.pl_grid (v := f.Graph.Bars[k].B) (by omega) (by omega)
        have hn12 : nC f ≤ 12 := by unfold nC; omega
        have w1 : w64 (2 * f.Graph.Bars[k].A) = ((2 * f.Graph.Bars[k].A.toNat : Nat) : Int) := by rw [w64_small (by omega) (by omega)]; omega
        have w2 : w64 (2 * f.Graph.Bars[k].B) = ((2 * f.Graph.Bars[k].B.toNat : Nat) : Int) := by rw [w64_small (by omega) (by omega)]; omega
        have w3 : w64 ((plAt f f.Graph.Bars[k].A).X - (plAt f f.Graph.Bars[k].B).X) = (plAt f f.Graph.Bars[k].A).X - (plAt f f.Graph.Bars[k].B).X := w64_small (by omega) (by omega)
        have w4 : w64 ((plAt f f.Graph.Bars[k].A).Y - (plAt f f.Graph.Bars[k].B).Y) = (plAt f f.Graph.Bars[k].A).Y - (plAt f f.Graph.Bars[k].B).Y := w64_small (by omega) (by omega)
        have w5 : w64 ((plAt f f.Graph.Bars[k].B).X - (plAt f f.Graph.Bars[k].A).X) = -((plAt f f.Graph.Bars[k].A).X - (plAt f f.Graph.Bars[k].B).X) := by rw [w64_small (by omega) (by omega)]; omega
        have w6 : w64 ((plAt f f.Graph.Bars[k].B).Y - (plAt f f.Graph.Bars[k].A).Y) = -((plAt f f.Graph.Bars[k].A).Y - (plAt f f.Graph.Bars[k].B).Y) := by rw [w64_small (by omega) (by omega)]; omega
        have hlim : lim (((rigM f).take k).length + 1) = some () := lim_ok (by rw [List.length_take]; omega)
        unfold m_impl_RigidityMatrix_L1
        rw [decide_eq_true (by omega), cond_true, idx_at hk, Option.bind_some, w64_2p h, lenOk_ok (by omega) (by omega), Option.bind_some, h.pl_in (by omega) (by omega), Option.bind_some, h.pl_in (by omega) (by omega), Option.bind_some]
        simp only [w1, w2, w3, w4, w5, w6, Int.toNat_natCast, w64_succ (show 2 * f.Graph.Bars[k].A.toNat ≤ 1099511627776 by omega), w64_succ (show 2 * f.Graph.Bars[k].B.toNat ≤ 1099511627776 by omega), hlim]
        rw [idxD 0 (by simp; omega), Option.bind_some, idxD 0 (by simp; omega), Option.bind_some, idxD 0 (by simp; omega), Option.bind_some, idxD 0 (by simp; omega), Option.bind_some, Option.bind_some, take_get (show k < (rigM f).length by rw [rigM_len]; exact hk), w64_succ (by omega)]
        simp only [rigM, List.getElem_map]
        rfl
      · unfold m_impl_RigidityMatrix_L1
        rw [decide_eq_false (by omega), cond_false, List.take_of_length_le (by rw [rigM_len]; exact Nat.le_refl _)]
    simp only [Bool.not_true, cond_false, cond_true, hL]
    rfl
theorem rigS_eq (h0 : SM f.Graph.Bars.length) (h1 : SM f.Places.length) : m_spec_RigidityMatrix f = some (bif vF f then rigM f else []) := by
  unfold m_spec_RigidityMatrix
  cases hv : vF f with
  | false =>
    have hL : loopM (m_spec_RigidityMatrix_L1 f) BIG (0, []) = some [] := by
      refine loopM_run (fun _ => (0, [])) 0 (by omega) rfl (fun k hk => by omega) ?_
      unfold m_spec_RigidityMatrix_L1
      simp only [isFS_eq f h0 h1, hv, Option.bind_some]
      cases decide ((0 : Int) < (f.Graph.Bars.length : Int)) <;> rfl
    rw [hL]; rfl
  | true =>
    have h := vF_VF hv
    have hp6 := h.p6
    have hlen := h.len
    have hL : loopM (m_spec_RigidityMatrix_L1 f) BIG (0, []) = some (rigM f) := by
      refine loopM_run (fun k => ((k : Int), (rigM f).take k)) f.Graph.Bars.length (by omega) (by simp) (fun k hk => ?_) ?_
      · have hx := List.getElem?_eq_getElem hk
        have a0 := h.g.a0 hx
        have ab := h.g.ab hx
        have bp := h.g.bp hx
        obtain ⟨p1, p2⟩ := bar_pos h hx
        have ga := h.pl_grid (v := f.Graph.Bars[k].A) (by omega) (by omega)
        have gb := h.pl_grid (v := f.Graph.Bars[k].B) (by omega) (by omega)
        have hn12 : nC f ≤ 12 := by unfold nC; omega
        have w1 : w64 (2 * f.Graph.Bars[k].A) = ((2 * f.Graph.Bars[k].A.toNat : Nat) : Int) := by rw [w64_small (by omega) (by omega)]; omega
        have w2 : w64 (2 * f.Graph.Bars[k].B) = ((2 * f.Graph.Bars[k].B.toNat : Nat) : Int) := by rw [w64_small (by omega) (by omega)]; omega
        have w3 : w64 ((plAt f f.Graph.Bars[k].A).X - (plAt f f.Graph.Bars[k].B).X) = (plAt f f.Graph.Bars[k].A).X - (plAt f f.Graph.Bars[k].B).X := w64_small (by omega) (by omega)
        have w4 : w64 ((plAt f f.Graph.Bars[k].A).Y - (plAt f f.Graph.Bars[k].B).Y) = (plAt f f.Graph.Bars[k].A).Y - (plAt f f.Graph.Bars[k].B).Y := w64_small (by omega) (by omega)
        have w5 : w64 (-((plAt f f.Graph.Bars[k].A).X - (plAt f f.Graph.Bars[k].B).X)) = -((plAt f f.Graph.Bars[k].A).X - (plAt f f.Graph.Bars[k].B).X) := w64_small (by omega) (by omega)
        have w6 : w64 (-((plAt f f.Graph.Bars[k].A).Y - (plAt f f.Graph.Bars[k].B).Y)) = -((plAt f f.Graph.Bars[k].A).Y - (plAt f f.Graph.Bars[k].B).Y) := w64_small (by omega) (by omega)
        have hlim : ∀ x : List Int, lim (((rigM f).take k).length + [x].length) = some () := fun x => lim_ok (by rw [List.length_take]; simp; omega)
        unfold m_spec_RigidityMatrix_L1
        rw [decide_eq_true (show (k : Int) < (f.Graph.Bars.length : Int) by omega), cond_true, isFS_eq f h0 h1, hv, Option.bind_some, Option.bind_some, cond_true, idx_at hk, Option.bind_some, w64_2p h, lenOk_ok (by omega) (by omega), Option.bind_some, h.pl_in (by omega) (by omega), Option.bind_some, h.pl_in (by omega) (by omega), Option.bind_some, Option.bind_some, Option.bind_some]
        simp only [w1, w2, w3, w4, w5, w6, Int.toNat_natCast, w64_succ (show 2 * f.Graph.Bars[k].A.toNat ≤ 1099511627776 by omega), w64_succ (show 2 * f.Graph.Bars[k].B.toNat ≤ 1099511627776 by omega), hlim]
        rw [idxD 0 (by simp; omega), Option.bind_some, idxD 0 (by simp; omega), Option.bind_some, idxD 0 (by simp; omega), Option.bind_some, idxD 0 (by simp; omega), Option.bind_some, Option.bind_some, take_get (show k < (rigM f).length by rw [rigM_len]; exact hk), w64_succ (by omega)]
        simp only [rigM, List.getElem_map]
        rfl
      · unfold m_spec_RigidityMatrix_L1
        rw [decide_eq_false (by omega), cond_false, List.take_of_length_le (by rw [rigM_len]; exact Nat.le_refl _)]
        rfl
    rw [hL]; rfl
end
theorem nC_le {f : TFramework} (h : VF f) : nC f ≤ 12 := by have := h.p6; unfold nC; omega
def frank (f : TFramework) : Int := bif vF f then ((bred (nC f) (rigM f) (nC f)).piv.length : Int) else -1
section
variable (f : TFramework) (h0 : SM f.Graph.Bars.length) (h1 : SM f.Places.length)
include h0 h1
theorem frankI_eq : m_impl_FrameworkRank f = some (frank f) := by
  unfold m_impl_FrameworkRank frank
  rw [isFI_eq f h0 h1, rigI_eq h0 h1, Option.bind_some]
  cases hv : vF f with
  | false => rfl
  | true =>
    have h := vF_VF hv
    have hn := nC_le h
    have hl := h.len
    simp only [Bool.not_true, cond_false, cond_true, Option.bind_some, w64_2p h, m_impl_rank, reducedI_eq (show nC f ≤ 1000000 by omega) (show (rigM f).length ≤ 1000000 by rw [rigM_len]; omega) (rigRows h) (rigTame h), castL_len]
theorem frankS_eq : m_spec_FrameworkRank f = some (frank f) := by
  unfold m_spec_FrameworkRank frank
  rw [isFS_eq f h0 h1, rigS_eq h0 h1, Option.bind_some]
  cases hv : vF f with
  | false => rfl
  | true =>
    have h := vF_VF hv
    have hn := nC_le h
    have hl := h.len
    simp only [Bool.not_true, cond_false, cond_true, Option.bind_some, reducedS_eq (show nC f ≤ 1000000 by omega) (show (rigM f).length ≤ 1000000 by rw [rigM_len]; omega) (rigRows h) (rigTame h), castL_len]
end
section
variable (f : TFramework) (h0 : SM f.Graph.Bars.length) (h1 : SM f.Places.length)
include h0 h1
end
end Go.Proofs.Ytghofbijdnenoaa
end
section
set_option linter.unusedVariables false
set_option linter.unusedSimpArgs false
set_option linter.unnecessarySimpa false
open Go Go.Fw
namespace Go.Proofs.Ytghofbijdnenoaa
theorem loop_inv2 {σ σ' τ τ' : Type} {b : σ → Option (σ ⊕ τ)} {b' : σ' → Option (σ' ⊕ τ')} {s : σ} {s' : σ'} (I : Nat → σ → σ' → Prop) (Q : τ → τ' → Prop) (n : Nat) (hn : n ≤ 1099511627776) (h0 : I 0 s s')
    (h : ∀ k s s', k < n → I k s s' → (∃ t t', b s = some (.inl t) ∧ b' s' = some (.inl t') ∧ I (k + 1) t t') ∨ ∃ r r', b s = some (.inr r) ∧ b' s' = some (.inr r') ∧ Q r r')
    (hr : ∀ s s', I n s s' → ∃ r r', b s = some (.inr r) ∧ b' s' = some (.inr r') ∧ Q r r') : ∃ r r', loopM b BIG s = some r ∧ loopM b' BIG s' = some r' ∧ Q r r' := by
  have go : ∀ (j k f : Nat) (s : σ) (s' : σ'), k + j = n → j < f → I k s s' → ∃ r r', loopM b f s = some r ∧ loopM b' f s' = some r' ∧ Q r r' := by
    intro j
    induction j with
    | zero =>
      intro k f s s' hk hf hi
      obtain ⟨f, rfl⟩ : ∃ g, f = g + 1 := ⟨f - 1, by omega⟩
      have : k = n := by omega
      subst this
      obtain ⟨r, r', h1, h2, h3⟩ := hr s s' hi
      exact ⟨r, r', by unfold loopM; rw [h1], by unfold loopM; rw [h2], h3⟩
    | succ j ih =>
      intro k f s s' hk hf hi
      obtain ⟨f, rfl⟩ : ∃ g, f = g + 1 := ⟨f - 1, by omega⟩
      rcases h k s s' (by omega) hi with ⟨t, t', h1, h2, h3⟩ | ⟨r, r', h1, h2, h3⟩
      · obtain ⟨r, r', h4, h5, h6⟩ := ih (k + 1) f t t' (by omega) (by omega) h3
        exact ⟨r, r', by unfold loopM; rw [h1]; exact h4, by unfold loopM; rw [h2]; exact h5, h6⟩
      · exact ⟨r, r', by unfold loopM; rw [h1], by unfold loopM; rw [h2], h3⟩
  exact go n 0 BIG s s' (by omega) (BIG_gt hn) h0
structure GB (P : Int) (bars : List TBar) : Prop where
  p1 : 1 ≤ P
  p8 : P ≤ 8
  len : bars.length ≤ 1000
  a0 : ∀ {k : Nat} {x : TBar}, bars[k]? = some x → 0 ≤ x.A
  ab : ∀ {k : Nat} {x : TBar}, bars[k]? = some x → x.A ≠ x.B
  b0 : ∀ {k : Nat} {x : TBar}, bars[k]? = some x → 0 ≤ x.B
  ap : ∀ {k : Nat} {x : TBar}, bars[k]? = some x → x.A < P
  bp : ∀ {k : Nat} {x : TBar}, bars[k]? = some x → x.B < P
theorem VG.gb {g : TGraph} (h : VG g) : GB g.Points g.Bars :=
  ⟨h.p1, h.p8, by have := h.len; omega, h.a0, fun hx => by have := h.ab hx; omega, fun hx => by have := h.a0 hx; have := h.ab hx; omega, fun hx => by have := h.ab hx; have := h.bp hx; omega, h.bp⟩
def pbar (bars : List TBar) (p : TPebbles) (i : Nat) : TBar := ((p.Placed[i]?).bind fun e => bars[e.toNat]?).getD ⟨0, 0⟩
structure PB (P : Int) (bars : List TBar) (k : Int) (m : Nat) (p : TPebbles) : Prop where
  k1 : 1 ≤ k
  k3 : k ≤ 3
  fl : (p.Free.length : Int) = P
  tl : p.Tails.length = p.Placed.length
  pl : p.Placed.length ≤ m
  pr : ∀ {i : Nat} {e : Int}, p.Placed[i]? = some e → 0 ≤ e ∧ e < (bars.length : Int) ∧ e < (m : Int)
  inc : ∀ {i : Nat} {e e' : Int}, p.Placed[i]? = some e → p.Placed[i + 1]? = some e' → e < e'
  ends : ∀ {i : Nat} {t : Int}, p.Tails[i]? = some t → t = (pbar bars p i).A ∨ t = (pbar bars p i).B
  fr : ∀ {v : Nat} {f : Int}, p.Free[v]? = some f → 0 ≤ f ∧ f + (p.Tails.count (v : Int) : Int) = k
section
variable {P : Int} {bars : List TBar} {k : Int} {m : Nat} {p : TPebbles}
theorem PB.bar (hg : GB P bars) (h : PB P bars k m p) {i : Nat} (hi : i < p.Placed.length) : ∃ e, p.Placed[i]? = some e ∧ idx bars e = some (pbar bars p i) ∧ bars[e.toNat]? = some (pbar bars p i) := by
  have h1 := List.getElem?_eq_getElem hi
  obtain ⟨e0, e1, _⟩ := h.pr h1
  refine ⟨_, h1, ?_⟩
  have h2 : bars[p.Placed[i].toNat]? = some (pbar bars p i) := by
    unfold pbar
    rw [h1]
    simp only [Option.bind_some]
    rw [List.getElem?_eq_getElem (by omega)]
    rfl
  refine ⟨?_, h2⟩
  unfold idx
  rw [if_pos e0, h2]
theorem PB.pbar_ok (hg : GB P bars) (h : PB P bars k m p) {i : Nat} (hi : i < p.Placed.length) : 0 ≤ (pbar bars p i).A ∧ 0 ≤ (pbar bars p i).B ∧ (pbar bars p i).A ≠ (pbar bars p i).B ∧ (pbar bars p i).A < P ∧ (pbar bars p i).B < P := by
  obtain ⟨e, _, _, h2⟩ := h.bar hg hi
  exact ⟨hg.a0 h2, hg.b0 h2, hg.ab h2, hg.ap h2, hg.bp h2⟩
theorem other_S (x : TBar) (v : Int) (hp : P ≤ 8) (h : 0 ≤ x.A ∧ 0 ≤ x.B ∧ x.A ≠ x.B ∧ x.A < P ∧ x.B < P) (hv : v = x.A ∨ v = x.B) : m_spec_l4Other x v = some (otherE x v) := by
  unfold m_spec_l4Other otherE
  rw [w64_small (n := x.A + x.B) (by omega) (by omega)]
  rcases hv with rfl | rfl
  · rw [w64_small (by omega) (by omega), beq_self_eq_true, cond_true]
    congr 1
    omega
  · have : (x.A == x.B) = false := by simp; exact h.2.2.1
    rw [w64_small (by omega) (by omega), this, cond_false]
    congr 1
    omega
theorem other_I (x : TBar) (v : Int) : m_impl_Bar_other x v = some (otherE x v) := by
  unfold m_impl_Bar_other otherE
  cases x.A == v <;> rfl
theorem other_ok {x : TBar} {v : Int} (h : 0 ≤ x.A ∧ 0 ≤ x.B ∧ x.A ≠ x.B ∧ x.A < P ∧ x.B < P) (hv : v = x.A ∨ v = x.B) : 0 ≤ otherE x v ∧ otherE x v < P ∧ otherE x v ≠ v ∧ (otherE x v = x.A ∨ otherE x v = x.B) ∧ otherE x (otherE x v) = v := by
  unfold otherE
  rcases hv with rfl | rfl
  · have e : (x.A == x.B) = false := by simp; exact h.2.2.1
    simp only [beq_self_eq_true, cond_true, e, cond_false]
    exact ⟨by omega, by omega, by omega, .inr trivial, trivial⟩
  · have e : (x.A == x.B) = false := by simp; exact h.2.2.1
    simp only [e, cond_false, beq_self_eq_true, cond_true]
    exact ⟨by omega, by omega, by omega, .inl trivial, trivial⟩
theorem mget_put (m : List (Int × Int)) (k v j : Int) : mget (mput m k v) j = if j = k then v else mget m j := by
  induction m with
  | nil =>
    simp only [mput, mget]
    by_cases h : j = k
    · simp [h]
    · have : (j == k) = false := by simp [h]
      simp [h, this]
  | cons e r ih =>
    unfold mput
    cases hk : k == e.1 with
    | true =>
      rw [beq_iff_eq] at hk
      simp only [cond_true, mget]
      by_cases h : j = k
      · simp [h]
      · have h1 : (j == k) = false := by simp [h]
        have h2 : (j == e.1) = false := by simp [← hk, h]
        simp [h, h1, h2]
    | false =>
      simp only [cond_false, mget, ih]
      by_cases h : j = e.1
      · have h1 : ¬ j = k := fun h2 => by
          rw [← h2, h] at hk
          simp at hk
        simp [h, h1]
        intro h3
        exact absurd (h.trans h3) h1
      · have h1 : (j == e.1) = false := by simp [h]
        simp [h1]
theorem mhas_put (m : List (Int × Int)) (k v j : Int) : mhas (mput m k v) j = (decide (j = k) || mhas m j) := by
  induction m with
  | nil =>
    simp only [mput, mhas]
    by_cases h : j = k
    · simp [h]
    · have : (j == k) = false := by simp [h]
      simp [h, this]
  | cons e r ih =>
    unfold mput
    cases hk : k == e.1 with
    | true =>
      rw [beq_iff_eq] at hk
      simp only [cond_true, mhas]
      by_cases h : j = k
      · simp [h]
      · have h1 : (j == k) = false := by simp [h]
        have h2 : (j == e.1) = false := by simp [← hk, h]
        simp [h, h1, h2]
    | false =>
      simp only [cond_false, mhas, ih]
      cases hj : j == e.1 <;> simp
structure BF (P : Int) (bars : List TBar) (p : TPebbles) (a : Int) (q : List Int) (M : List (Int × Int)) (F : List Int) (S : List Bool) : Prop where
  first : q[0]? = some a
  nd : ∀ {i j : Nat} {v : Int}, q[i]? = some v → q[j]? = some v → i = j
  rng : ∀ {i : Nat} {v : Int}, q[i]? = some v → 0 ≤ v ∧ v < P
  sl : (S.length : Int) = P
  fl : (F.length : Int) = P
  cnt : q.length = S.count true
  seen : ∀ {v : Nat} {s : Bool}, S[v]? = some s → (s = true ↔ (v : Int) ∈ q)
  has : ∀ v : Int, mhas M v = true ↔ v ∈ q
  from_ : ∀ {v : Nat} {f : Int}, F[v]? = some f → (v : Int) ∈ q → f = mget M v
  way : ∀ {j : Nat} {v : Int}, 0 < j → q[j]? = some v → ∃ (i j' : Nat) (t : Int), mget M v = i ∧ i < p.Placed.length ∧ j' < j ∧ q[j']? = some t ∧ p.Tails[i]? = some t ∧ otherE (pbar bars p i) t = v
theorem BF.len {a : Int} {q : List Int} {M : List (Int × Int)} {F : List Int} {S : List Bool} (h : BF P bars p a q M F S) : (q.length : Int) ≤ P := by
  have := List.count_le_length (a := true) (l := S)
  have := h.cnt
  have := h.sl
  omega
theorem BF.more (hg : GB P bars) (hp : PB P bars k m p) {a : Int} {q : List Int} {M : List (Int × Int)} {F : List Int} {S : List Bool} (h : BF P bars p a q M F S) {i j : Nat} {t u : Int} (hi : i < p.Placed.length) (hj : q[j]? = some t) (ht : p.Tails[i]? = some t) (hu : otherE (pbar bars p i) t = u) (hn : u ∉ q) :
    BF P bars p a (q ++ [u]) (mput M u i) (F.set u.toNat i) (S.set u.toNat true) := by
  have hends := hp.ends ht
  obtain ⟨u0, u1, _, _, _⟩ := other_ok (hp.pbar_ok hg hi) hends
  rw [hu] at u0 u1
  have hjl := (List.getElem?_eq_some_iff.1 hj).1
  have hget : ∀ {r : Nat} {v : Int}, (q ++ [u])[r]? = some v → (r < q.length ∧ q[r]? = some v) ∨ (r = q.length ∧ v = u) := fun {r v} hr => by
    rw [List.getElem?_append] at hr
    split at hr
    · exact .inl ⟨by assumption, hr⟩
    · right
      have hrl : r - q.length = 0 := by
        rcases Nat.eq_zero_or_pos (r - q.length) with h0 | h0
        · exact h0
        · rw [List.getElem?_eq_none (by simp; omega)] at hr
          cases hr
      rw [hrl] at hr
      simp at hr
      exact ⟨by omega, hr.symm⟩
  have hmem : ∀ {r : Nat} {v : Int}, q[r]? = some v → v ∈ q := fun hr => List.mem_of_getElem? hr
  have hsl := h.sl
  have hsu : S[u.toNat]? = some (S[u.toNat]'(by omega)) := List.getElem?_eq_getElem (by omega)
  have hsf : S[u.toNat]'(by omega) = false := by
    cases hb : S[u.toNat]'(by omega) with
    | false => rfl
    | true =>
      rw [hb] at hsu
      have := (h.seen hsu).1 rfl
      rw [Int.toNat_of_nonneg u0] at this
      exact absurd this hn
  refine ⟨?_, ?_, ?_, by simpa using h.sl, by simpa using h.fl, ?_, ?_, ?_, ?_, ?_⟩
  · rw [List.getElem?_append_left (by omega)]
    exact h.first
  · intro r s v hr hs
    rcases hget hr with ⟨h1, h2⟩ | ⟨h1, h2⟩ <;> rcases hget hs with ⟨h3, h4⟩ | ⟨h3, h4⟩
    · exact h.nd h2 h4
    · subst h4; exact absurd (hmem h2) hn
    · subst h2; exact absurd (hmem h4) hn
    · omega
  · intro r v hr
    rcases hget hr with ⟨_, h2⟩ | ⟨_, rfl⟩
    · exact h.rng h2
    · exact ⟨u0, u1⟩
  · have := h.cnt
    rw [List.count_set (by omega), hsf, List.length_append]
    simp
    omega
  · intro v s hv
    rw [List.getElem?_set] at hv
    rw [List.mem_append, List.mem_singleton]
    by_cases huv : u.toNat = v
    · rw [if_pos huv] at hv
      split at hv
      · injection hv with hv
        subst hv
        simp only [true_iff]
        right
        omega
      · cases hv
    · rw [if_neg huv] at hv
      rw [h.seen hv]
      constructor
      · exact .inl
      · rintro (h1 | h1)
        · exact h1
        · omega
  · intro v
    rw [mhas_put, Bool.or_eq_true, decide_eq_true_eq, h.has, List.mem_append, List.mem_singleton]
    exact Or.comm
  · intro v f hv hq
    rw [List.getElem?_set] at hv
    rw [mget_put]
    by_cases huv : u.toNat = v
    · rw [if_pos huv] at hv
      rw [if_pos (by omega)]
      split at hv
      · injection hv with hv
        exact hv.symm
      · cases hv
    · rw [if_neg huv] at hv
      rw [if_neg (by omega)]
      refine h.from_ hv ?_
      rw [List.mem_append, List.mem_singleton] at hq
      rcases hq with h1 | h1
      · exact h1
      · omega
  · intro r v h0 hr
    rcases hget hr with ⟨h1, h2⟩ | ⟨h1, rfl⟩
    · obtain ⟨i', j', t', w1, w2, w3, w4, w5, w6⟩ := h.way h0 h2
      have hvu : v ≠ u := fun e => hn (e ▸ hmem h2)
      exact ⟨i', j', t', by rw [mget_put, if_neg hvu]; exact w1, w2, w3, by rw [List.getElem?_append_left (List.getElem?_eq_some_iff.1 w4).1]; exact w4, w5, w6⟩
    · exact ⟨i, j, t, by rw [mget_put, if_pos rfl], hi, by omega, by rw [List.getElem?_append_left hjl]; exact hj, ht, hu⟩
theorem BF.start (hg : GB P bars) {a : Int} (a0 : 0 ≤ a) (a1 : a < P) {F : List Int} (hf : (F.length : Int) = P) (hF : ∀ {v : Nat} {f : Int}, F[v]? = some f → f = -1) : BF P bars p a [a] (mput [] a (-1)) F ((List.replicate P.toNat false).set a.toNat true) := by
  have hp1 := hg.p1
  have hget : ∀ {r : Nat} {v : Int}, ([a] : List Int)[r]? = some v → r = 0 ∧ v = a := fun {r v} hr => by
    cases r with
    | zero => simp at hr; exact ⟨rfl, hr.symm⟩
    | succ r => simp at hr
  refine ⟨rfl, fun h1 h2 => by rw [(hget h1).1, (hget h2).1], fun hr => by obtain ⟨_, rfl⟩ := hget hr; exact ⟨a0, a1⟩, by simp; omega, hf, ?_, ?_, ?_, ?_, ?_⟩
  · rw [List.count_set (by simp; omega), List.getElem_replicate]
    simp [List.count_replicate]
  · intro v s hv
    rw [List.mem_singleton]
    rw [List.getElem?_set] at hv
    by_cases hav : a.toNat = v
    · rw [if_pos hav] at hv
      split at hv
      · injection hv with hv
        subst hv
        simp only [true_iff]
        omega
      · cases hv
    · rw [if_neg hav, List.getElem?_replicate] at hv
      split at hv
      · injection hv with hv
        subst hv
        simp
        omega
      · cases hv
  · intro v
    rw [mhas_put, List.mem_singleton]
    simp [mhas]
  · intro v f hv hq
    rw [List.mem_singleton] at hq
    rw [mget_put, if_pos hq]
    exact hF hv
  · intro j v h0 hr
    have := (hget hr).1
    omega
theorem set_get {α : Type} {l : List α} {i j : Nat} {x y : α} (h : (l.set i x)[j]? = some y) : (i = j ∧ y = x) ∨ (i ≠ j ∧ l[j]? = some y) := by
  rw [List.getElem?_set] at h
  by_cases hij : i = j
  · rw [if_pos hij] at h
    split at h
    · injection h with h
      exact .inl ⟨hij, h.symm⟩
    · cases h
  · rw [if_neg hij] at h
    exact .inr ⟨hij, h⟩
structure TW (p : TPebbles) (bars : List TBar) (q : List Int) (M : List (Int × Int)) (u : Int) (j : Nat) (at_ : Int) (T : List Int) : Prop where
  atj : q[j]? = some at_
  tl : T.length = p.Tails.length
  keep : ∀ {r : Nat} {v : Int}, r ≤ j → 0 < r → q[r]? = some v → T[(mget M v).toNat]? = p.Tails[(mget M v).toNat]?
  ends : ∀ {i : Nat} {t : Int}, T[i]? = some t → t = (pbar bars p i).A ∨ t = (pbar bars p i).B
  cnt : ∀ v : Int, (T.count v : Int) = p.Tails.count v + (if v = u then 1 else 0) - (if v = at_ then 1 else 0)
theorem TW.step (hg : GB P bars) (hp : PB P bars k m p) {a : Int} {q : List Int} {M : List (Int × Int)} {F : List Int} {S : List Bool} (h : BF P bars p a q M F S) {u at_ : Int} {j : Nat} {T : List Int} (hT : TW p bars q M u j at_ T) (hne : at_ ≠ a) :
    ∃ (i j' : Nat) (t : Int), mget M at_ = i ∧ i < p.Placed.length ∧ j' < j ∧ T[i]? = some t ∧ otherE (pbar bars p i) at_ = t ∧ TW p bars q M u j' t (T.set i at_) := by
  have hj0 : 0 < j := by
    rcases Nat.eq_zero_or_pos j with h0 | h0
    · subst h0
      have := h.first.symm.trans hT.atj
      injection this with this
      exact absurd this.symm hne
    · exact h0
  obtain ⟨i, j', t, w1, w2, w3, w4, w5, w6⟩ := h.way hj0 hT.atj
  have hk := hT.keep (Nat.le_refl _) hj0 hT.atj
  rw [w1, Int.toNat_natCast, w5] at hk
  obtain ⟨_, _, o3, o4, o5⟩ := other_ok (hp.pbar_ok hg w2) (hp.ends w5)
  rw [w6] at o3 o4 o5
  have hil := (List.getElem?_eq_some_iff.1 hk).1
  have hig : T[i] = t := by
    rw [List.getElem?_eq_getElem hil] at hk
    injection hk
  refine ⟨i, j', t, w1, w2, w3, hk, o5, w4, by simpa using hT.tl, ?_, ?_, ?_⟩
  · intro r v hr h0 hq
    have hri : (mget M v).toNat ≠ i := fun e => by
      obtain ⟨i2, _, t2, x1, x2, _, _, x5, x6⟩ := h.way h0 hq
      rw [x1, Int.toNat_natCast] at e
      subst e
      rw [w5] at x5
      injection x5 with x5
      subst x5
      have : v = at_ := x6.symm.trans w6
      subst this
      have := h.nd hq hT.atj
      omega
    rw [List.getElem?_set, if_neg (Ne.symm hri)]
    exact hT.keep (by omega) h0 hq
  · intro i2 t2 h2
    rcases set_get h2 with ⟨rfl, rfl⟩ | ⟨_, h3⟩
    · exact o4
    · exact hT.ends h3
  · intro v
    rw [List.count_set hil, hig]
    have hc := hT.cnt v
    have hpos : t = v → 0 < T.count v := fun e => by
      subst e
      exact List.count_pos_iff.2 (List.mem_of_getElem? hk)
    by_cases h1 : v = t
    · subst h1
      have := hpos rfl
      have h3 : ¬ v = at_ := fun e => o3 e.symm
      have h4 : (at_ == v) = false := by simp; exact fun e => h3 e.symm
      simp only [beq_self_eq_true, if_true, h4, Bool.false_eq_true, if_false, if_neg h3] at hc ⊢
      omega
    · have h2 : (t == v) = false := by simp; exact fun e => h1 e.symm
      by_cases h3 : v = at_
      · subst h3
        simp only [h2, Bool.false_eq_true, if_false, beq_self_eq_true, if_true, if_neg h1] at hc ⊢
        omega
      · have h4 : (at_ == v) = false := by simp; exact fun e => h3 e.symm
        simp only [h2, h4, Bool.false_eq_true, if_false, if_neg h1, if_neg h3] at hc ⊢
        omega
theorem turn_both (hg : GB P bars) (hp : PB P bars k m p) {g : TGraph} (hgp : g.Points = P) (hgb : g.Bars = bars) {a : Int} {q : List Int} {M : List (Int × Int)} {F : List Int} {S : List Bool} (h : BF P bars p a q M F S) {u : Int} {j : Nat} (hu : q[j]? = some u) (r1 : TPebbles) (x2 x4 : Int) (s1 : Int × List (Int × Int) × List Int) (hM : mput s1.2.1 u s1.1 = M) :
    ∃ T, loopM (m_spec_l4Shift_L1 g p F a u r1 x2 x4) BIG (u, p.Tails) = some (((r1.Free.set u.toNat (w64 (x2 - 1))).set a.toNat (w64 (x4 + 1))), T, r1.Placed) ∧
      loopM (m_impl_moveTo_L11 p a s1 u x2 x4) BIG (u, p.Tails) = some (((p.Free.set u.toNat (w64 (x2 - 1))).set a.toNat (w64 (x4 + 1))), T) ∧ TW p bars q M u 0 a T := by
  have hql := h.len
  have h8 := hg.p8
  have hjl := (List.getElem?_eq_some_iff.1 hu).1
  obtain ⟨r, r', e1, e2, T, rfl, rfl, hT⟩ := loop_inv2 (b := m_spec_l4Shift_L1 g p F a u r1 x2 x4) (b' := m_impl_moveTo_L11 p a s1 u x2 x4) (s := (u, p.Tails)) (s' := (u, p.Tails))
    (fun n s s' => ∃ (j' : Nat) (at_ : Int) (T : List Int), s = (at_, T) ∧ s' = (at_, T) ∧ j' + n ≤ j ∧ TW p bars q M u j' at_ T)
    (fun r r' => ∃ T, r = (((r1.Free.set u.toNat (w64 (x2 - 1))).set a.toNat (w64 (x4 + 1))), T, r1.Placed) ∧ r' = (((p.Free.set u.toNat (w64 (x2 - 1))).set a.toNat (w64 (x4 + 1))), T) ∧ TW p bars q M u 0 a T) (j + 1) (by omega)
    ⟨j, u, p.Tails, rfl, rfl, by omega, hu, rfl, fun _ _ _ => rfl, hp.ends, fun v => by omega⟩ (fun n s s' hn hs => by
      obtain ⟨j', at_, T, rfl, rfl, hj', hT⟩ := hs
      by_cases hat : at_ = a
      · subst hat
        have hj0 : j' = 0 := h.nd hT.atj h.first
        subst hj0
        refine .inr ⟨_, _, ?_, ?_, T, rfl, rfl, hT⟩
        · unfold m_spec_l4Shift_L1
          simp
        · unfold m_impl_moveTo_L11
          simp
      · obtain ⟨i, j2, t, w1, w2, w3, w4, w5, w6⟩ := hT.step hg hp h hat
        have hb : (at_ != a) = true := by simp; exact hat
        obtain ⟨e, hpe, hbe, hbe2⟩ := hp.bar hg w2
        have hpi : idx p.Placed (i : Int) = some e := idx_of hpe
        have hrng := h.rng hT.atj
        have hFl := h.fl
        have hFat : idx F at_ = some (i : Int) := by
          have hl : F[at_.toNat]? = some (F[at_.toNat]'(by omega)) := List.getElem?_eq_getElem (by omega)
          have := h.from_ hl (by rw [Int.toNat_of_nonneg hrng.1]; exact List.mem_of_getElem? hT.atj)
          rw [Int.toNat_of_nonneg hrng.1, w1] at this
          unfold idx
          rw [if_pos hrng.1, hl, this]
        have hTi : idx T (i : Int) = some t := idx_of w4
        refine .inl ⟨(t, T.set i at_), (t, T.set i at_), ?_, ?_, j2, t, T.set i at_, rfl, rfl, by omega, w6⟩
        · have ho : m_spec_l4Other (pbar bars p i) at_ = some t := by
            rw [other_S (P := P) _ _ h8 (hp.pbar_ok hg w2) ?_, w5]
            obtain ⟨_, _, _, o4, _⟩ := other_ok (hp.pbar_ok hg w2) (hT.ends w4)
            have hte := hT.ends w4
            unfold otherE at w5
            by_cases hA : (pbar bars p i).A = at_
            · exact .inl hA.symm
            · have : ((pbar bars p i).A == at_) = false := by simp [hA]
              rw [this, cond_false] at w5
              -- the other end of at_ is A: at_ is B
              obtain ⟨i3, _, t3, z1, z2, _, _, z5, z6⟩ := h.way (j := j') (by
                rcases Nat.eq_zero_or_pos j' with h0 | h0
                · subst h0
                  have := h.first.symm.trans hT.atj
                  injection this with this
                  exact absurd this.symm hat
                · exact h0) hT.atj
              rw [w1] at z1
              have : i3 = i := by omega
              subst this
              obtain ⟨_, _, _, o4', _⟩ := other_ok (hp.pbar_ok hg z2) (hp.ends z5)
              rw [z6] at o4'
              exact o4'
          unfold m_spec_l4Shift_L1
          simp only [hb, cond_true, hFat, hpi, hgb, hbe, ho, hTi, Option.bind_some, Int.toNat_natCast]
        · unfold m_impl_moveTo_L11
          simp only [hb, cond_true, hM, w1, hTi, Option.bind_some, Int.toNat_natCast]) (fun s s' hs => by
      obtain ⟨j', at_, T, rfl, rfl, hj', hT⟩ := hs
      omega)
  exact ⟨T, e1, e2, hT⟩
theorem PB.moved (hg : GB P bars) (hp : PB P bars k m p) {q : List Int} {M : List (Int × Int)} {u a : Int} {T : List Int} {fu fa : Int} (hT : TW p bars q M u 0 a T) (u0 : 0 ≤ u) (a0 : 0 ≤ a) (hua : u ≠ a) (hfu : p.Free[u.toNat]? = some fu) (hfa : p.Free[a.toNat]? = some fa) (hpos : 0 < fu) :
    PB P bars k m ⟨(p.Free.set u.toNat (fu - 1)).set a.toNat (fa + 1), T, p.Placed⟩ := by
  refine ⟨hp.k1, hp.k3, by simpa using hp.fl, hT.tl.trans hp.tl, hp.pl, hp.pr, hp.inc, hT.ends, ?_⟩
  intro v f hv
  change 0 ≤ f ∧ f + (T.count (v : Int) : Int) = k
  have hc := hT.cnt (v : Int)
  rcases set_get hv with ⟨h1, rfl⟩ | ⟨h1, h2⟩
  · have hva : (v : Int) = a := by omega
    have hf := hp.fr hfa
    rw [Int.toNat_of_nonneg a0] at hf
    rw [hva, if_neg (Ne.symm hua), if_pos rfl] at hc
    rw [hva]
    omega
  · rcases set_get h2 with ⟨h3, rfl⟩ | ⟨h3, h4⟩
    · have hvu : (v : Int) = u := by omega
      have hf := hp.fr hfu
      rw [Int.toNat_of_nonneg u0] at hf
      rw [hvu, if_pos rfl, if_neg hua] at hc
      rw [hvu]
      omega
    · have hf := hp.fr h4
      rw [if_neg (show ¬ (v : Int) = u by omega), if_neg (show ¬ (v : Int) = a by omega)] at hc
      omega
end
end Go.Proofs.Ytghofbijdnenoaa
end
section
set_option linter.unusedVariables false
set_option linter.unusedSimpArgs false
set_option linter.unnecessarySimpa false
open Go Go.Fw
namespace Go.Proofs.Ytghofbijdnenoaa
section
variable {P : Int} {bars : List TBar} {k : Int} {m : Nat} {p : TPebbles}
theorem l4Copy_eq (hg : GB P bars) (hp : PB P bars k m p) (hm : m ≤ 1000) : m_spec_l4Copy p = some p := by
  have h1 := hp.fl
  have h2 := hp.tl
  have h3 := hp.pl
  have h8 := hg.p8
  unfold m_spec_l4Copy
  rw [lim_ok (by simp; omega), lim_ok (by simp; omega), lim_ok (by simp; omega)]
  rfl
theorem copyPebbles_eq (hg : GB P bars) (hp : PB P bars k m p) (hm : m ≤ 1000) : m_impl_copyPebbles p = some p := by
  have h1 := hp.fl
  have h2 := hp.tl
  have h3 := hp.pl
  have h8 := hg.p8
  unfold m_impl_copyPebbles
  rw [copyInts_eq _ (by omega), copyInts_eq _ (by omega), copyInts_eq _ (by omega)]
  rfl
theorem PB.free_in (hp : PB P bars k m p) {v : Int} (v0 : 0 ≤ v) (v1 : v < P) : ∃ f, p.Free[v.toNat]? = some f ∧ idx p.Free v = some f ∧ 0 ≤ f ∧ f ≤ k := by
  have h1 := hp.fl
  have h2 : p.Free[v.toNat]? = some (p.Free[v.toNat]'(by omega)) := List.getElem?_eq_getElem (by omega)
  have h3 := hp.fr h2
  refine ⟨_, h2, ?_, h3.1, by omega⟩
  unfold idx
  rw [if_pos v0, h2]
structure Moved (P : Int) (bars : List TBar) (k : Int) (m : Nat) (p : TPebbles) (a b : Int) (p' : TPebbles) : Prop where
  pb : PB P bars k m p'
  placed : p'.Placed = p.Placed
  fa : ∀ {f : Int}, p.Free[a.toNat]? = some f → p'.Free[a.toNat]? = some (f + 1)
  fb : p'.Free[b.toNat]? = p.Free[b.toNat]?
theorem fromInit {g : TGraph} (h0 : 0 ≤ g.Points) (h8 : g.Points ≤ 8) : loopM (m_spec_l4Find_L1 g) BIG (0, List.replicate g.Points.toNat 0) = some (List.replicate g.Points.toNat (-1)) := by
  refine loopM_run (fun n => ((n : Int), List.replicate n (-1) ++ List.replicate (g.Points.toNat - n) 0)) g.Points.toNat (by omega) (by simp) (fun n hn => ?_) ?_
  · have hs := set_repl (List.replicate n (-1 : Int)) 0 (-1) n g.Points.toNat (by simp) hn
    have hi : idx (List.replicate n (-1 : Int) ++ List.replicate (g.Points.toNat - n) 0) (n : Int) = some 0 := idx_of (by rw [List.getElem?_append_right (by simp), List.length_replicate, Nat.sub_self, List.getElem?_replicate, if_pos (by omega)])
    unfold m_spec_l4Find_L1
    simp only [hi, Option.bind_some, Int.toNat_natCast, hs, w64_succ (show n ≤ 1099511627776 by omega)]
    rw [decide_eq_true (by omega), cond_true, ← List.replicate_succ']
  · unfold m_spec_l4Find_L1
    simp only [Nat.sub_self, List.replicate_zero, List.append_nil]
    rw [decide_eq_false (by omega)]
    rfl
theorem shift_both (hg : GB P bars) (hp : PB P bars k m p) (hm : m ≤ 1000) {g : TGraph} (hgp : g.Points = P) (hgb : g.Bars = bars) {a b : Int} (a0 : 0 ≤ a) (a1 : a < P) {q : List Int} {M : List (Int × Int)} {F : List Int} {S : List Bool} {u : Int} {j : Nat} (s1 : Int × List (Int × Int) × List Int) (hM : mput s1.2.1 u s1.1 = M) (h : BF P bars p a q M F S) (hu : q[j]? = some u) (hua : u ≠ a) (hub : u ≠ b) (hab : a ≠ b) (b0 : 0 ≤ b)
    {fu : Int} (hfu : p.Free[u.toNat]? = some fu) (hpos : 0 < fu) :
    ∃ p' fa, idx p.Free a = some fa ∧ m_spec_l4Shift g p F a u = some p' ∧ loopM (m_impl_moveTo_L11 p a s1 u fu fa) BIG (u, p.Tails) = some (p'.Free, p'.Tails) ∧ p'.Placed = p.Placed ∧ Moved P bars k m p a b p' := by
  obtain ⟨u0, u1⟩ := h.rng hu
  obtain ⟨fa, hfa, hia, fa0, fak⟩ := hp.free_in a0 a1
  have k3 := hp.k3
  have hfk : fu ≤ k := by have := hp.fr hfu; omega
  have hiu : idx p.Free u = some fu := by unfold idx; rw [if_pos u0, hfu]
  obtain ⟨T, e1, e2, hT⟩ := turn_both hg hp hgp hgb h hu p fu fa s1 hM
  rw [w64_small (n := fu - 1) (by omega) (by omega), w64_small (n := fa + 1) (by omega) (by omega)] at e1 e2
  have hne : u.toNat ≠ a.toNat := by omega
  have hia2 : ∀ x : Int, idx (p.Free.set u.toNat x) a = some fa := fun x => by
    unfold idx
    rw [if_pos a0, List.getElem?_set, if_neg hne, hfa]
  refine ⟨⟨(p.Free.set u.toNat (fu - 1)).set a.toNat (fa + 1), T, p.Placed⟩, fa, hia, ?_, e2, rfl, ⟨hp.moved hg hT u0 a0 hua hfu hfa hpos, rfl, fun {f} hf => ?_, ?_⟩⟩
  · unfold m_spec_l4Shift
    rw [l4Copy_eq hg hp hm]
    simp only [hiu, Option.bind_some, hia2, e1, w64_small (n := fu - 1) (show -4611686018427387904 ≤ fu - 1 by omega) (by omega)]
  · rw [hfa] at hf
    injection hf with hf
    subst hf
    have hl := (List.getElem?_eq_some_iff.1 hfa).1
    rw [List.getElem?_set, if_pos rfl, if_pos (by simpa using hl)]
  · show ((p.Free.set u.toNat (fu - 1)).set a.toNat (fa + 1))[b.toNat]? = _
    rw [List.getElem?_set, if_neg (by omega), List.getElem?_set, if_neg (by omega)]
def ZO (p : TPebbles) (a b : Int) (q : List Int) : Prop := ∀ v ∈ q, v ≠ a → v ≠ b → p.Free[v.toNat]? = some 0
def CL (bars : List TBar) (p : TPebbles) (v : Int) (m : Nat) (q : List Int) : Prop := ∀ (i : Nat) (t : Int), i < m → p.Tails[i]? = some t → t = v → otherE (pbar bars p i) t ∈ q
theorem CL.more {v u : Int} {m : Nat} {q : List Int} (h : CL bars p v m q) : CL bars p v m (q ++ [u]) := fun i t h1 h2 h3 => List.mem_append_left _ (h i t h1 h2 h3)
theorem CL.step {v t : Int} {j : Nat} {q : List Int} (h : CL bars p v j q) (hT : p.Tails[j]? = some t) (hx : t = v → otherE (pbar bars p j) t ∈ q) : CL bars p v (j + 1) q := fun i s h1 h2 h3 => by
  by_cases hij : i = j
  · subst hij
    rw [hT] at h2
    injection h2 with h2
    subst h2
    exact hx h3
  · exact h i s (by omega) h2 h3
structure Reach (P : Int) (bars : List TBar) (p : TPebbles) (a b : Int) (q : List Int) : Prop where
  fst : a ∈ q
  rng : ∀ v ∈ q, 0 ≤ v ∧ v < P
  zero : ZO p a b q
  clo : ∀ (i : Nat) (t : Int), p.Tails[i]? = some t → t ∈ q → otherE (pbar bars p i) t ∈ q
theorem find_both (hg : GB P bars) (hp : PB P bars k m p) (hm : m ≤ 1000) {g : TGraph} (hgp : g.Points = P) (hgb : g.Bars = bars) {a b : Int} (a0 : 0 ≤ a) (a1 : a < P) (b0 : 0 ≤ b) (b1 : b < P) (hab : a ≠ b) :
    (m_spec_l4Find g p a b = some (p, false) ∧ m_impl_moveTo bars p a b = some (false, p) ∧ ∃ q, Reach P bars p a b q) ∨ ∃ p', m_spec_l4Find g p a b = some (p', true) ∧ m_impl_moveTo bars p a b = some (true, p') ∧ Moved P bars k m p a b p' := by
  have h8 := hg.p8
  have hp1 := hg.p1
  have hpl := hp.pl
  have hptl := hp.tl
  have hstart := BF.start (bars := bars) (p := p) hg a0 a1 (F := List.replicate P.toNat (-1)) (by simp; omega) (fun {v f} hv => by
    rw [List.getElem?_replicate] at hv
    split at hv
    · injection hv with hv; exact hv.symm
    · cases hv)
  -- what a round over the bars gives
  have roundB : ∀ (n : Nat) (v : Int) (q : List Int) (M : List (Int × Int)) (F : List Int) (S : List Bool), BF P bars p a q M F S → q[n]? = some v → ZO p a b q → (∀ r w, r < n → q[r]? = some w → CL bars p w p.Placed.length q) →
      ∃ r r', loopM (m_spec_l4Find_L5 g p a b ((n : Int), F, q, S) v) BIG (0, F, q, S) = some r ∧ loopM (m_impl_moveTo_L10 bars p a b ((n : Int), M, q)) BIG (0, M, q) = some r' ∧
        ((∃ q' M' F' S', r = .inl ((n : Int), F', q', S') ∧ r' = .inl ((n : Int), M', q') ∧ BF P bars p a q' M' F' S' ∧ n < q'.length ∧ ZO p a b q' ∧ (∀ r w, r < n + 1 → q'[r]? = some w → CL bars p w p.Placed.length q')) ∨ ∃ p', r = .inr (p', true) ∧ r' = .inr (true, p') ∧ Moved P bars k m p a b p') := by
    intro n v q M F S hB hv hz hc
    refine loop_inv2 (fun j s s' => ∃ q' M' F' S', s = ((j : Int), F', q', S') ∧ s' = ((j : Int), M', q') ∧ BF P bars p a q' M' F' S' ∧ q'[n]? = some v ∧ ZO p a b q' ∧ CL bars p v j q' ∧ (∀ r w, r < n → q'[r]? = some w → CL bars p w p.Placed.length q')) _ p.Placed.length (by omega) ⟨q, M, F, S, rfl, rfl, hB, hv, hz, (fun i _ h => by omega), hc⟩ (fun j s s' hj hs => ?_) (fun s s' hs => ?_)
    · obtain ⟨q, M, F, S, rfl, rfl, hB, hv, hz, hcv, hc⟩ := hs
      obtain ⟨e, hpe, hbe, hbe2⟩ := hp.bar hg hj
      have hok := hp.pbar_ok hg hj
      have hpi : idx p.Placed (j : Int) = some e := idx_of hpe
      have hT : p.Tails[j]? = some (p.Tails[j]'(by omega)) := List.getElem?_eq_getElem (by omega)
      generalize p.Tails[j]'(by omega) = t at hT
      have hTi : idx p.Tails (j : Int) = some t := idx_of hT
      have hqi : idx q (n : Int) = some v := idx_of hv
      by_cases htv : t = v
      · subst htv
        have hends := hp.ends hT
        obtain ⟨u0, u1, une, _, _⟩ := other_ok hok hends
        have hoS := other_S (P := P) (pbar bars p j) t h8 hok hends
        have hoI := other_I (pbar bars p j) t
        generalize hu : otherE (pbar bars p j) t = u at u0 u1 une hoS hoI
        have hsl := hB.sl
        have hfl := hB.fl
        have hSu : S[u.toNat]? = some (S[u.toNat]'(by omega)) := List.getElem?_eq_getElem (by omega)
        generalize S[u.toNat]'(by omega) = su at hSu
        have hSi : idx S u = some su := by unfold idx; rw [if_pos u0, hSu]
        have hseen := hB.seen hSu
        rw [Int.toNat_of_nonneg u0] at hseen
        have hhas := hB.has u
        cases su with
        | true =>
          have hm1 : mhas M u = true := hhas.2 (hseen.1 rfl)
          refine .inl ⟨(((j + 1 : Nat) : Int), F, q, S), (((j + 1 : Nat) : Int), M, q), ?_, ?_, q, M, F, S, rfl, rfl, hB, hv, hz, hcv.step hT (fun _ => by rw [hu]; exact hseen.1 rfl), hc⟩
          · unfold m_spec_l4Find_L5
            simp only [hTi, hpi, hgb, hbe, hoS, hSi, Option.bind_some, w64_succ (show j ≤ 1099511627776 by omega), bne_self_eq_false, cond_false, cond_true]
            rw [decide_eq_true (by omega), cond_true]
          · unfold m_impl_moveTo_L10
            simp only [hTi, hpi, hqi, hbe, hoI, hm1, Option.bind_some, w64_succ (show j ≤ 1099511627776 by omega), bne_self_eq_false, cond_false, cond_true]
            rw [decide_eq_true (by omega), cond_true]
        | false =>
          have hnq : u ∉ q := fun h => by have := hseen.2 h; cases this
          have hm1 : mhas M u = false := by
            cases hb : mhas M u with
            | false => rfl
            | true => exact absurd (hhas.1 hb) hnq
          have hB2 := hB.more hg hp hj hv hT hu hnq
          obtain ⟨fu, hfu, hiu, fu0, fuk⟩ := hp.free_in u0 u1
          have hua : u ≠ a := fun e => hnq (e ▸ List.mem_of_getElem? hB.first)
          have hFu : idx F u = some ((F[u.toNat]?).getD 0) := idx_in 0 u0 (by omega)
          have hlast : (q ++ [u])[q.length]? = some u := by rw [List.getElem?_append_right (Nat.le_refl _), Nat.sub_self]; rfl
          have hqn : (q ++ [u])[n]? = some t := by rw [List.getElem?_append_left (List.getElem?_eq_some_iff.1 hv).1]; exact hv
          have hql := hB2.len
          by_cases hfound : u ≠ b ∧ 0 < fu
          · obtain ⟨hub, hpos⟩ := hfound
            obtain ⟨p', fa, hia, es, ei, epl, hmv⟩ := shift_both hg hp hm hgp hgb a0 a1 ((j : Int), M, q) rfl hB2 hlast hua hub hab b0 hfu hpos
            have hne : u.toNat ≠ a.toNat := by omega
            have hia2 : ∀ x : Int, idx (p.Free.set u.toNat x) a = some fa := fun x => by
              unfold idx at hia ⊢
              rw [if_pos a0] at hia ⊢
              rw [List.getElem?_set, if_neg hne, hia]
            have k3 := hp.k3
            refine .inr ⟨.inr (p', true), .inr (true, p'), ?_, ?_, .inr ⟨p', rfl, rfl, hmv⟩⟩
            · unfold m_spec_l4Find_L5
              simp only [hTi, hpi, hgb, hbe, hoS, hSi, hFu, hiu, es, Option.bind_some, bne_self_eq_false, cond_false, show (u != b) = true by simp [hub], decide_eq_true hpos, cond_true]
              rw [decide_eq_true (by omega), cond_true]
            · unfold m_impl_moveTo_L10
              simp only [hTi, hpi, hqi, hbe, hoI, hm1, hiu, hia2, ei, Option.bind_some, bne_self_eq_false, cond_false, show (u == b) = false by simp [hub], show (fu == 0) = false by simp; omega]
              rw [decide_eq_true (by omega), cond_true, ← epl]
          · refine .inl ⟨(((j + 1 : Nat) : Int), F.set u.toNat j, q ++ [u], S.set u.toNat true), (((j + 1 : Nat) : Int), mput M u j, q ++ [u]), ?_, ?_, _, _, _, _, rfl, rfl, hB2, hqn, ?_, hcv.more.step hT (fun _ => by rw [hu]; exact List.mem_append_right _ (List.mem_singleton.2 rfl)), ?_⟩
            rotate_left 2
            · intro w hw hwa hwb
              rcases List.mem_append.1 hw with h1 | h1
              · exact hz w h1 hwa hwb
              · rw [List.mem_singleton] at h1
                subst h1
                rw [hfu]
                have : ¬ 0 < fu := fun h => hfound ⟨hwb, h⟩
                congr 1
                omega
            · intro r w hr hw
              rw [List.getElem?_append_left (by have := (List.getElem?_eq_some_iff.1 hv).1; omega)] at hw
              exact (hc r w hr hw).more
            · unfold m_spec_l4Find_L5
              simp only [hTi, hpi, hgb, hbe, hoS, hSi, hFu, hiu, Option.bind_some, bne_self_eq_false, cond_false, w64_succ (show j ≤ 1099511627776 by omega), lim_ok (show q.length + ([u] : List Int).length ≤ 2147483648 by simp at hql ⊢; omega)]
              rw [decide_eq_true (by omega), cond_true]
              by_cases hub : u = b
              · rw [show (u != b) = false by simp [hub]]
                rfl
              · have : ¬ 0 < fu := fun h => hfound ⟨hub, h⟩
                rw [show (u != b) = true by simp [hub], decide_eq_false this]
                rfl
            · unfold m_impl_moveTo_L10
              simp only [hTi, hpi, hqi, hbe, hoI, hm1, hiu, Option.bind_some, bne_self_eq_false, cond_false, w64_succ (show j ≤ 1099511627776 by omega), lim_ok (show q.length + ([u] : List Int).length ≤ 2147483648 by simp at hql ⊢; omega)]
              rw [decide_eq_true (by omega), cond_true]
              by_cases hub : u = b
              · rw [show (u == b) = true by simp [hub]]
                rfl
              · have : ¬ 0 < fu := fun h => hfound ⟨hub, h⟩
                rw [show (u == b) = false by simp [hub], show (fu == 0) = true by simp; omega]
                rfl
      · have hne : (t != v) = true := by simp; exact htv
        refine .inl ⟨(((j + 1 : Nat) : Int), F, q, S), (((j + 1 : Nat) : Int), M, q), ?_, ?_, q, M, F, S, rfl, rfl, hB, hv, hz, hcv.step hT (fun h => absurd h htv), hc⟩
        · unfold m_spec_l4Find_L5
          simp only [hTi, Option.bind_some, hne, cond_true, w64_succ (show j ≤ 1099511627776 by omega)]
          rw [decide_eq_true (by omega), cond_true]
        · unfold m_impl_moveTo_L10
          simp only [hTi, hpi, hqi, Option.bind_some, hne, cond_true, w64_succ (show j ≤ 1099511627776 by omega)]
          rw [decide_eq_true (by omega), cond_true]
    · obtain ⟨q, M, F, S, rfl, rfl, hB, hv, hz, hcv, hc⟩ := hs
      refine ⟨.inl ((n : Int), F, q, S), .inl ((n : Int), M, q), by simp [m_spec_l4Find_L5], by simp [m_impl_moveTo_L10], .inl ⟨q, M, F, S, rfl, rfl, hB, (List.getElem?_eq_some_iff.1 hv).1, hz, fun r w hr hw => ?_⟩⟩
      by_cases hrn : r = n
      · subst hrn
        rw [hv] at hw
        injection hw with hw
        subst hw
        exact hcv
      · exact hc r w (by omega) hw
  -- the rounds over the points met
  have outer : ∃ r r', loopM (m_spec_l4Find_L4 g p a b) BIG (0, List.replicate P.toNat (-1), [a], (List.replicate P.toNat false).set a.toNat true) = some r ∧ loopM (m_impl_moveTo_L7 bars p a b) BIG (0, mput [] a (-1), [a]) = some r' ∧
      ((r = .inl () ∧ r' = .inl () ∧ ∃ q, Reach P bars p a b q) ∨ ∃ p', r = .inr (p', true) ∧ r' = .inr (true, p') ∧ Moved P bars k m p a b p') := by
    refine loop_inv2 (fun n s s' => ∃ q M F S, s = ((n : Int), F, q, S) ∧ s' = ((n : Int), M, q) ∧ BF P bars p a q M F S ∧ n ≤ q.length ∧ ZO p a b q ∧ (∀ r w, r < n → q[r]? = some w → CL bars p w p.Placed.length q)) _ (P.toNat + 1) (by omega) ⟨[a], _, _, _, rfl, rfl, hstart, Nat.zero_le _, (fun v hv ha _ => absurd (List.mem_singleton.1 hv) ha), (fun r w h => by omega)⟩ (fun n s s' hn hs => ?_) (fun s s' hs => ?_)
    · obtain ⟨q, M, F, S, rfl, rfl, hB, hnl, hz, hc⟩ := hs
      have hql := hB.len
      by_cases hlt : n < q.length
      · have hv := List.getElem?_eq_getElem hlt
        obtain ⟨r, r', e1, e2, hr⟩ := roundB n q[n] q M F S hB hv hz hc
        rcases hr with ⟨q', M', F', S', rfl, rfl, hB', hn', hz', hc'⟩ | ⟨p', rfl, rfl, hmv⟩
        · refine .inl ⟨(((n + 1 : Nat) : Int), F', q', S'), (((n + 1 : Nat) : Int), M', q'), ?_, ?_, q', M', F', S', rfl, rfl, hB', hn', hz', hc'⟩
          · unfold m_spec_l4Find_L4
            simp only [idx_of hv, e1, Option.bind_some, Sum.elim_inl, w64_succ (show n ≤ 1099511627776 by omega)]
            rw [decide_eq_true (by omega), cond_true]
          · unfold m_impl_moveTo_L7
            simp only [e2, Option.bind_some, Sum.elim_inl, w64_succ (show n ≤ 1099511627776 by omega)]
            rw [decide_eq_true (by omega), cond_true]
        · refine .inr ⟨.inr (p', true), .inr (true, p'), ?_, ?_, .inr ⟨p', rfl, rfl, hmv⟩⟩
          · unfold m_spec_l4Find_L4
            simp only [idx_of hv, e1, Option.bind_some, Sum.elim_inr]
            rw [decide_eq_true (by omega), cond_true]
          · unfold m_impl_moveTo_L7
            simp only [e2, Option.bind_some, Sum.elim_inr]
            rw [decide_eq_true (by omega), cond_true]
      · refine .inr ⟨.inl (), .inl (), ?_, ?_, .inl ⟨rfl, rfl, q, List.mem_of_getElem? hB.first, fun v hv => ?_, hz, fun i t ht htq => ?_⟩⟩
        rotate_left 2
        · obtain ⟨r, hr⟩ := List.getElem?_of_mem hv
          exact hB.rng hr
        · obtain ⟨r, hr⟩ := List.getElem?_of_mem htq
          have hrl := (List.getElem?_eq_some_iff.1 hr).1
          have hil := (List.getElem?_eq_some_iff.1 ht).1
          exact hc r t (by omega) hr i t (by omega) ht rfl
        · unfold m_spec_l4Find_L4
          simp only
          rw [decide_eq_false (by omega), cond_false]
        · unfold m_impl_moveTo_L7
          simp only
          rw [decide_eq_false (by omega), cond_false]
    · obtain ⟨q, M, F, S, rfl, rfl, hB, hnl, _, _⟩ := hs
      have hql := hB.len
      omega
  obtain ⟨r, r', e1, e2, hr⟩ := outer
  have hS : m_spec_l4Find g p a b = Sum.elim (fun _ => some (p, false)) (fun r => some r) r := by
    have hra : idx (List.replicate P.toNat false) a = some false := by
      unfold idx
      rw [if_pos a0, List.getElem?_replicate, if_pos (by omega)]
    have hfi := fromInit (g := g) (by omega) (by omega)
    rw [hgp] at hfi
    unfold m_spec_l4Find
    rw [hgp, lenOk_ok (by omega) (by omega), hfi, hra]
    simp only [Option.bind_some, e1]
  have hI : m_impl_moveTo bars p a b = Sum.elim (fun _ => some (false, p)) (fun r => some r) r' := by
    unfold m_impl_moveTo
    rw [e2]
    rfl
  rcases hr with ⟨rfl, rfl, hq⟩ | ⟨p', rfl, rfl, hmv⟩
  · exact .inl ⟨hS, hI, hq⟩
  · exact .inr ⟨p', hS, hI, hmv⟩
def two (p : TPebbles) (a b : Int) : Int := (p.Free[a.toNat]?).getD 0 + (p.Free[b.toNat]?).getD 0
theorem gather_both (hg : GB P bars) (hp : PB P bars k m p) (hm : m ≤ 1000) {g : TGraph} (hgp : g.Points = P) (hgb : g.Bars = bars) {a b : Int} (a0 : 0 ≤ a) (a1 : a < P) (b0 : 0 ≤ b) (b1 : b < P) (hab : a ≠ b) {want : Int} (hw : want ≤ 1000) :
    (∃ p', m_spec_l4Gather g p a b want = some (p', true) ∧ m_impl_gather bars p a b want = some (true, p') ∧ PB P bars k m p' ∧ p'.Placed = p.Placed ∧ want ≤ two p' a b) ∨ ∃ p', m_spec_l4Gather g p a b want = some (p', false) ∧ m_impl_gather bars p a b want = some (false, p') ∧ PB P bars k m p' ∧ p'.Placed = p.Placed ∧ two p' a b < want ∧ (∃ q, Reach P bars p' a b q) ∧ ∃ q, Reach P bars p' b a q := by
  have hwv : ∀ x : Int, 0 ≤ x → x ≤ k → w64 x = x := fun x h1 h2 => by have := hp.k3; exact w64_small (by omega) (by omega)
  have main : ∃ r r', loopM (m_spec_l4Gather_L1 g a b want) BIG (p.Free, p.Tails, p.Placed) = some r ∧ loopM (m_impl_gather_L1 bars a b want) BIG (p.Free, p.Tails, p.Placed) = some r' ∧
      ((∃ p', r = .inl (p'.Free, p'.Tails, p'.Placed) ∧ r' = .inl (p'.Free, p'.Tails, p'.Placed) ∧ PB P bars k m p' ∧ p'.Placed = p.Placed ∧ want ≤ two p' a b) ∨ ∃ p', r = .inr (p', false) ∧ r' = .inr (false, p') ∧ PB P bars k m p' ∧ p'.Placed = p.Placed ∧ two p' a b < want ∧ (∃ q, Reach P bars p' a b q) ∧ ∃ q, Reach P bars p' b a q) := by
    refine loop_inv2 (fun n s s' => ∃ p', s = (p'.Free, p'.Tails, p'.Placed) ∧ s' = (p'.Free, p'.Tails, p'.Placed) ∧ PB P bars k m p' ∧ p'.Placed = p.Placed ∧ (n : Int) ≤ two p' a b) _ 1001 (by omega) ⟨p, rfl, rfl, hp, rfl, ?_⟩ (fun n s s' hn hs => ?_) (fun s s' hs => ?_)
    · obtain ⟨fa, hfa, _, fa0, _⟩ := hp.free_in a0 a1
      obtain ⟨fb, hfb, _, fb0, _⟩ := hp.free_in b0 b1
      unfold two
      rw [hfa, hfb]
      simp only [Option.getD_some]
      omega
    · obtain ⟨p', rfl, rfl, hp', hpl, hn2⟩ := hs
      obtain ⟨fa, hfa, hia, fa0, fak⟩ := hp'.free_in a0 a1
      obtain ⟨fb, hfb, hib, fb0, fbk⟩ := hp'.free_in b0 b1
      have k3 := hp'.k3
      have htwo : two p' a b = fa + fb := by
        unfold two
        rw [hfa, hfb]
        rfl
      have hsum : w64 (fa + fb) = fa + fb := w64_small (by omega) (by omega)
      by_cases hlt : fa + fb < want
      · rcases find_both hg hp' hm hgp hgb a0 a1 b0 b1 hab with ⟨s1, i1, hq1⟩ | ⟨p2, s1, i1, hmv⟩
        · rcases find_both hg hp' hm hgp hgb b0 b1 a0 a1 (Ne.symm hab) with ⟨s2, i2, hq2⟩ | ⟨p2, s2, i2, hmv⟩
          · refine .inr ⟨.inr (p', false), .inr (false, p'), ?_, ?_, .inr ⟨p', rfl, rfl, hp', hpl, by omega, hq1, hq2⟩⟩
            · unfold m_spec_l4Gather_L1
              simp only [hia, hib, Option.bind_some, hsum, decide_eq_true hlt, cond_true, s1, s2, cond_false, Bool.not_false]
            · unfold m_impl_gather_L1
              simp only [hia, hib, Option.bind_some, hsum, decide_eq_true hlt, cond_true, i1, i2, Bool.not_false]
          · refine .inl ⟨(p2.Free, p2.Tails, p2.Placed), (p2.Free, p2.Tails, p2.Placed), ?_, ?_, p2, rfl, rfl, hmv.pb, hmv.placed.trans hpl, ?_⟩
            · unfold m_spec_l4Gather_L1
              simp only [hia, hib, Option.bind_some, hsum, decide_eq_true hlt, cond_true, s1, s2, cond_false, Bool.not_false, Bool.not_true]
            · unfold m_impl_gather_L1
              simp only [hia, hib, Option.bind_some, hsum, decide_eq_true hlt, cond_true, i1, i2, Bool.not_false, Bool.not_true, cond_false]
            · have h1 := hmv.fa hfb
              have h2 := hmv.fb
              rw [hfa] at h2
              unfold two
              rw [h1, h2]
              simp only [Option.getD_some]
              omega
        · refine .inl ⟨(p2.Free, p2.Tails, p2.Placed), (p2.Free, p2.Tails, p2.Placed), ?_, ?_, p2, rfl, rfl, hmv.pb, hmv.placed.trans hpl, ?_⟩
          · unfold m_spec_l4Gather_L1
            simp only [hia, hib, Option.bind_some, hsum, decide_eq_true hlt, cond_true, s1, cond_false, Bool.not_true]
          · unfold m_impl_gather_L1
            simp only [hia, hib, Option.bind_some, hsum, decide_eq_true hlt, cond_true, i1, Bool.not_true, cond_false]
          · have h1 := hmv.fa hfa
            have h2 := hmv.fb
            rw [hfb] at h2
            unfold two
            rw [h1, h2]
            simp only [Option.getD_some]
            omega
      · refine .inr ⟨.inl (p'.Free, p'.Tails, p'.Placed), .inl (p'.Free, p'.Tails, p'.Placed), ?_, ?_, .inl ⟨p', rfl, rfl, hp', hpl, by omega⟩⟩
        · unfold m_spec_l4Gather_L1
          simp only [hia, hib, Option.bind_some, hsum, decide_eq_false hlt, cond_false]
        · unfold m_impl_gather_L1
          simp only [hia, hib, Option.bind_some, hsum, decide_eq_false hlt, cond_false]
    · obtain ⟨p', rfl, rfl, hp', hpl, hn2⟩ := hs
      obtain ⟨fa, hfa, hia, fa0, fak⟩ := hp'.free_in a0 a1
      obtain ⟨fb, hfb, hib, fb0, fbk⟩ := hp'.free_in b0 b1
      have k3 := hp'.k3
      unfold two at hn2
      rw [hfa, hfb] at hn2
      simp only [Option.getD_some] at hn2
      omega
  obtain ⟨r, r', e1, e2, hr⟩ := main
  have hS : m_spec_l4Gather g p a b want = Sum.elim (fun b27 => some (TPebbles.mk b27.1 b27.2.1 b27.2.2, true)) (fun r => some r) r := by
    unfold m_spec_l4Gather
    rw [l4Copy_eq hg hp hm]
    simp only [Option.bind_some, e1]
  have hI : m_impl_gather bars p a b want = Sum.elim (fun b24 => some (true, TPebbles.mk b24.1 b24.2.1 b24.2.2)) (fun r => some r) r' := by
    unfold m_impl_gather
    rw [e2]
    rfl
  rcases hr with ⟨p', rfl, rfl, h1, h2, h3⟩ | ⟨p', rfl, rfl, h1⟩
  · exact .inl ⟨p', hS, hI, h1, h2, h3⟩
  · exact .inr ⟨p', hS, hI, h1⟩
end
end Go.Proofs.Ytghofbijdnenoaa
end
