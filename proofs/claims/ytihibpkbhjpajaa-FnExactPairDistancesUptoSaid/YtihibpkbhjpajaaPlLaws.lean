/- The laws of this seat: the model of each law gives true. Written by a program of mine. -/
import Derived.Test.YtihibpkbhjpajaaPlPinned
set_option linter.unusedVariables false
set_option linter.unusedSimpArgs false
open Go Go.Fw
namespace Go.Proofs.Ytihibpkbhjpajaa
theorem law_FnExactWithoutPoints (aG : TGraph) (aSet : (List Int)) {p0 p1 : Prop} (_ : p0) (_ : p1) (l0 : aG.Bars.length ≤ 1048576) (l1 : aSet.length ≤ 1048576) : m_laws_FnExactWithoutPoints aG aSet = some true := by
  obtain ⟨w, hs, hi, hw0⟩ := both_WithoutPoints aG aSet l0 l1
  have s0 : SM aG.Bars.length := by omega
  have s1 : SM aSet.length := by omega
  unfold m_laws_FnExactWithoutPoints
  rw [decide_eq_false (show ¬ ((1048576 : Int) < (aSet.length : Int)) by omega), cond_false]
  obtain ⟨z0, e0⟩ := szGraph_some aG 1048576
  rw [e0, Option.bind_some]
  cases decide (z0 < 0)
  rotate_left
  · rfl
  simp only [cond_false]
  simp only [hs, hi, toGraph_eq aG s0, eqGraph_refl aG s0, markGraph_eq aG s0 1 (by omega) (by omega), toIntS_eq aSet s1, eqIntS_refl aSet s1, markIntS_eq aSet s1 (1 + 2 * (aG.Bars.length : Int)) ⟨by omega, by omega⟩, eqGraph_refl w hw0, markGraph_eq w hw0 1 (by omega) (by omega), heldGraph_eq w.Points w.Bars.length hw0 1 (by omega) (by omega), decide_eq_false (show ¬ ((1 + 2 * (aG.Bars.length : Int)) + (aSet.length : Int)) < 0 by omega), decide_eq_false (show ¬ (1 + 2 * (w.Bars.length : Int)) < 0 by omega), mkBarS_len, same_ok, Option.bind_some, bne_self_eq_false, beq_self_eq_true, Bool.not_true, Bool.not_false, cond_true, cond_false]
theorem law_FnExactIsPinned (aP : TPinned) {p0 : Prop} (_ : p0) (l0 : aP.Graph.Bars.length ≤ 1048576) (l1 : aP.Ground.length ≤ 1048576) : m_laws_FnExactIsPinned aP = some true := by
  obtain ⟨w, hs, hi⟩ := both_IsPinned aP l0 l1
  have s0 : SM aP.Graph.Bars.length := by omega
  have s1 : SM aP.Ground.length := by omega
  unfold m_laws_FnExactIsPinned
  obtain ⟨z0, e0⟩ := szPinned_some aP 1048576
  rw [e0, Option.bind_some]
  cases decide (z0 < 0)
  rotate_left
  · rfl
  simp only [cond_false]
  simp only [hs, hi, toPinned_eq aP s0 s1, eqPinned_refl aP s0 s1, decide_eq_false (show ¬ ((1 + 2 * (aP.Graph.Bars.length : Int)) + (aP.Ground.length : Int)) < 0 by omega), same_ok, Option.bind_some, bne_self_eq_false, beq_self_eq_true, Bool.not_true, Bool.not_false, cond_true, cond_false]
theorem law_FnExactIsCongruent (aA : TFramework) (aB : TFramework) {p0 p1 : Prop} (_ : p0) (_ : p1) (l0 : aA.Graph.Bars.length ≤ 1048576) (l1 : aA.Places.length ≤ 1048576) (l2 : aB.Graph.Bars.length ≤ 1048576) (l3 : aB.Places.length ≤ 1048576) : m_laws_FnExactIsCongruent aA aB = some true := by
  obtain ⟨w, hs, hi⟩ := both_IsCongruent aA aB l0 l1 l2 l3
  have s0 : SM aA.Graph.Bars.length := by omega
  have s1 : SM aA.Places.length := by omega
  have s2 : SM aB.Graph.Bars.length := by omega
  have s3 : SM aB.Places.length := by omega
  unfold m_laws_FnExactIsCongruent
  obtain ⟨z0, e0⟩ := szFramework_some aA 1048576
  rw [e0, Option.bind_some]
  cases decide (z0 < 0)
  rotate_left
  · rfl
  simp only [cond_false]
  obtain ⟨z1, e1⟩ := szFramework_some aB z0
  rw [e1, Option.bind_some]
  cases decide (z1 < 0)
  rotate_left
  · rfl
  simp only [cond_false]
  simp only [hs, hi, toFramework_eq aA s0 s1, eqFramework_refl aA s0 s1, toFramework_eq aB s2 s3, eqFramework_refl aB s2 s3, decide_eq_false (show ¬ ((((1 + 2 * (aA.Graph.Bars.length : Int)) + 2 * (aA.Places.length : Int)) + 2 * (aB.Graph.Bars.length : Int)) + 2 * (aB.Places.length : Int)) < 0 by omega), same_ok, Option.bind_some, bne_self_eq_false, beq_self_eq_true, Bool.not_true, Bool.not_false, cond_true, cond_false]
theorem law_FnExactIsTensegrity (aT : TTensegrity) {p0 : Prop} (_ : p0) (l0 : aT.Framework.Graph.Bars.length ≤ 1048576) (l1 : aT.Framework.Places.length ≤ 1048576) (l2 : aT.Kinds.length ≤ 1048576) : m_laws_FnExactIsTensegrity aT = some true := by
  obtain ⟨w, hs, hi⟩ := both_IsTensegrity aT l0 l1 l2
  have s0 : SM aT.Framework.Graph.Bars.length := by omega
  have s1 : SM aT.Framework.Places.length := by omega
  have s2 : SM aT.Kinds.length := by omega
  unfold m_laws_FnExactIsTensegrity
  obtain ⟨z0, e0⟩ := szTensegrity_some aT 1048576
  rw [e0, Option.bind_some]
  cases decide (z0 < 0)
  rotate_left
  · rfl
  simp only [cond_false]
  simp only [hs, hi, toTensegrity_eq aT s0 s1 s2, eqTensegrity_refl aT s0 s1 s2, decide_eq_false (show ¬ (((1 + 2 * (aT.Framework.Graph.Bars.length : Int)) + 2 * (aT.Framework.Places.length : Int)) + (aT.Kinds.length : Int)) < 0 by omega), same_ok, Option.bind_some, bne_self_eq_false, beq_self_eq_true, Bool.not_true, Bool.not_false, cond_true, cond_false]
theorem law_FnExactInnerPoints (aP : TPinned) {p0 : Prop} (_ : p0) (l0 : aP.Graph.Bars.length ≤ 1048576) (l1 : aP.Ground.length ≤ 1048576) : m_laws_FnExactInnerPoints aP = some true := by
  obtain ⟨w, hs, hi, hw0⟩ := both_InnerPoints aP l0 l1
  have s0 : SM aP.Graph.Bars.length := by omega
  have s1 : SM aP.Ground.length := by omega
  unfold m_laws_FnExactInnerPoints
  obtain ⟨z0, e0⟩ := szPinned_some aP 1048576
  rw [e0, Option.bind_some]
  cases decide (z0 < 0)
  rotate_left
  · rfl
  simp only [cond_false]
  simp only [hs, hi, toPinned_eq aP s0 s1, eqPinned_refl aP s0 s1, markPinned_eq aP s0 s1 1 (by omega) (by omega), eqIntS_refl w hw0, markIntS_eq w hw0 1 ⟨by omega, by omega⟩, heldIntS_eq w.length hw0 1 ⟨by omega, by omega⟩, decide_eq_false (show ¬ ((1 + 2 * (aP.Graph.Bars.length : Int)) + (aP.Ground.length : Int)) < 0 by omega), decide_eq_false (show ¬ (1 + (w.length : Int)) < 0 by omega), mkIntS_len, same_ok, Option.bind_some, bne_self_eq_false, beq_self_eq_true, Bool.not_true, Bool.not_false, cond_true, cond_false]
theorem law_FnExactPairDistances (aF : TFramework) {p0 : Prop} (_ : p0) (l0 : aF.Graph.Bars.length ≤ 1048576) (l1 : aF.Places.length ≤ 1048576) : m_laws_FnExactPairDistances aF = some true := by
  obtain ⟨w, hs, hi, hw0⟩ := both_PairDistances aF l0 l1
  have s0 : SM aF.Graph.Bars.length := by omega
  have s1 : SM aF.Places.length := by omega
  unfold m_laws_FnExactPairDistances
  obtain ⟨z0, e0⟩ := szFramework_some aF 1048576
  rw [e0, Option.bind_some]
  cases decide (z0 < 0)
  rotate_left
  · rfl
  simp only [cond_false]
  simp only [hs, hi, toFramework_eq aF s0 s1, eqFramework_refl aF s0 s1, markFramework_eq aF s0 s1 1 (by omega) (by omega), eqIntS_refl w hw0, markIntS_eq w hw0 1 ⟨by omega, by omega⟩, heldIntS_eq w.length hw0 1 ⟨by omega, by omega⟩, decide_eq_false (show ¬ ((1 + 2 * (aF.Graph.Bars.length : Int)) + 2 * (aF.Places.length : Int)) < 0 by omega), decide_eq_false (show ¬ (1 + (w.length : Int)) < 0 by omega), mkIntS_len, same_ok, Option.bind_some, bne_self_eq_false, beq_self_eq_true, Bool.not_true, Bool.not_false, cond_true, cond_false]
theorem law_FnExactPlacesFor (aG : TGraph) (aSeed : Int) {p0 p1 : Prop} (_ : p0) (_ : p1) (l0 : aG.Bars.length ≤ 1048576) : m_laws_FnExactPlacesFor aG aSeed = some true := by
  obtain ⟨w, hs, hi, hw0, hw1⟩ := both_PlacesFor aG aSeed l0
  have s0 : SM aG.Bars.length := by omega
  unfold m_laws_FnExactPlacesFor
  obtain ⟨z0, e0⟩ := szGraph_some aG 1048576
  rw [e0, Option.bind_some]
  cases decide (z0 < 0)
  rotate_left
  · rfl
  simp only [cond_false]
  simp only [hs, hi, toGraph_eq aG s0, eqGraph_refl aG s0, markGraph_eq aG s0 1 (by omega) (by omega), eqFramework_refl w.1 hw0 hw1, markFramework_eq w.1 hw0 hw1 1 (by omega) (by omega), heldFramework_eq w.1.Graph.Points w.1.Graph.Bars.length w.1.Places.length hw0 hw1 1 (by omega) (by omega), decide_eq_false (show ¬ (1 + 2 * (aG.Bars.length : Int)) < 0 by omega), decide_eq_false (show ¬ ((1 + 2 * (w.1.Graph.Bars.length : Int)) + 2 * (w.1.Places.length : Int)) < 0 by omega), mkBarS_len, mkPlaceS_len, same_ok, Option.bind_some, bne_self_eq_false, beq_self_eq_true, Bool.not_true, Bool.not_false, cond_true, cond_false]
end Go.Proofs.Ytihibpkbhjpajaa
