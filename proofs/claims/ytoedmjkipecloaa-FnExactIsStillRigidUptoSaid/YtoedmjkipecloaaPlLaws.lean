/- The laws of this seat: the model of each law gives true. Written by a program of mine. -/
import Derived.Test.YtoedmjkipecloaaPlTriv
import Derived.Test.YtoedmjkipecloaaPlRank
set_option linter.unusedVariables false
set_option linter.unusedSimpArgs false
set_option linter.unnecessarySimpa false
open Go Go.Fw
namespace Go.Proofs.Ytoedmjkipecloaa
theorem law_FnExactSwapKinds (aT : TTensegrity) {p0 : Prop} (_ : p0) (l0 : aT.Framework.Graph.Bars.length ≤ 1048576) (l1 : aT.Framework.Places.length ≤ 1048576) (l2 : aT.Kinds.length ≤ 1048576) : m_laws_FnExactSwapKinds aT = some true := by
  obtain ⟨w, hs, hi, hw0, hw1, hw2⟩ := both_SwapKinds aT l0 l1 l2
  have s0 : SM aT.Framework.Graph.Bars.length := by omega
  have s1 : SM aT.Framework.Places.length := by omega
  have s2 : SM aT.Kinds.length := by omega
  unfold m_laws_FnExactSwapKinds
  obtain ⟨z0, e0⟩ := szTensegrity_some aT 1048576
  rw [e0, Option.bind_some]
  cases decide (z0 < 0)
  rotate_left
  · rfl
  simp only [cond_false]
  simp only [hs, hi, toTensegrity_eq aT s0 s1 s2, eqTensegrity_refl aT s0 s1 s2, markTensegrity_eq aT s0 s1 s2 1 (by omega) (by omega), eqTensegrity_refl w hw0 hw1 hw2, markTensegrity_eq w hw0 hw1 hw2 1 (by omega) (by omega), heldTensegrity_eq w.Framework.Graph.Points w.Framework.Graph.Bars.length w.Framework.Places.length w.Kinds.length hw0 hw1 hw2 1 (by omega) (by omega), decide_eq_false (show ¬ (((1 + 2 * (aT.Framework.Graph.Bars.length : Int)) + 2 * (aT.Framework.Places.length : Int)) + (aT.Kinds.length : Int)) < 0 by omega), decide_eq_false (show ¬ (((1 + 2 * (w.Framework.Graph.Bars.length : Int)) + 2 * (w.Framework.Places.length : Int)) + (w.Kinds.length : Int)) < 0 by omega), mkBarS_len, mkPlaceS_len, mkIntS_len, same_ok, Option.bind_some, bne_self_eq_false, beq_self_eq_true, Bool.not_true, Bool.not_false, cond_true, cond_false]
theorem law_FnExactIsAllowedMotion (aT : TTensegrity) (aV : (List Int)) {p0 p1 : Prop} (_ : p0) (_ : p1) (l0 : aT.Framework.Graph.Bars.length ≤ 1048576) (l1 : aT.Framework.Places.length ≤ 1048576) (l2 : aT.Kinds.length ≤ 1048576) (l3 : aV.length ≤ 1048576) : m_laws_FnExactIsAllowedMotion aT aV = some true := by
  obtain ⟨w, hs, hi⟩ := both_IsAllowedMotion aT aV l0 l1 l2 l3
  have s0 : SM aT.Framework.Graph.Bars.length := by omega
  have s1 : SM aT.Framework.Places.length := by omega
  have s2 : SM aT.Kinds.length := by omega
  have s3 : SM aV.length := by omega
  unfold m_laws_FnExactIsAllowedMotion
  rw [decide_eq_false (show ¬ ((1048576 : Int) < (aV.length : Int)) by omega), cond_false]
  obtain ⟨z0, e0⟩ := szTensegrity_some aT 1048576
  rw [e0, Option.bind_some]
  cases decide (z0 < 0)
  rotate_left
  · rfl
  simp only [cond_false]
  simp only [hs, hi, toTensegrity_eq aT s0 s1 s2, eqTensegrity_refl aT s0 s1 s2, toIntS_eq aV s3, eqIntS_refl aV s3, decide_eq_false (show ¬ ((((1 + 2 * (aT.Framework.Graph.Bars.length : Int)) + 2 * (aT.Framework.Places.length : Int)) + (aT.Kinds.length : Int)) + (aV.length : Int)) < 0 by omega), same_ok, Option.bind_some, bne_self_eq_false, beq_self_eq_true, Bool.not_true, Bool.not_false, cond_true, cond_false]
theorem law_FnExactIsProperStress (aT : TTensegrity) (aW : (List Int)) {p0 p1 : Prop} (_ : p0) (_ : p1) (l0 : aT.Framework.Graph.Bars.length ≤ 1048576) (l1 : aT.Framework.Places.length ≤ 1048576) (l2 : aT.Kinds.length ≤ 1048576) (l3 : aW.length ≤ 1048576) : m_laws_FnExactIsProperStress aT aW = some true := by
  obtain ⟨w, hs, hi⟩ := both_IsProperStress aT aW l0 l1 l2 l3
  have s0 : SM aT.Framework.Graph.Bars.length := by omega
  have s1 : SM aT.Framework.Places.length := by omega
  have s2 : SM aT.Kinds.length := by omega
  have s3 : SM aW.length := by omega
  unfold m_laws_FnExactIsProperStress
  rw [decide_eq_false (show ¬ ((1048576 : Int) < (aW.length : Int)) by omega), cond_false]
  obtain ⟨z0, e0⟩ := szTensegrity_some aT 1048576
  rw [e0, Option.bind_some]
  cases decide (z0 < 0)
  rotate_left
  · rfl
  simp only [cond_false]
  simp only [hs, hi, toTensegrity_eq aT s0 s1 s2, eqTensegrity_refl aT s0 s1 s2, toIntS_eq aW s3, eqIntS_refl aW s3, decide_eq_false (show ¬ ((((1 + 2 * (aT.Framework.Graph.Bars.length : Int)) + 2 * (aT.Framework.Places.length : Int)) + (aT.Kinds.length : Int)) + (aW.length : Int)) < 0 by omega), same_ok, Option.bind_some, bne_self_eq_false, beq_self_eq_true, Bool.not_true, Bool.not_false, cond_true, cond_false]
theorem law_FnExactIsStrictStress (aT : TTensegrity) (aW : (List Int)) {p0 p1 : Prop} (_ : p0) (_ : p1) (l0 : aT.Framework.Graph.Bars.length ≤ 1048576) (l1 : aT.Framework.Places.length ≤ 1048576) (l2 : aT.Kinds.length ≤ 1048576) (l3 : aW.length ≤ 1048576) : m_laws_FnExactIsStrictStress aT aW = some true := by
  obtain ⟨w, hs, hi⟩ := both_IsStrictStress aT aW l0 l1 l2 l3
  have s0 : SM aT.Framework.Graph.Bars.length := by omega
  have s1 : SM aT.Framework.Places.length := by omega
  have s2 : SM aT.Kinds.length := by omega
  have s3 : SM aW.length := by omega
  unfold m_laws_FnExactIsStrictStress
  rw [decide_eq_false (show ¬ ((1048576 : Int) < (aW.length : Int)) by omega), cond_false]
  obtain ⟨z0, e0⟩ := szTensegrity_some aT 1048576
  rw [e0, Option.bind_some]
  cases decide (z0 < 0)
  rotate_left
  · rfl
  simp only [cond_false]
  simp only [hs, hi, toTensegrity_eq aT s0 s1 s2, eqTensegrity_refl aT s0 s1 s2, toIntS_eq aW s3, eqIntS_refl aW s3, decide_eq_false (show ¬ ((((1 + 2 * (aT.Framework.Graph.Bars.length : Int)) + 2 * (aT.Framework.Places.length : Int)) + (aT.Kinds.length : Int)) + (aW.length : Int)) < 0 by omega), same_ok, Option.bind_some, bne_self_eq_false, beq_self_eq_true, Bool.not_true, Bool.not_false, cond_true, cond_false]
theorem law_FnExactProvesLoose (aT : TTensegrity) (aV : (List Int)) {p0 p1 : Prop} (_ : p0) (_ : p1) (l0 : aT.Framework.Graph.Bars.length ≤ 1048576) (l1 : aT.Framework.Places.length ≤ 1048576) (l2 : aT.Kinds.length ≤ 1048576) (l3 : aV.length ≤ 1048576) : m_laws_FnExactProvesLoose aT aV = some true := by
  obtain ⟨w, hs, hi⟩ := both_ProvesLoose aT aV l0 l1 l2 l3
  have s0 : SM aT.Framework.Graph.Bars.length := by omega
  have s1 : SM aT.Framework.Places.length := by omega
  have s2 : SM aT.Kinds.length := by omega
  have s3 : SM aV.length := by omega
  unfold m_laws_FnExactProvesLoose
  rw [decide_eq_false (show ¬ ((1048576 : Int) < (aV.length : Int)) by omega), cond_false]
  obtain ⟨z0, e0⟩ := szTensegrity_some aT 1048576
  rw [e0, Option.bind_some]
  cases decide (z0 < 0)
  rotate_left
  · rfl
  simp only [cond_false]
  simp only [hs, hi, toTensegrity_eq aT s0 s1 s2, eqTensegrity_refl aT s0 s1 s2, toIntS_eq aV s3, eqIntS_refl aV s3, decide_eq_false (show ¬ ((((1 + 2 * (aT.Framework.Graph.Bars.length : Int)) + 2 * (aT.Framework.Places.length : Int)) + (aT.Kinds.length : Int)) + (aV.length : Int)) < 0 by omega), same_ok, Option.bind_some, bne_self_eq_false, beq_self_eq_true, Bool.not_true, Bool.not_false, cond_true, cond_false]
theorem law_FnExactBodyRank (aG : TGraph) {p0 : Prop} (_ : p0) (l0 : aG.Bars.length ≤ 1048576) : m_laws_FnExactBodyRank aG = some true := by
  obtain ⟨w, hs, hi⟩ := both_BodyRank aG l0
  have s0 : SM aG.Bars.length := by omega
  unfold m_laws_FnExactBodyRank
  obtain ⟨z0, e0⟩ := szGraph_some aG 1048576
  rw [e0, Option.bind_some]
  cases decide (z0 < 0)
  rotate_left
  · rfl
  simp only [cond_false]
  simp only [hs, hi, toGraph_eq aG s0, eqGraph_refl aG s0, decide_eq_false (show ¬ (1 + 2 * (aG.Bars.length : Int)) < 0 by omega), same_ok, Option.bind_some, bne_self_eq_false, beq_self_eq_true, Bool.not_true, Bool.not_false, cond_true, cond_false]
theorem law_FnExactBodyFreedom (aG : TGraph) {p0 : Prop} (_ : p0) (l0 : aG.Bars.length ≤ 1048576) : m_laws_FnExactBodyFreedom aG = some true := by
  obtain ⟨w, hs, hi⟩ := both_BodyFreedom aG l0
  have s0 : SM aG.Bars.length := by omega
  unfold m_laws_FnExactBodyFreedom
  obtain ⟨z0, e0⟩ := szGraph_some aG 1048576
  rw [e0, Option.bind_some]
  cases decide (z0 < 0)
  rotate_left
  · rfl
  simp only [cond_false]
  simp only [hs, hi, toGraph_eq aG s0, eqGraph_refl aG s0, decide_eq_false (show ¬ (1 + 2 * (aG.Bars.length : Int)) < 0 by omega), same_ok, Option.bind_some, bne_self_eq_false, beq_self_eq_true, Bool.not_true, Bool.not_false, cond_true, cond_false]
theorem law_FnExactIsBodyRigid (aG : TGraph) {p0 : Prop} (_ : p0) (l0 : aG.Bars.length ≤ 1048576) : m_laws_FnExactIsBodyRigid aG = some true := by
  obtain ⟨w, hs, hi⟩ := both_IsBodyRigid aG l0
  have s0 : SM aG.Bars.length := by omega
  unfold m_laws_FnExactIsBodyRigid
  obtain ⟨z0, e0⟩ := szGraph_some aG 1048576
  rw [e0, Option.bind_some]
  cases decide (z0 < 0)
  rotate_left
  · rfl
  simp only [cond_false]
  simp only [hs, hi, toGraph_eq aG s0, eqGraph_refl aG s0, decide_eq_false (show ¬ (1 + 2 * (aG.Bars.length : Int)) < 0 by omega), same_ok, Option.bind_some, bne_self_eq_false, beq_self_eq_true, Bool.not_true, Bool.not_false, cond_true, cond_false]
theorem law_FnExactHingeFreedom (aG : TGraph) {p0 : Prop} (_ : p0) (l0 : aG.Bars.length ≤ 1048576) : m_laws_FnExactHingeFreedom aG = some true := by
  obtain ⟨w, hs, hi⟩ := both_HingeFreedom aG l0
  have s0 : SM aG.Bars.length := by omega
  unfold m_laws_FnExactHingeFreedom
  obtain ⟨z0, e0⟩ := szGraph_some aG 1048576
  rw [e0, Option.bind_some]
  cases decide (z0 < 0)
  rotate_left
  · rfl
  simp only [cond_false]
  simp only [hs, hi, toGraph_eq aG s0, eqGraph_refl aG s0, decide_eq_false (show ¬ (1 + 2 * (aG.Bars.length : Int)) < 0 by omega), same_ok, Option.bind_some, bne_self_eq_false, beq_self_eq_true, Bool.not_true, Bool.not_false, cond_true, cond_false]
theorem law_FnExactFragileBars (aG : TGraph) {p0 : Prop} (_ : p0) (l0 : aG.Bars.length ≤ 1048576) : m_laws_FnExactFragileBars aG = some true := by
  obtain ⟨w, hs, hi, hw0⟩ := both_FragileBars aG l0
  have s0 : SM aG.Bars.length := by omega
  unfold m_laws_FnExactFragileBars
  obtain ⟨z0, e0⟩ := szGraph_some aG 1048576
  rw [e0, Option.bind_some]
  cases decide (z0 < 0)
  rotate_left
  · rfl
  simp only [cond_false]
  simp only [hs, hi, toGraph_eq aG s0, eqGraph_refl aG s0, markGraph_eq aG s0 1 (by omega) (by omega), eqIntS_refl w hw0, markIntS_eq w hw0 1 ⟨by omega, by omega⟩, heldIntS_eq w.length hw0 1 ⟨by omega, by omega⟩, decide_eq_false (show ¬ (1 + 2 * (aG.Bars.length : Int)) < 0 by omega), decide_eq_false (show ¬ (1 + (w.length : Int)) < 0 by omega), mkIntS_len, same_ok, Option.bind_some, bne_self_eq_false, beq_self_eq_true, Bool.not_true, Bool.not_false, cond_true, cond_false]
theorem law_FnExactIsRedundantlyRigid (aG : TGraph) {p0 : Prop} (_ : p0) (l0 : aG.Bars.length ≤ 1048576) : m_laws_FnExactIsRedundantlyRigid aG = some true := by
  obtain ⟨w, hs, hi⟩ := both_IsRedundantlyRigid aG l0
  have s0 : SM aG.Bars.length := by omega
  unfold m_laws_FnExactIsRedundantlyRigid
  obtain ⟨z0, e0⟩ := szGraph_some aG 1048576
  rw [e0, Option.bind_some]
  cases decide (z0 < 0)
  rotate_left
  · rfl
  simp only [cond_false]
  simp only [hs, hi, toGraph_eq aG s0, eqGraph_refl aG s0, decide_eq_false (show ¬ (1 + 2 * (aG.Bars.length : Int)) < 0 by omega), same_ok, Option.bind_some, bne_self_eq_false, beq_self_eq_true, Bool.not_true, Bool.not_false, cond_true, cond_false]
theorem law_FnExactIsStillRigid (aG : TGraph) (aBroken : (List Int)) {p0 p1 : Prop} (_ : p0) (_ : p1) (l0 : aG.Bars.length ≤ 1048576) (l1 : aBroken.length ≤ 1048576) : m_laws_FnExactIsStillRigid aG aBroken = some true := by
  obtain ⟨w, hs, hi⟩ := both_IsStillRigid aG aBroken l0 l1
  have s0 : SM aG.Bars.length := by omega
  have s1 : SM aBroken.length := by omega
  unfold m_laws_FnExactIsStillRigid
  rw [decide_eq_false (show ¬ ((1048576 : Int) < (aBroken.length : Int)) by omega), cond_false]
  obtain ⟨z0, e0⟩ := szGraph_some aG 1048576
  rw [e0, Option.bind_some]
  cases decide (z0 < 0)
  rotate_left
  · rfl
  simp only [cond_false]
  simp only [hs, hi, toGraph_eq aG s0, eqGraph_refl aG s0, toIntS_eq aBroken s1, eqIntS_refl aBroken s1, decide_eq_false (show ¬ ((1 + 2 * (aG.Bars.length : Int)) + (aBroken.length : Int)) < 0 by omega), same_ok, Option.bind_some, bne_self_eq_false, beq_self_eq_true, Bool.not_true, Bool.not_false, cond_true, cond_false]
end Go.Proofs.Ytoedmjkipecloaa
