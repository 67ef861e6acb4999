/- The laws of this seat: the model of each law gives true. Written by a program of mine. -/
import Derived.Test.YtiphmhofhgbhlaaPlGlob
set_option linter.unusedVariables false
set_option linter.unusedSimpArgs false
set_option linter.unnecessarySimpa false
open Go Go.Fw
namespace Go.Proofs.Ytiphmhofhgbhlaa
theorem law_FnExactRedundantBars (aG : TGraph) {p0 : Prop} (_ : p0) (l0 : aG.Bars.length ≤ 1048576) : m_laws_FnExactRedundantBars aG = some true := by
  obtain ⟨w, hs, hi, hw0⟩ := both_RedundantBars aG l0
  have s0 : SM aG.Bars.length := by omega
  unfold m_laws_FnExactRedundantBars
  obtain ⟨z0, e0⟩ := szGraph_some aG 1048576
  rw [e0, Option.bind_some]
  cases decide (z0 < 0)
  rotate_left
  · rfl
  simp only [cond_false]
  simp only [hs, hi, toGraph_eq aG s0, eqGraph_refl aG s0, markGraph_eq aG s0 1 (by omega) (by omega), eqIntS_refl w hw0, markIntS_eq w hw0 1 ⟨by omega, by omega⟩, heldIntS_eq w.length hw0 1 ⟨by omega, by omega⟩, decide_eq_false (show ¬ (1 + 2 * (aG.Bars.length : Int)) < 0 by omega), decide_eq_false (show ¬ (1 + (w.length : Int)) < 0 by omega), mkIntS_len, same_ok, Option.bind_some, bne_self_eq_false, beq_self_eq_true, Bool.not_true, Bool.not_false, cond_true, cond_false]
theorem law_FnExactWhyNotGlobal (aG : TGraph) {p0 : Prop} (_ : p0) (l0 : aG.Bars.length ≤ 1048576) : m_laws_FnExactWhyNotGlobal aG = some true := by
  obtain ⟨w, hs, hi⟩ := both_WhyNotGlobal aG l0
  have s0 : SM aG.Bars.length := by omega
  unfold m_laws_FnExactWhyNotGlobal
  obtain ⟨z0, e0⟩ := szGraph_some aG 1048576
  rw [e0, Option.bind_some]
  cases decide (z0 < 0)
  rotate_left
  · rfl
  simp only [cond_false]
  simp only [hs, hi, toGraph_eq aG s0, eqGraph_refl aG s0, decide_eq_false (show ¬ (1 + 2 * (aG.Bars.length : Int)) < 0 by omega), same_ok, Option.bind_some, bne_self_eq_false, beq_self_eq_true, Bool.not_true, Bool.not_false, cond_true, cond_false]
theorem law_FnExactIsGloballyRigid (aG : TGraph) {p0 : Prop} (_ : p0) (l0 : aG.Bars.length ≤ 1048576) : m_laws_FnExactIsGloballyRigid aG = some true := by
  obtain ⟨w, hs, hi⟩ := both_IsGloballyRigid aG l0
  have s0 : SM aG.Bars.length := by omega
  unfold m_laws_FnExactIsGloballyRigid
  obtain ⟨z0, e0⟩ := szGraph_some aG 1048576
  rw [e0, Option.bind_some]
  cases decide (z0 < 0)
  rotate_left
  · rfl
  simp only [cond_false]
  simp only [hs, hi, toGraph_eq aG s0, eqGraph_refl aG s0, decide_eq_false (show ¬ (1 + 2 * (aG.Bars.length : Int)) < 0 by omega), same_ok, Option.bind_some, bne_self_eq_false, beq_self_eq_true, Bool.not_true, Bool.not_false, cond_true, cond_false]
end Go.Proofs.Ytiphmhofhgbhlaa
