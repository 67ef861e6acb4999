/- The laws of this seat: the model of each law gives true. Written by a program of mine. -/
import Derived.Test.YtfiiebikkimjbaaPlCut
set_option linter.unusedVariables false
set_option linter.unusedSimpArgs false
set_option linter.unnecessarySimpa false
open Go Go.Fw
namespace Go.Proofs.Ytfiiebikkimjbaa
theorem law_FnExactCutSets (aG : TGraph) (aK : Int) {p0 p1 : Prop} (_ : p0) (_ : p1) (l0 : aG.Bars.length ≤ 1048576) : m_laws_FnExactCutSets aG aK = some true := by
  obtain ⟨w, hs, hi, hw0⟩ := both_CutSets aG aK l0
  have s0 : SM aG.Bars.length := by omega
  unfold m_laws_FnExactCutSets
  obtain ⟨z0, e0⟩ := szGraph_some aG 1048576
  rw [e0, Option.bind_some]
  cases decide (z0 < 0)
  rotate_left
  · rfl
  simp only [cond_false]
  simp only [hs, hi, toGraph_eq aG s0, eqGraph_refl aG s0, markGraph_eq aG s0 1 (by omega) (by omega), eqIntSS_refl w hw0, markIntSS_eq w hw0 1 ⟨by omega, by omega⟩ (by omega), heldIntSS_eq w hw0 1 ⟨by omega, by omega⟩ (by omega), decide_eq_false (show ¬ (1 + 2 * (aG.Bars.length : Int)) < 0 by omega), decide_eq_false (show ¬ (1 + (tot (lns w) : Int)) < 0 by omega), mkIntSS_len, lns_len, same_ok, Option.bind_some, bne_self_eq_false, beq_self_eq_true, Bool.not_true, Bool.not_false, cond_true, cond_false]
theorem law_FnExactHingePairs (aG : TGraph) {p0 : Prop} (_ : p0) (l0 : aG.Bars.length ≤ 1048576) : m_laws_FnExactHingePairs aG = some true := by
  obtain ⟨w, hs, hi, hw0⟩ := both_HingePairs aG l0
  have s0 : SM aG.Bars.length := by omega
  unfold m_laws_FnExactHingePairs
  obtain ⟨z0, e0⟩ := szGraph_some aG 1048576
  rw [e0, Option.bind_some]
  cases decide (z0 < 0)
  rotate_left
  · rfl
  simp only [cond_false]
  simp only [hs, hi, toGraph_eq aG s0, eqGraph_refl aG s0, markGraph_eq aG s0 1 (by omega) (by omega), eqIntSS_refl w hw0, markIntSS_eq w hw0 1 ⟨by omega, by omega⟩ (by omega), heldIntSS_eq w hw0 1 ⟨by omega, by omega⟩ (by omega), decide_eq_false (show ¬ (1 + 2 * (aG.Bars.length : Int)) < 0 by omega), decide_eq_false (show ¬ (1 + (tot (lns w) : Int)) < 0 by omega), mkIntSS_len, lns_len, same_ok, Option.bind_some, bne_self_eq_false, beq_self_eq_true, Bool.not_true, Bool.not_false, cond_true, cond_false]
end Go.Proofs.Ytfiiebikkimjbaa
