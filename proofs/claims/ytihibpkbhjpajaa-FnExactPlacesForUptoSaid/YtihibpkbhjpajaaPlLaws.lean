/- The laws of this seat: the model of each law gives true. Written by a program of mine. -/
import Derived.Test.YtihibpkbhjpajaaPlConn
set_option linter.unusedVariables false
set_option linter.unusedSimpArgs false
set_option linter.unnecessarySimpa false
open Go Go.Fw
namespace Go.Proofs.Ytihibpkbhjpajaa
theorem law_FnExactPlacesFor (aG : TGraph) (aSeed : Int) {p0 p1 : Prop} (_ : p0) (_ : p1) (l0 : aG.Bars.length ≤ 1048576) : m_laws_FnExactPlacesFor aG aSeed = some true := by
  obtain ⟨w, hs, hi, hw0, hw1⟩ := both_PlacesFor aG aSeed l0
  have s0 : SM aG.Bars.length := by omega
  unfold m_laws_FnExactPlacesFor
  obtain ⟨z0, e0⟩ := szGraph_some aG 1048576
  rw [e0, Option.bind_some]
  cases decide (z0 < 0)
  rotate_left
  · rfl
  simp only [cond_false]
  simp only [hs, hi, toGraph_eq aG s0, eqGraph_refl aG s0, markGraph_eq aG s0 1 (by omega) (by omega), eqFramework_refl w.1 hw0 hw1, markFramework_eq w.1 hw0 hw1 1 (by omega) (by omega), heldFramework_eq w.1.Graph.Points w.1.Graph.Bars.length w.1.Places.length hw0 hw1 1 (by omega) (by omega), decide_eq_false (show ¬ (1 + 2 * (aG.Bars.length : Int)) < 0 by omega), decide_eq_false (show ¬ ((1 + 2 * (w.1.Graph.Bars.length : Int)) + 2 * (w.1.Places.length : Int)) < 0 by omega), mkBarS_len, mkPlaceS_len, same_ok, Option.bind_some, bne_self_eq_false, beq_self_eq_true, Bool.not_true, Bool.not_false, cond_true, cond_false]
theorem law_FnExactIsKConnected (aG : TGraph) (aK : Int) {p0 p1 : Prop} (_ : p0) (_ : p1) (l0 : aG.Bars.length ≤ 1048576) : m_laws_FnExactIsKConnected aG aK = some true := by
  obtain ⟨w, hs, hi⟩ := both_IsKConnected aG aK l0
  have s0 : SM aG.Bars.length := by omega
  unfold m_laws_FnExactIsKConnected
  obtain ⟨z0, e0⟩ := szGraph_some aG 1048576
  rw [e0, Option.bind_some]
  cases decide (z0 < 0)
  rotate_left
  · rfl
  simp only [cond_false]
  simp only [hs, hi, toGraph_eq aG s0, eqGraph_refl aG s0, decide_eq_false (show ¬ (1 + 2 * (aG.Bars.length : Int)) < 0 by omega), same_ok, Option.bind_some, bne_self_eq_false, beq_self_eq_true, Bool.not_true, Bool.not_false, cond_true, cond_false]
theorem law_FnExactConnectivityOf (aG : TGraph) {p0 : Prop} (_ : p0) (l0 : aG.Bars.length ≤ 1048576) : m_laws_FnExactConnectivityOf aG = some true := by
  obtain ⟨w, hs, hi⟩ := both_ConnectivityOf aG l0
  have s0 : SM aG.Bars.length := by omega
  unfold m_laws_FnExactConnectivityOf
  obtain ⟨z0, e0⟩ := szGraph_some aG 1048576
  rw [e0, Option.bind_some]
  cases decide (z0 < 0)
  rotate_left
  · rfl
  simp only [cond_false]
  simp only [hs, hi, toGraph_eq aG s0, eqGraph_refl aG s0, decide_eq_false (show ¬ (1 + 2 * (aG.Bars.length : Int)) < 0 by omega), same_ok, Option.bind_some, bne_self_eq_false, beq_self_eq_true, Bool.not_true, Bool.not_false, cond_true, cond_false]
end Go.Proofs.Ytihibpkbhjpajaa
