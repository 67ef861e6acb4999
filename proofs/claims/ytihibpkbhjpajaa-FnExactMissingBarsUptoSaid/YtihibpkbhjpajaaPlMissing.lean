/- Plain: the law FnExactMissingBars' model returns true. -/
import Derived.Test.YtihibpkbhjpajaaPlHinge
open Go Go.Fw
namespace Go.Proofs.Ytihibpkbhjpajaa

theorem countBar_L1 (g : TGraph) (a b : Int) : m_spec_CountBar_L1 g a b = m_impl_CountBar_L1 g a b := by
  funext s
  unfold m_spec_CountBar_L1 m_impl_CountBar_L1
  cases idx g.Bars s.2 <;> rfl
theorem countBar_same (g : TGraph) (a b : Int) : m_spec_CountBar g a b = m_impl_CountBar g a b := by
  unfold m_spec_CountBar m_impl_CountBar
  rw [countBar_L1]
theorem countBar_some (g : TGraph) (h : g.Bars.length ≤ 2147483648) (a b : Int) : ∃ c, m_impl_CountBar g a b = some c := by
  obtain ⟨r, hr, _⟩ := loop_inv (b := m_impl_CountBar_L1 g a b) (s := (0, 0)) (fun k s => s.2 = (k : Int)) (fun _ => True) g.Bars.length (by omega) rfl (fun k s hk hs => by
    refine .inl ?_
    obtain ⟨c, i⟩ := s
    simp only at hs
    subst hs
    unfold m_impl_CountBar_L1
    simp only [idx_at hk, Option.bind_some]
    rw [decide_eq_true (by omega), cond_true]
    cases (g.Bars[k].A == a) <;> cases (g.Bars[k].B == b) <;> cases (g.Bars[k].A == b) <;> cases (g.Bars[k].B == a) <;> exact ⟨_, rfl, w64_succ (by omega)⟩) (fun s hs => by
    obtain ⟨c, i⟩ := s
    simp only at hs
    subst hs
    exact ⟨c, by simp [m_impl_CountBar_L1], trivial⟩)
  exact ⟨r, by unfold m_impl_CountBar; rw [hr]; rfl⟩

theorem isGraph_points {g : TGraph} (h : m_impl_IsGraph g = some true) : 1 ≤ g.Points ∧ g.Points ≤ 8 := by
  unfold m_impl_IsGraph at h
  rw [within_eq, Option.bind_some] at h
  cases hb : decide (1 ≤ g.Points) && decide (g.Points ≤ 8) with
  | true =>
    simp only [Bool.and_eq_true, decide_eq_true_eq] at hb
    exact hb
  | false =>
    rw [hb] at h
    simp at h
theorem missing_L4 (g : TGraph) (s : Int × List TBar) : m_spec_MissingBars_L4 g s = m_impl_MissingBars_L4 g s := by
  funext r
  unfold m_spec_MissingBars_L4 m_impl_MissingBars_L4
  rw [countBar_same]
theorem missing_L3 (g : TGraph) (h : m_impl_IsGraph g = some true) : m_spec_MissingBars_L3 g = m_impl_MissingBars_L3 g := by
  funext s
  unfold m_spec_MissingBars_L3 m_impl_MissingBars_L3
  rw [isGraph_same, h, missing_L4]
  cases decide (s.1 < g.Points) <;> rfl
theorem missing_in (g : TGraph) (hl : g.Bars.length ≤ 2147483648) (hp : g.Points ≤ 8) (s : Int × List TBar) (h0 : 0 ≤ s.1) (h1 : s.1 < g.Points) (h2 : s.2.length ≤ 64) :
    ∃ r, loopM (m_impl_MissingBars_L4 g s) BIG (w64 (s.1 + 1), s.2) = some r ∧ (r.1 = s.1 ∧ r.2.length ≤ s.2.length + 8) := by
  refine loop_inv (fun k t => t.1 = s.1 + 1 + (k : Int) ∧ t.2.length ≤ s.2.length + k) _ (g.Points - s.1 - 1).toNat (by omega) ⟨by show w64 (s.1 + 1) = _; rw [w64_small (by omega) (by omega)]; omega, Nat.le_refl _⟩ (fun k t hk ht => .inl ?_) (fun t ht => ?_)
  · obtain ⟨i, out⟩ := t
    obtain ⟨ht1, ht2⟩ := ht
    simp only at ht1 ht2
    obtain ⟨c, hc⟩ := countBar_some g hl s.1 i
    unfold m_impl_MissingBars_L4
    simp only [hc, Option.bind_some]
    rw [decide_eq_true (by omega), cond_true, w64_small (n := i + 1) (by omega) (by omega), lim_ok (by simp; omega), Option.bind_some]
    cases c == 0
    · exact ⟨_, rfl, by simp only; omega, by simp only; omega⟩
    · exact ⟨_, rfl, by simp only; omega, by simp; omega⟩
  · obtain ⟨i, out⟩ := t
    obtain ⟨ht1, ht2⟩ := ht
    simp only at ht1 ht2
    unfold m_impl_MissingBars_L4
    simp only
    rw [decide_eq_false (by omega)]
    exact ⟨_, rfl, rfl, by simp only; omega⟩
theorem missing_both (g : TGraph) (hl : g.Bars.length ≤ 2147483648) : ∃ w, m_spec_MissingBars g = some w ∧ m_impl_MissingBars g = some w ∧ w.length ≤ 2147483648 := by
  obtain ⟨b, hb⟩ := isGraph_some g hl
  cases b with
  | true =>
    obtain ⟨hp1, hp8⟩ := isGraph_points hb
    obtain ⟨r, hr, hq⟩ := loop_inv (b := m_impl_MissingBars_L3 g) (s := (0, [])) (fun k t => t.1 = (k : Int) ∧ t.2.length ≤ 8 * k) (fun r => r.length ≤ 2147483648) g.Points.toNat (by omega) ⟨rfl, Nat.le_refl _⟩ (fun k t hk ht => .inl (by
      obtain ⟨i, out⟩ := t
      obtain ⟨ht1, ht2⟩ := ht
      simp only at ht1 ht2
      obtain ⟨q, h1, h2, h3⟩ := missing_in g hl hp8 (i, out) (by simp only; omega) (by simp only; omega) (by simp only; omega)
      simp only at h1 h2 h3
      unfold m_impl_MissingBars_L3
      simp only [h1, Option.bind_some]
      rw [decide_eq_true (by omega), cond_true, w64_small (by omega) (by omega)]
      exact ⟨_, rfl, by simp only; omega, by simp only; omega⟩)) (fun t ht => by
      obtain ⟨i, out⟩ := t
      obtain ⟨ht1, ht2⟩ := ht
      simp only at ht1 ht2
      unfold m_impl_MissingBars_L3
      simp only
      rw [decide_eq_false (by omega)]
      exact ⟨_, rfl, by omega⟩)
    refine ⟨r, ?_, ?_, hq⟩
    · unfold m_spec_MissingBars
      rw [missing_L3 g hb, hr]
      rfl
    · unfold m_impl_MissingBars
      rw [hb, hr]
      rfl
  | false =>
    refine ⟨[], ?_, ?_, by simp⟩
    · have e : loopM (m_spec_MissingBars_L3 g) BIG (0, []) = some [] := by
        refine loopM_run (fun _ => (0, [])) 0 (by omega) rfl (fun k hk => by omega) ?_
        unfold m_spec_MissingBars_L3
        rw [isGraph_same, hb]
        cases decide ((0 : Int) < g.Points) <;> rfl
      unfold m_spec_MissingBars
      rw [e]
      rfl
    · unfold m_impl_MissingBars
      rw [hb]
      rfl

theorem law_FnExactMissingBars (aG : TGraph) {p : Prop} (_ : p) (h : aG.Bars.length ≤ 1048576) : m_laws_FnExactMissingBars aG = some true := by
  obtain ⟨z, hz⟩ := szGraph_some aG 1048576
  obtain ⟨w, hs, hi, hl⟩ := missing_both aG (by omega)
  unfold m_laws_FnExactMissingBars
  rw [hz, Option.bind_some, toGraph_eq aG (by omega)]
  cases decide (z < 0)
  · simp only [cond_false, Option.bind_some, hs, hi, eqBarS_refl w hl, eqGraph_refl aG (show aG.Bars.length ≤ 2147483648 by omega), markBarS_eq w hl, markGraph_eq aG (show aG.Bars.length ≤ 2147483648 by omega), marked_length,
      heldBarS_eq _ hl, same_ok, bne_self_eq_false, Bool.not_true, toGraph_eq aG (show aG.Bars.length ≤ 2147483648 by omega)]
    rw [decide_eq_false (by omega), decide_eq_false (by omega)]
    simp
  · rfl
end Go.Proofs.Ytihibpkbhjpajaa
