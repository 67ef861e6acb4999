/- Plain: the law FnExactHingeGraph's model returns true. -/
import Derived.Test.YtihibpkbhjpajaaPlGraph
open Go Go.Fw
namespace Go.Proofs.Ytihibpkbhjpajaa

theorem isGraph_some (g : TGraph) (h : g.Bars.length ≤ 2147483648) : ∃ b, m_impl_IsGraph g = some b := by
  have hl : ∃ r, loopM (m_impl_IsGraph_L1 g) BIG 0 = some r := by
    refine count_exit g.Bars.length (by omega) (fun k hk => ?_) ⟨.inl (), by simp [m_impl_IsGraph_L1]⟩
    have hc : ∀ x y, ∃ c, m_impl_compareBars x y = some c := fun x y => by
      unfold m_impl_compareBars
      rw [compareInts_eq, compareInts_eq, Option.bind_some]
      cases (if x.A < y.A then (-1 : Int) else if y.A < x.A then 1 else 0) != 0 <;> exact ⟨_, rfl⟩
    have hj : ∃ b : Bool, ((bif decide (g.Bars[k].A < 0) then some true else bif decide (g.Bars[k].B ≤ g.Bars[k].A) then some true else bif decide (g.Points ≤ g.Bars[k].B) then some true
        else bif decide (0 < (k : Int)) then (idx g.Bars (w64 ((k : Int) - 1))).bind fun x => (m_impl_compareBars x g.Bars[k]).bind fun r => some (decide (0 < r)) else some false) : Option Bool) = some b := by
      cases decide (g.Bars[k].A < 0)
      · cases decide (g.Bars[k].B ≤ g.Bars[k].A)
        · cases decide (g.Points ≤ g.Bars[k].B)
          · cases hk0 : decide (0 < (k : Int))
            · exact ⟨_, rfl⟩
            · have hk1 : 0 < k := by have := of_decide_eq_true hk0; omega
              have e : w64 ((k : Int) - 1) = ((k - 1 : Nat) : Int) := by rw [w64_small (by omega) (by omega)]; omega
              obtain ⟨c, hc⟩ := hc (g.Bars[k - 1]'(by omega)) g.Bars[k]
              refine ⟨decide (0 < c), ?_⟩
              simp only [cond_false, cond_true, e, idx_at (show k - 1 < g.Bars.length by omega), Option.bind_some, hc]
          · exact ⟨_, rfl⟩
        · exact ⟨_, rfl⟩
      · exact ⟨_, rfl⟩
    obtain ⟨b, hb⟩ := hj
    unfold m_impl_IsGraph_L1
    rw [decide_eq_true (by omega), cond_true, idx_at hk, Option.bind_some, hb, Option.bind_some]
    cases b
    · exact .inl rfl
    · exact .inr ⟨_, rfl⟩
  obtain ⟨r, hr⟩ := hl
  unfold m_impl_IsGraph
  rw [within_eq, hr]
  simp only [Option.bind_some]
  cases decide (1 ≤ g.Points) && decide (g.Points ≤ 8)
  · exact ⟨_, rfl⟩
  · cases decide (24 < (g.Bars.length : Int))
    · rcases r with ⟨⟨⟩⟩ | r
      · exact ⟨_, rfl⟩
      · exact ⟨_, rfl⟩
    · exact ⟨_, rfl⟩

theorem hinge_L1 (g : TGraph) : m_spec_HingeGraph_L1 g = m_impl_HingeGraph_L1 g := by
  funext s
  unfold m_spec_HingeGraph_L1 m_impl_HingeGraph_L1
  cases idx g.Bars s.1 <;> rfl
def doubled (l : List TBar) : List TBar := l.flatMap fun b => [b, b]
theorem doubled_length (l : List TBar) : (doubled l).length = 2 * l.length := by
  induction l with
  | nil => rfl
  | cons b r ih =>
    have : doubled (b :: r) = b :: b :: doubled r := rfl
    rw [this]
    simp [ih]
    omega
theorem hinge_loop (g : TGraph) (h : g.Bars.length ≤ 1048576) : loopM (m_impl_HingeGraph_L1 g) BIG (0, []) = some (doubled g.Bars) := by
  refine loopM_run (fun (k : Nat) => ((k : Int), doubled (g.Bars.take k))) g.Bars.length (by omega) (by simp [doubled]) (fun k hk => ?_) (by simp [m_impl_HingeGraph_L1])
  have hl : (doubled (g.Bars.take k)).length = 2 * k := by rw [doubled_length]; simp; omega
  have ht : g.Bars.take (k + 1) = g.Bars.take k ++ [g.Bars[k]] := by rw [List.take_add_one, List.getElem?_eq_getElem hk]; rfl
  have hd : doubled (g.Bars.take (k + 1)) = doubled (g.Bars.take k) ++ [g.Bars[k], g.Bars[k]] := by unfold doubled; rw [ht, List.flatMap_append]; rfl
  simp only [m_impl_HingeGraph_L1, idx_at hk, Option.bind_some]
  rw [decide_eq_true (by omega), cond_true, lim_ok (by simp [hl]; omega), Option.bind_some, w64_succ (by omega), hd]
theorem hinge_both (g : TGraph) (h : g.Bars.length ≤ 1048576) : ∃ w : TGraph × Bool, m_spec_HingeGraph g = some w ∧ m_impl_HingeGraph g = some w ∧ w.1.Bars.length ≤ 2147483648 := by
  obtain ⟨b, hb⟩ := isGraph_some g (by omega)
  unfold m_spec_HingeGraph m_impl_HingeGraph
  rw [isGraph_same, hb, hinge_L1, hinge_loop g h]
  simp only [Option.bind_some]
  cases b
  · exact ⟨_, rfl, rfl, by simp⟩
  · cases decide (24 < w64 (2 * (g.Bars.length : Int)))
    · exact ⟨_, rfl, rfl, by simp [doubled_length]; omega⟩
    · exact ⟨_, rfl, rfl, by simp⟩

theorem law_FnExactHingeGraph (aG : TGraph) {p : Prop} (_ : p) (h : aG.Bars.length ≤ 1048576) : m_laws_FnExactHingeGraph aG = some true := by
  obtain ⟨z, hz⟩ := szGraph_some aG 1048576
  obtain ⟨w, hs, hi, hl⟩ := hinge_both aG h
  unfold m_laws_FnExactHingeGraph
  rw [hz, Option.bind_some, toGraph_eq aG (by omega)]
  cases decide (z < 0)
  · simp only [cond_false, Option.bind_some, hs, hi, eqGraph_refl w.1 hl, eqGraph_refl aG (show aG.Bars.length ≤ 2147483648 by omega), markGraph_eq w.1 hl, markGraph_eq aG (show aG.Bars.length ≤ 2147483648 by omega), marked_length,
      heldGraph_eq _ _ hl, same_ok, bne_self_eq_false, Bool.not_true, toGraph_eq aG (show aG.Bars.length ≤ 2147483648 by omega)]
    rw [decide_eq_false (by omega), decide_eq_false (by omega)]
    simp
  · rfl
end Go.Proofs.Ytihibpkbhjpajaa
