/- Plain: globally rigid graphs: WhyNotGlobal and IsGloballyRigid. -/
import Derived.Test.YtiphmhofhgbhlaaPlConn
import Derived.Test.YtiphmhofhgbhlaaPlRank
set_option linter.unusedVariables false
set_option linter.unusedSimpArgs false
set_option linter.unnecessarySimpa false
open Go Go.Fw
namespace Go.Proofs.Ytiphmhofhgbhlaa

/-! ### doubles -/
def twinAt (g : TGraph) (k : Nat) : Bool := match g.Bars[k - 1]?, g.Bars[k]? with
  | some x, some y => eqI [x.A, x.B] [y.A, y.B]
  | _, _ => false
def twins (g : TGraph) : Bool := (List.range' 1 (max 1 g.Bars.length - 1)).any (twinAt g)
theorem twinsI_eq (g : TGraph) (h : SM g.Bars.length) : m_impl_hasDoubles g = some (twins g) := by
  have e : loopM (m_impl_hasDoubles_L1 g) BIG ((1 : Nat) : Int) = some (bif (List.range' 1 (max 1 g.Bars.length - 1)).any (twinAt g) then .inr true else .inl ()) := by
    refine any_loop (twinAt g) true 1 (max 1 g.Bars.length) (by omega) (by omega) (fun k hk0 hk => ?_) ?_
    · have hk' : k < g.Bars.length := by omega
      have e1 : w64 ((k : Int) - 1) = ((k - 1 : Nat) : Int) := by rw [w64_small (by omega) (by omega)]; omega
      unfold m_impl_hasDoubles_L1 twinAt
      rw [decide_eq_true (by omega), cond_true, e1, idx_at (show k - 1 < g.Bars.length by omega), idx_at hk', List.getElem?_eq_getElem hk', List.getElem?_eq_getElem (show k - 1 < g.Bars.length by omega)]
      simp only [Option.bind_some]
    · unfold m_impl_hasDoubles_L1
      rw [decide_eq_false (by omega)]
      rfl
  unfold m_impl_hasDoubles twins
  rw [show (1 : Int) = ((1 : Nat) : Int) from rfl, e]
  cases (List.range' 1 (max 1 g.Bars.length - 1)).any (twinAt g) <;> rfl
theorem simpleS_eq (g : TGraph) (h : SM g.Bars.length) : m_spec_l17Simple g = some (!twins g && vG g) := by
  have e : loopM (m_spec_l17Simple_L1 g) BIG ((1 : Nat) : Int) = some (bif (List.range' 1 (max 1 g.Bars.length - 1)).any (twinAt g) then .inr false else .inl ()) := by
    refine any_loop (twinAt g) false 1 (max 1 g.Bars.length) (by omega) (by omega) (fun k hk0 hk => ?_) ?_
    · have hk' : k < g.Bars.length := by omega
      have e1 : w64 ((k : Int) - 1) = ((k - 1 : Nat) : Int) := by rw [w64_small (by omega) (by omega)]; omega
      unfold m_spec_l17Simple_L1 twinAt
      rw [decide_eq_true (by omega), cond_true, e1, idx_at (show k - 1 < g.Bars.length by omega), idx_at hk', List.getElem?_eq_getElem hk', List.getElem?_eq_getElem (show k - 1 < g.Bars.length by omega)]
      simp only [Option.bind_some]
    · unfold m_spec_l17Simple_L1
      rw [decide_eq_false (by omega)]
      rfl
  unfold m_spec_l17Simple twins
  rw [show (1 : Int) = ((1 : Nat) : Int) from rfl, e]
  cases (List.range' 1 (max 1 g.Bars.length - 1)).any (twinAt g)
  · simp only [cond_false, Option.bind_some, Sum.elim_inl, isGraphS_eq g h, Bool.not_false, Bool.true_and]
  · rfl
theorem twins_ne {g : TGraph} (h : twins g = false) {k : Nat} {x y : TBar} (hx : g.Bars[k]? = some x) (hy : g.Bars[k + 1]? = some y) : ¬ (x.A = y.A ∧ x.B = y.B) := by
  unfold twins at h
  rw [any_range_false] at h
  have hk : k + 1 < g.Bars.length := (List.getElem?_eq_some_iff.1 hy).1
  have := h (k + 1) (by omega) (by omega)
  unfold twinAt at this
  rw [Nat.add_sub_cancel, hx, hy] at this
  simp only [eqI_eq, decide_eq_false_iff_not, List.cons.injEq, and_true] at this
  exact this

/-! ### missing bars -/
def cnt (g : TGraph) (a b : Int) : Int := (m_impl_CountBar g a b).getD 0
theorem cnt_eq (g : TGraph) (h : SM g.Bars.length) (a b : Int) : m_impl_CountBar g a b = some (cnt g a b) ∧ (cnt g a b = 0 ↔ ∀ x ∈ g.Bars, ¬ (x.A = a ∧ x.B = b) ∧ ¬ (x.A = b ∧ x.B = a)) := by
  obtain ⟨r, hr, hq⟩ := loop_inv (b := m_impl_CountBar_L1 g a b) (s := (0, 0)) (fun k s => s.2 = (k : Int) ∧ 0 ≤ s.1 ∧ s.1 ≤ k ∧ (s.1 = 0 ↔ ∀ x ∈ g.Bars.take k, ¬ (x.A = a ∧ x.B = b) ∧ ¬ (x.A = b ∧ x.B = a))) (fun r => r = 0 ↔ ∀ x ∈ g.Bars, ¬ (x.A = a ∧ x.B = b) ∧ ¬ (x.A = b ∧ x.B = a)) g.Bars.length (by omega) ⟨rfl, by omega, by omega, by simp⟩ (fun k s hk hs => by
    refine .inl ?_
    obtain ⟨c, i⟩ := s
    obtain ⟨h1, h2, h3, h4⟩ := hs
    simp only at h1 h2 h3 h4
    subst h1
    have ht : g.Bars.take (k + 1) = g.Bars.take k ++ [g.Bars[k]] := by rw [List.take_succ_eq_append_getElem hk]
    have hw : w64 (c + 1) = c + 1 := w64_small (by omega) (by omega)
    have key : ∀ (j : Bool), (j = true ↔ (g.Bars[k].A = a ∧ g.Bars[k].B = b) ∨ (g.Bars[k].A = b ∧ g.Bars[k].B = a)) → ((bif j then c + 1 else c) = 0 ↔ ∀ x ∈ g.Bars.take (k + 1), ¬ (x.A = a ∧ x.B = b) ∧ ¬ (x.A = b ∧ x.B = a)) := fun j hj => by
      rw [ht]
      simp only [List.mem_append, List.mem_singleton, or_imp, forall_and, forall_eq]
      simp only [forall_and] at h4
      cases j
      · simp only [cond_false, h4]
        have : ¬ ((g.Bars[k].A = a ∧ g.Bars[k].B = b) ∨ (g.Bars[k].A = b ∧ g.Bars[k].B = a)) := fun hh => by have := hj.2 hh; cases this
        rw [not_or] at this
        exact ⟨fun ⟨p, q⟩ => ⟨⟨p, this.1⟩, ⟨q, this.2⟩⟩, fun ⟨p, q⟩ => ⟨p.1, q.1⟩⟩
      · have := hj.1 rfl
        simp only [cond_true]
        constructor
        · intro hc; omega
        · rintro ⟨⟨_, p⟩, ⟨_, q⟩⟩
          rcases this with t | t
          · exact absurd t p
          · exact absurd t q
    unfold m_impl_CountBar_L1
    simp only [idx_at hk, Option.bind_some]
    rw [decide_eq_true (by omega), cond_true, hw]
    by_cases q1 : g.Bars[k].A = a
    · by_cases q2 : g.Bars[k].B = b
      · refine ⟨(c + 1, w64 ((k : Int) + 1)), by simp only [beq_iff_eq.2 q1, beq_iff_eq.2 q2]; rfl, w64_succ (by omega), by simp only; omega, by simp only; omega, ?_⟩
        exact key true (by simp [q1, q2])
      · by_cases q3 : g.Bars[k].A = b
        · by_cases q4 : g.Bars[k].B = a
          · refine ⟨(c + 1, w64 ((k : Int) + 1)), by simp only [beq_iff_eq.2 q1, beq_eq_false_iff_ne.2 q2, beq_iff_eq.2 q3, beq_iff_eq.2 q4]; rfl, w64_succ (by omega), by simp only; omega, by simp only; omega, ?_⟩
            exact key true (by simp [q3, q4])
          · refine ⟨(c, w64 ((k : Int) + 1)), by simp only [beq_iff_eq.2 q1, beq_eq_false_iff_ne.2 q2, beq_iff_eq.2 q3, beq_eq_false_iff_ne.2 q4]; rfl, w64_succ (by omega), by simp only; omega, by simp only; omega, ?_⟩
            exact key false (by simp [q2, q4])
        · refine ⟨(c, w64 ((k : Int) + 1)), by simp only [beq_iff_eq.2 q1, beq_eq_false_iff_ne.2 q2, beq_eq_false_iff_ne.2 q3]; rfl, w64_succ (by omega), by simp only; omega, by simp only; omega, ?_⟩
          exact key false (by simp [q2, q3])
    · by_cases q3 : g.Bars[k].A = b
      · by_cases q4 : g.Bars[k].B = a
        · refine ⟨(c + 1, w64 ((k : Int) + 1)), by simp only [beq_eq_false_iff_ne.2 q1, beq_iff_eq.2 q3, beq_iff_eq.2 q4]; rfl, w64_succ (by omega), by simp only; omega, by simp only; omega, ?_⟩
          exact key true (by simp [q3, q4])
        · refine ⟨(c, w64 ((k : Int) + 1)), by simp only [beq_eq_false_iff_ne.2 q1, beq_iff_eq.2 q3, beq_eq_false_iff_ne.2 q4]; rfl, w64_succ (by omega), by simp only; omega, by simp only; omega, ?_⟩
          exact key false (by simp [q1, q4])
      · refine ⟨(c, w64 ((k : Int) + 1)), by simp only [beq_eq_false_iff_ne.2 q1, beq_eq_false_iff_ne.2 q3]; rfl, w64_succ (by omega), by simp only; omega, by simp only; omega, ?_⟩
        exact key false (by simp [q1, q3])) (fun s hs => by
    obtain ⟨c, i⟩ := s
    obtain ⟨h1, h2, h3, h4⟩ := hs
    simp only at h1 h2 h3 h4
    subst h1
    rw [List.take_length] at h4
    exact ⟨c, by simp [m_impl_CountBar_L1], h4⟩)
  have e : m_impl_CountBar g a b = some r := by unfold m_impl_CountBar; rw [hr]; rfl
  unfold cnt
  rw [e]
  exact ⟨rfl, hq⟩
def missRow (g : TGraph) (a : Nat) : List TBar := pieces (fun j => bif cnt g a ((a + 1 + j : Nat) : Int) == 0 then [⟨a, ((a + 1 + j : Nat) : Int)⟩] else []) (g.Points.toNat - (a + 1))
def miss (g : TGraph) : List TBar := pieces (missRow g) g.Points.toNat
theorem missI_eq {g : TGraph} (hv : vG g = true) : m_impl_MissingBars g = some (miss g) := by
  have H := vG_VG hv
  have hp := H.p8
  have hrow : ∀ a, (missRow g a).length ≤ 8 := fun a => by
    have := pieces_len (f := fun j => bif cnt g a ((a + 1 + j : Nat) : Int) == 0 then [(⟨a, ((a + 1 + j : Nat) : Int)⟩ : TBar)] else []) (c := 1) (g.Points.toNat - (a + 1)) (fun j _ => by cases cnt g a ((a + 1 + j : Nat) : Int) == 0 <;> simp)
    unfold missRow
    omega
  have := app_loop (b := m_impl_MissingBars_L3 g) (s := (0, [])) (fun k out => ((k : Int), out)) (missRow g) id 8 g.Points.toNat [] (by omega) rfl (fun k _ => hrow k) (fun k out hk ho => by
    simp only [List.length_nil, Nat.zero_add] at ho
    have e := app_loop (b := m_impl_MissingBars_L4 g ((k : Int), out)) (s := (w64 ((k : Int) + 1), out)) (fun j o => (((k + 1 + j : Nat) : Int), o)) (fun j => bif cnt g k ((k + 1 + j : Nat) : Int) == 0 then [(⟨k, ((k + 1 + j : Nat) : Int)⟩ : TBar)] else []) (fun o => ((k : Int), o)) 1 (g.Points.toNat - (k + 1)) out (by omega) (by rw [w64_succ (by omega)]) (fun j _ => by cases cnt g k ((k + 1 + j : Nat) : Int) == 0 <;> simp)
      (fun j o hj ho2 => by
        unfold m_impl_MissingBars_L4
        simp only [(cnt_eq g H.sm _ _).1, Option.bind_some]
        rw [decide_eq_true (by omega), cond_true, lim_ok (by simp; omega), Option.bind_some, w64_succ (by omega)]
        cases cnt g k ((k + 1 + j : Nat) : Int) == 0
        · simp only [cond_false, Option.bind_some, List.append_nil]
          rfl
        · rfl)
      (fun o => by
        unfold m_impl_MissingBars_L4
        simp only
        rw [decide_eq_false (by omega)]
        rfl)
    unfold m_impl_MissingBars_L3
    simp only [e, Option.bind_some]
    rw [decide_eq_true (by omega), cond_true, w64_succ (by omega)]
    rfl) (fun out => by
      unfold m_impl_MissingBars_L3
      simp only
      rw [decide_eq_false (by omega)]
      rfl)
  unfold m_impl_MissingBars
  rw [isGraphI_eq g H.sm, hv, this]
  rfl
theorem list3 (P : Int) (l : List TBar) (hr : ∀ x ∈ l, 0 ≤ x.A ∧ x.A < x.B ∧ x.B < P) (hs : ∀ k x y, l[k]? = some x → l[k + 1]? = some y → x.A < y.A ∨ x.A = y.A ∧ x.B < y.B) :
    (P = 1 → l.length = 0) ∧
    (P = 2 → ((∀ x ∈ l, ¬ (x.A = 0 ∧ x.B = 1) ∧ ¬ (x.A = 1 ∧ x.B = 0)) ↔ l.length < 1)) ∧
    (P = 3 → (((∀ x ∈ l, ¬ (x.A = 0 ∧ x.B = 1) ∧ ¬ (x.A = 1 ∧ x.B = 0)) ∨ (∀ x ∈ l, ¬ (x.A = 0 ∧ x.B = 2) ∧ ¬ (x.A = 2 ∧ x.B = 0)) ∨ (∀ x ∈ l, ¬ (x.A = 1 ∧ x.B = 2) ∧ ¬ (x.A = 2 ∧ x.B = 1))) ↔ l.length < 3)) := by
  match l, hr, hs with
  | [], hr, hs => simp
  | [x], hr, hs =>
    have := hr x (by simp)
    simp only [List.mem_singleton, forall_eq, List.length_singleton]
    omega
  | [x, y], hr, hs =>
    have h1 := hr x (by simp)
    have h2 := hr y (by simp)
    have s1 := hs 0 x y rfl rfl
    simp only [List.mem_cons, List.not_mem_nil, or_false, forall_eq_or_imp, forall_eq, List.length_cons, List.length_nil]
    omega
  | [x, y, z], hr, hs =>
    have h1 := hr x (by simp)
    have h2 := hr y (by simp)
    have h3 := hr z (by simp)
    have s1 := hs 0 x y rfl rfl
    have s2 := hs 1 y z rfl rfl
    simp only [List.mem_cons, List.not_mem_nil, or_false, forall_eq_or_imp, forall_eq, List.length_cons, List.length_nil]
    omega
  | x :: y :: z :: t :: r, hr, hs =>
    have h1 := hr x (by simp)
    have h2 := hr y (by simp)
    have h3 := hr z (by simp)
    have h4 := hr t (by simp)
    have s1 := hs 0 x y rfl rfl
    have s2 := hs 1 y z rfl rfl
    have s3 := hs 2 z t rfl rfl
    omega
theorem small_miss {g : TGraph} (hv : vG g = true) (hd : twins g = false) (hp : g.Points ≤ 3) : decide (0 < ((miss g).length : Int)) = decide ((g.Bars.length : Int) < w64 (Int.tdiv (w64 (g.Points * (w64 (g.Points - 1)))) 2)) := by
  have H := vG_VG hv
  have c := fun a b => (cnt_eq g H.sm a b).2
  obtain ⟨l1, l2, l3⟩ := list3 g.Points g.Bars (fun x hx => by
    obtain ⟨k, hk, e⟩ := List.getElem_of_mem hx
    have hx' : g.Bars[k]? = some x := by rw [List.getElem?_eq_getElem hk, e]
    exact ⟨H.a0 hx', H.ab hx', H.bp hx'⟩) (fun k x y hx hy => by
    have s1 := H.srt hx hy
    have s2 := twins_ne hd hx hy
    unfold barGt at s1
    simp only [Bool.or_eq_false_iff, Bool.and_eq_false_iff, decide_eq_false_iff_not, beq_eq_false_iff_ne, ne_eq] at s1
    omega)
  have hp1 := H.p1
  have : g.Points = 1 ∨ g.Points = 2 ∨ g.Points = 3 := by omega
  rcases this with h | h | h
  · have e := l1 h
    have em : miss g = [] := by unfold miss; rw [h]; simp [pieces, missRow, h]
    rw [em, h, e]
    decide
  · have e := l2 h
    rw [← c 0 1] at e
    have em : miss g = bif cnt g 0 1 == 0 then [⟨0, 1⟩] else [] := by
      unfold miss
      rw [h]
      simp [pieces, missRow, h]
    rw [em, h, show w64 (Int.tdiv (w64 (2 * w64 (2 - 1))) 2) = 1 from by decide]
    by_cases h0 : cnt g 0 1 = 0
    · have := e.1 h0
      rw [beq_iff_eq.2 h0]
      simp only [cond_true, List.length_singleton]
      rw [decide_eq_true (by omega), decide_eq_true (by omega)]
    · have : ¬ g.Bars.length < 1 := fun hh => h0 (e.2 hh)
      rw [beq_eq_false_iff_ne.2 h0]
      simp only [cond_false, List.length_nil]
      rw [decide_eq_false (by omega), decide_eq_false (by omega)]
  · have e := l3 h
    rw [← c 0 1, ← c 0 2, ← c 1 2] at e
    have em : miss g = (bif cnt g 0 1 == 0 then [⟨0, 1⟩] else []) ++ (bif cnt g 0 2 == 0 then [⟨0, 2⟩] else []) ++ (bif cnt g 1 2 == 0 then [⟨1, 2⟩] else []) := by
      unfold miss
      rw [h]
      simp [pieces, missRow, h]
    have em2 : decide (0 < ((miss g).length : Int)) = (cnt g 0 1 == 0 || (cnt g 0 2 == 0 || cnt g 1 2 == 0)) := by
      rw [em]
      cases cnt g 0 1 == 0 <;> cases cnt g 0 2 == 0 <;> cases cnt g 1 2 == 0 <;> rfl
    rw [em2, h, show w64 (Int.tdiv (w64 (3 * w64 (3 - 1))) 2) = 3 from by decide]
    by_cases hl : g.Bars.length < 3
    · have := e.2 hl
      rw [decide_eq_true (show (g.Bars.length : Int) < 3 by omega)]
      simp only [Bool.or_eq_true, beq_iff_eq]
      exact this
    · have := fun hh => hl (e.1 hh)
      rw [decide_eq_false (show ¬ (g.Bars.length : Int) < 3 by omega)]
      simp only [Bool.or_eq_false_iff, beq_eq_false_iff_ne, ne_eq]
      exact ⟨fun x => this (.inl x), fun x => this (.inr (.inl x)), fun x => this (.inr (.inr x))⟩

/-! ### what stands against it -/
theorem both_WhyNotGlobal (g : TGraph) (h : g.Bars.length ≤ 1048576) : ∃ w, m_spec_WhyNotGlobal g = some w ∧ m_impl_WhyNotGlobal g = some w := by
  have hs : SM g.Bars.length := by omega
  unfold m_spec_WhyNotGlobal m_impl_WhyNotGlobal
  simp only [simpleS_eq g hs, isGraphI_eq g hs, twinsI_eq g hs, Option.bind_some, rigidI_eq g hs, rigidS_eq g hs, kconnI_eq g hs, kconnS_eq g hs, redRigidI_eq g hs, redRigidS_eq g hs]
  cases hv : vG g
  · refine ⟨_, ?_, rfl⟩
    rw [Bool.and_false]
    rfl
  · rw [Bool.and_true]
    cases hd : twins g
    · simp only [missI_eq hv, Option.bind_some, Bool.not_true, Bool.not_false, cond_true, cond_false]
      by_cases hp : g.Points ≤ 3
      · rw [decide_eq_true hp, decide_eq_false (show ¬ 3 < g.Points by omega), small_miss hv hd hp]
        cases decide ((g.Bars.length : Int) < w64 (Int.tdiv (w64 (g.Points * (w64 (g.Points - 1)))) 2)) <;> exact ⟨_, rfl, rfl⟩
      · rw [decide_eq_false hp, decide_eq_true (show 3 < g.Points by omega)]
        simp only [cond_true, cond_false, Option.bind_some]
        cases rigid g <;> cases kconn g 3 <;> cases redRigid g <;> exact ⟨_, rfl, rfl⟩
    · exact ⟨_, rfl, rfl⟩
theorem both_IsGloballyRigid (g : TGraph) (h : g.Bars.length ≤ 1048576) : ∃ w, m_spec_IsGloballyRigid g = some w ∧ m_impl_IsGloballyRigid g = some w := by
  obtain ⟨w, hs, hi⟩ := both_WhyNotGlobal g h
  refine ⟨w.toList == ByteArray.empty.toList, ?_, ?_⟩
  · unfold m_spec_IsGloballyRigid; rw [hs]; rfl
  · unfold m_impl_IsGloballyRigid; rw [hi]; rfl
end Go.Proofs.Ytiphmhofhgbhlaa
