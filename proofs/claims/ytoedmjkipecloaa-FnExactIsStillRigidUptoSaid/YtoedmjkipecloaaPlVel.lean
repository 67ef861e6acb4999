/- Plain: velocities, forces, kinds: SwapKinds, IsAllowedMotion, IsProperStress, IsStrictStress of the program and of the reference agree. -/
import Derived.Test.YtoedmjkipecloaaPlPinned
set_option linter.unusedVariables false
set_option linter.unusedSimpArgs false
set_option linter.unnecessarySimpa false
open Go Go.Fw
namespace Go.Proofs.Ytoedmjkipecloaa

/-- a loop that looks for the first that is bad; it ends with d -/
theorem any_loopG {γ δ : Type} {b : Int → Option (Int ⊕ (δ ⊕ γ))} (bad : Nat → Bool) (c : γ) (d : δ) (k0 n : Nat) (hn : n ≤ 1099511627776) (h0 : k0 ≤ n) (h : ∀ k : Nat, k0 ≤ k → k < n → b k = bif bad k then some (.inr (.inr c)) else some (.inl (w64 ((k : Int) + 1)))) (hr : b n = some (.inr (.inl d))) :
    loopM b BIG k0 = some (bif (List.range' k0 (n - k0)).any bad then .inr c else .inl d) := by
  have go : ∀ (j k f : Nat), k + j = n → k0 ≤ k → j < f → loopM b f (k : Int) = some (bif (List.range' k j).any bad then .inr c else .inl d) := by
    intro j
    induction j with
    | zero =>
      intro k f hk _ hf
      obtain ⟨f, rfl⟩ : ∃ g, f = g + 1 := ⟨f - 1, by omega⟩
      have : k = n := by omega
      subst this
      unfold loopM
      rw [hr]
      rfl
    | succ j ih =>
      intro k f hk hk0 hf
      obtain ⟨f, rfl⟩ : ∃ g, f = g + 1 := ⟨f - 1, by omega⟩
      have h1 := h k hk0 (by omega)
      unfold loopM
      cases hb : bad k with
      | true =>
        rw [hb, cond_true] at h1
        rw [h1, List.range'_succ, List.any_cons, hb]
        rfl
      | false =>
        rw [hb, cond_false, w64_succ (by omega)] at h1
        rw [h1, List.range'_succ, List.any_cons, hb, Bool.false_or]
        exact ih (k + 1) f (by omega) (by omega) (by omega)
  exact go (n - k0) k0 BIG (by omega) (Nat.le_refl _) (by have := BIG_gt hn; omega)

/-! ### SwapKinds -/
def swapK (x : Int) : Int := bif x == 1 then 2 else bif x == 2 then 1 else x
theorem map_loop {σ τ : Type} {b : σ → Option (σ ⊕ τ)} {s : σ} (mk : Nat → List Int → σ) (fin : List Int → τ) (f : Int → Int) (l : List Int) (hl : SM l.length) (hs : s = mk 0 l)
    (h : ∀ (k : Nat) (a : List Int) x, k < l.length → a.length = l.length → l[k]? = some x → a[k]? = some x → b (mk k a) = some (.inl (mk (k + 1) (a.set k (f x))))) (hr : ∀ a : List Int, a.length = l.length → b (mk l.length a) = some (.inr (fin a))) : loopM b BIG s = some (fin (l.map f)) := by
  subst hs
  refine loopM_run (fun k => mk k ((l.take k).map f ++ l.drop k)) l.length (by omega) (by simp) (fun k hk => ?_) (by rw [hr _ (by simp)]; simp)
  have hlen : ((l.take k).map f).length = k := by simp; omega
  have hd : l.drop k = l[k] :: l.drop (k + 1) := List.drop_eq_getElem_cons hk
  rw [h k _ l[k] hk (by simp; omega) (List.getElem?_eq_getElem hk) (by rw [List.getElem?_append_right (by omega), hlen, Nat.sub_self, hd]; rfl)]
  congr 3
  rw [List.set_append_right _ _ (by omega), hlen, Nat.sub_self, hd, List.set_cons_zero]
  have ht : l.take (k + 1) = l.take k ++ [l[k]] := by rw [List.take_add_one, List.getElem?_eq_getElem hk]; rfl
  rw [ht, List.map_append, List.append_assoc]
  rfl
theorem set_id {α : Type} {l : List α} {k : Nat} {x : α} (h : l[k]? = some x) : l.set k x = l := by
  apply List.ext_getElem?
  intro i
  rw [List.getElem?_set]
  by_cases hi : k = i
  · subst hi
    have := (List.getElem?_eq_some_iff.1 h).1
    rw [if_pos rfl, if_pos this, h]
  · rw [if_neg hi]
theorem copyFramework_eq (f : TFramework) (h0 : SM f.Graph.Bars.length) (h1 : SM f.Places.length) : m_impl_copyFramework f = some f := by
  unfold m_impl_copyFramework
  rw [copyGraph_eq _ h0, Option.bind_some, lim_ok (by simp; omega)]
  rfl
theorem l10Copy_eq (f : TFramework) (h0 : SM f.Graph.Bars.length) (h1 : SM f.Places.length) : m_spec_l10Copy f = some f := by
  unfold m_spec_l10Copy
  rw [l2Copy_eq _ h0, Option.bind_some, lim_ok (by simp; omega)]
  rfl
theorem copyInts_eq (l : List Int) (h : SM l.length) : m_impl_copyInts l = some l := by
  unfold m_impl_copyInts
  rw [lim_ok (by simp; omega)]
  rfl
theorem l19Copy_eq (t : TTensegrity) (h0 : SM t.Framework.Graph.Bars.length) (h1 : SM t.Framework.Places.length) (h2 : SM t.Kinds.length) : m_spec_l19Copy t = some t := by
  unfold m_spec_l19Copy
  rw [l10Copy_eq _ h0 h1, Option.bind_some, lim_ok (by simp; omega)]
  rfl
theorem both_SwapKinds (t : TTensegrity) (h0 : t.Framework.Graph.Bars.length ≤ 1048576) (h1 : t.Framework.Places.length ≤ 1048576) (h2 : t.Kinds.length ≤ 1048576) :
    ∃ w, m_spec_SwapKinds t = some w ∧ m_impl_SwapKinds t = some w ∧ SM w.Framework.Graph.Bars.length ∧ SM w.Framework.Places.length ∧ SM w.Kinds.length := by
  refine ⟨⟨t.Framework, t.Kinds.map swapK⟩, ?_, ?_, by show SM t.Framework.Graph.Bars.length; omega, by show SM t.Framework.Places.length; omega, by simp [SM]; omega⟩
  · unfold m_spec_SwapKinds
    rw [l19Copy_eq t (by omega) (by omega) (by omega), Option.bind_some]
    rw [map_loop (b := m_spec_SwapKinds_L1 t t) (s := (0, t.Kinds)) (fun k a => ((k : Int), a)) (fun a => (t.Framework.Graph.Bars, t.Framework.Places, a, t.Framework.Graph.Points)) swapK t.Kinds (by omega) rfl (fun k a x hk ha hx hy => by
      unfold m_spec_SwapKinds_L1 swapK
      simp only [idx_of hx, idx_of hy, Option.bind_some, Int.toNat_natCast, w64_succ (show k ≤ 1099511627776 by omega)]
      rw [decide_eq_true (by omega), cond_true]
      cases x == 1
      · cases x == 2
        · simp only [cond_false, Option.bind_some, set_id hy]
        · rfl
      · rfl) (fun a ha => by
      unfold m_spec_SwapKinds_L1
      simp only
      rw [decide_eq_false (by omega)]
      rfl)]
    rfl
  · unfold m_impl_SwapKinds
    rw [copyFramework_eq _ (by omega) (by omega), Option.bind_some, copyInts_eq _ (by omega), Option.bind_some]
    rw [map_loop (b := m_impl_SwapKinds_L1 t.Framework t.Kinds) (s := (0, t.Kinds)) (fun k a => ((k : Int), a)) (fun a => (t.Framework.Graph.Bars, t.Framework.Places, a, t.Framework.Graph.Points)) swapK t.Kinds (by omega) rfl (fun k a x hk ha hx hy => by
      unfold m_impl_SwapKinds_L1 swapK
      simp only [idx_of hy, Option.bind_some, Int.toNat_natCast, w64_succ (show k ≤ 1099511627776 by omega)]
      rw [decide_eq_true (by omega), cond_true]
      cases x == 1
      · cases x == 2
        · simp only [cond_false, Option.bind_some, set_id hy]
        · rfl
      · rfl) (fun a ha => by
      unfold m_impl_SwapKinds_L1
      simp only
      rw [decide_eq_false (by omega)]
      rfl)]
    rfl

/-! ### velocities -/
def smallI (x : Int) : Bool := decide (-10000000000 ≤ x) && decide (x ≤ 10000000000)
def smallB (v : List Int) : Bool := !(List.range' 0 v.length).any (atB v fun x => !smallI x)
theorem areSmall_eq (v : List Int) (h : SM v.length) (n : Int) : m_impl_areSmall v n = some (smallB v && ((v.length : Int) == n)) := by
  unfold m_impl_areSmall smallB
  rw [any_loop0 (b := m_impl_areSmall_L1 v) (atB v fun x => !smallI x) false v.length (by omega) (fun k hk => by
    unfold m_impl_areSmall_L1
    rw [decide_eq_true (by omega), cond_true, idx_at hk, Option.bind_some, atB_at hk, within_eq, Option.bind_some]
    rfl) (by simp [m_impl_areSmall_L1])]
  cases (List.range' 0 v.length).any (atB v fun x => !smallI x) <;> rfl
def vecB (f : TFramework) (v : List Int) (n : Int) : Bool := vF f && (smallB v && ((v.length : Int) == n))
theorem smallB_at {v : List Int} (h : smallB v = true) {k : Nat} {x : Int} (hk : v[k]? = some x) : -10000000000 ≤ x ∧ x ≤ 10000000000 := by
  unfold smallB at h
  rw [Bool.not_eq_true', any_range_false] at h
  have hl := (List.getElem?_eq_some_iff.1 hk).1
  have := h k (by omega) (by omega)
  unfold atB at this
  rw [hk] at this
  simp only [Bool.not_eq_false', smallI, Bool.and_eq_true, decide_eq_true_eq] at this
  exact this
theorem isVelocity_eq (f : TFramework) (v : List Int) (h0 : SM f.Graph.Bars.length) (h1 : SM f.Places.length) (hv : SM v.length) : m_impl_isVelocity f v = some (vecB f v (2 * f.Graph.Points)) := by
  unfold m_impl_isVelocity vecB
  rw [isFI_eq f h0 h1, areSmall_eq v hv, Option.bind_some]
  cases hf : vF f
  · rfl
  · have := (vF_VF hf).g.p8
    have := (vF_VF hf).g.p1
    rw [w64_small (by omega) (by omega)]
    rfl
theorem smallS_L1 (v : List Int) (h : SM v.length) : loopM (m_spec_l12Vector_L1 v) BIG 0 = some (bif (List.range' 0 v.length).any (atB v fun x => !smallI x) then .inr false else .inl ()) :=
  any_loop0 (b := m_spec_l12Vector_L1 v) (atB v fun x => !smallI x) false v.length (by omega) (fun k hk => by
    unfold m_spec_l12Vector_L1
    rw [decide_eq_true (by omega), cond_true, idx_at hk, Option.bind_some, atB_at hk, l1In_eq, Option.bind_some]
    rfl) (by simp [m_spec_l12Vector_L1])
theorem l12Vector_eq (f : TFramework) (v : List Int) (h0 : SM f.Graph.Bars.length) (h1 : SM f.Places.length) (hv : SM v.length) : m_spec_l12Vector f v = some (vecB f v (2 * f.Graph.Points)) := by
  unfold m_spec_l12Vector vecB smallB
  rw [smallS_L1 v hv, isFS_eq f h0 h1]
  cases (List.range' 0 v.length).any (atB v fun x => !smallI x)
  · cases hf : vF f
    · rfl
    · have := (vF_VF hf).g.p8
      have := (vF_VF hf).g.p1
      rw [w64_small (by omega) (by omega)]
      rfl
  · cases vF f <;> rfl
theorem l13Vector_eq (f : TFramework) (v : List Int) (h0 : SM f.Graph.Bars.length) (h1 : SM f.Places.length) (hv : SM v.length) : m_spec_l13Vector f v = some (vecB f v f.Graph.Bars.length) := by
  have e : m_spec_l13Vector_L1 = m_spec_l12Vector_L1 := rfl
  unfold m_spec_l13Vector vecB smallB
  rw [e, smallS_L1 v hv, isFS_eq f h0 h1]
  cases (List.range' 0 v.length).any (atB v fun x => !smallI x)
  · cases vF f <;> rfl
  · cases vF f <;> rfl
theorem areForces_eq (f : TFramework) (v : List Int) (h0 : SM f.Graph.Bars.length) (h1 : SM f.Places.length) (hv : SM v.length) : m_impl_areForces f v = some (vecB f v f.Graph.Bars.length) := by
  unfold m_impl_areForces vecB
  rw [isFI_eq f h0 h1, areSmall_eq v hv, Option.bind_some]
  cases vF f <;> rfl

structure VV (f : TFramework) (v : List Int) : Prop where
  fr : VF f
  len : (v.length : Int) = 2 * f.Graph.Points
  sm : ∀ {k : Nat} {x : Int}, v[k]? = some x → -10000000000 ≤ x ∧ x ≤ 10000000000
theorem vecB_VV {f : TFramework} {v : List Int} (h : vecB f v (2 * f.Graph.Points) = true) : VV f v := by
  unfold vecB at h
  simp only [Bool.and_eq_true, beq_iff_eq] at h
  exact ⟨vF_VF h.1, h.2.2, fun hk => smallB_at h.2.1 hk⟩
def gv (v : List Int) (i : Int) : Int := (v[i.toNat]?).getD 0
theorem VV.in_ {f : TFramework} {v : List Int} (h : VV f v) {i : Int} (h0 : 0 ≤ i) (h1 : i < 2 * f.Graph.Points) : idx v i = some (gv v i) := idx_in _ h0 (by have := h.len; omega)
theorem VV.lt {f : TFramework} {v : List Int} (h : VV f v) {i : Int} (h0 : 0 ≤ i) (h1 : i < 2 * f.Graph.Points) : -10000000000 ≤ gv v i ∧ gv v i ≤ 10000000000 := by
  have hl := h.len
  have hn : i.toNat < v.length := by omega
  refine h.sm (k := i.toNat) ?_
  unfold gv
  rw [List.getElem?_eq_getElem hn]
  rfl
/-- small numbers times small ones -/
theorem mul4 {a b m : Int} (ha : -4 ≤ a ∧ a ≤ 4) (hb : -m ≤ b ∧ b ≤ m) : -(4 * m) ≤ a * b ∧ a * b ≤ 4 * m := by
  have : a = -4 ∨ a = -3 ∨ a = -2 ∨ a = -1 ∨ a = 0 ∨ a = 1 ∨ a = 2 ∨ a = 3 ∨ a = 4 := by omega
  rcases this with h | h | h | h | h | h | h | h | h <;> subst h <;> omega
def chg (f : TFramework) (v : List Int) (a b : Int) : Int := ((pl f a).X - (pl f b).X) * (gv v (2 * a) - gv v (2 * b)) + ((pl f a).Y - (pl f b).Y) * (gv v (2 * a + 1) - gv v (2 * b + 1))
theorem chg_w {f : TFramework} {v : List Int} (h : VV f v) {a b : Int} (a0 : 0 ≤ a) (a1 : a < f.Graph.Points) (b0 : 0 ≤ b) (b1 : b < f.Graph.Points) :
    w64 (w64 (w64 ((pl f a).X - (pl f b).X) * w64 (gv v (2 * a) - gv v (2 * b))) + w64 (w64 ((pl f a).Y - (pl f b).Y) * w64 (gv v (2 * a + 1) - gv v (2 * b + 1)))) = chg f v a b := by
  have ga := h.fr.pl_grid a0 a1
  have gb := h.fr.pl_grid b0 b1
  have v1 := h.lt (i := 2 * a) (by omega) (by omega)
  have v2 := h.lt (i := 2 * b) (by omega) (by omega)
  have v3 := h.lt (i := 2 * a + 1) (by omega) (by omega)
  have v4 := h.lt (i := 2 * b + 1) (by omega) (by omega)
  have m1 := mul4 (a := (pl f a).X - (pl f b).X) (b := gv v (2 * a) - gv v (2 * b)) (m := 20000000000) (by omega) (by omega)
  have m2 := mul4 (a := (pl f a).Y - (pl f b).Y) (b := gv v (2 * a + 1) - gv v (2 * b + 1)) (m := 20000000000) (by omega) (by omega)
  unfold chg
  rw [w64_small (n := (pl f a).X - (pl f b).X) (by omega) (by omega), w64_small (n := (pl f a).Y - (pl f b).Y) (by omega) (by omega), w64_small (n := gv v (2 * a) - gv v (2 * b)) (by omega) (by omega), w64_small (n := gv v (2 * a + 1) - gv v (2 * b + 1)) (by omega) (by omega),
    w64_small (n := ((pl f a).X - (pl f b).X) * (gv v (2 * a) - gv v (2 * b))) (by omega) (by omega), w64_small (n := ((pl f a).Y - (pl f b).Y) * (gv v (2 * a + 1) - gv v (2 * b + 1))) (by omega) (by omega), w64_small (by omega) (by omega)]
theorem changeI_eq {f : TFramework} {v : List Int} (h : vecB f v (2 * f.Graph.Points) = true) (h0 : SM f.Graph.Bars.length) (h1 : SM f.Places.length) (hv : SM v.length) {a b : Int} (a0 : 0 ≤ a) (a1 : a < f.Graph.Points) (b0 : 0 ≤ b) (b1 : b < f.Graph.Points) : m_impl_ChangeOf f v a b = some (chg f v a b) := by
  have hV := vecB_VV h
  have p8 := hV.fr.g.p8
  unfold m_impl_ChangeOf
  rw [isVelocity_eq f v h0 h1 hv, h, has_eq hV.fr.g, has_eq hV.fr.g, decide_eq_true a0, decide_eq_true a1, decide_eq_true b0, decide_eq_true b1]
  simp only [Option.bind_some, Bool.not_true, cond_false, Bool.and_true, w64_small (n := 2 * a) (by omega) (by omega), w64_small (n := 2 * b) (by omega) (by omega), w64_small (n := 2 * a + 1) (by omega) (by omega), w64_small (n := 2 * b + 1) (by omega) (by omega),
    hV.fr.pl_in a0 a1, hV.fr.pl_in b0 b1, hV.in_ (i := 2 * a) (by omega) (by omega), hV.in_ (i := 2 * b) (by omega) (by omega), hV.in_ (i := 2 * a + 1) (by omega) (by omega), hV.in_ (i := 2 * b + 1) (by omega) (by omega), chg_w hV a0 a1 b0 b1]
theorem changeS_eq {f : TFramework} {v : List Int} (h : vecB f v (2 * f.Graph.Points) = true) (h0 : SM f.Graph.Bars.length) (h1 : SM f.Places.length) (hv : SM v.length) {a b : Int} (a0 : 0 ≤ a) (a1 : a < f.Graph.Points) (b0 : 0 ≤ b) (b1 : b < f.Graph.Points) : m_spec_ChangeOf f v a b = some (chg f v a b) := by
  have hV := vecB_VV h
  have p8 := hV.fr.g.p8
  unfold m_spec_ChangeOf
  rw [l12Vector_eq f v h0 h1 hv, h, decide_eq_false (show ¬ a < 0 by omega), decide_eq_false (show ¬ b < 0 by omega), decide_eq_false (show ¬ f.Graph.Points ≤ a by omega), decide_eq_false (show ¬ f.Graph.Points ≤ b by omega)]
  simp only [Option.bind_some, Bool.not_true, cond_false, w64_small (n := 2 * a) (by omega) (by omega), w64_small (n := 2 * b) (by omega) (by omega), w64_small (n := 2 * a + 1) (by omega) (by omega), w64_small (n := 2 * b + 1) (by omega) (by omega),
    hV.fr.pl_in a0 a1, hV.fr.pl_in b0 b1, hV.in_ (i := 2 * a) (by omega) (by omega), hV.in_ (i := 2 * b) (by omega) (by omega), hV.in_ (i := 2 * a + 1) (by omega) (by omega), hV.in_ (i := 2 * b + 1) (by omega) (by omega), chg_w hV a0 a1 b0 b1]

/-! ### IsAllowedMotion -/
theorem vT_VF {t : TTensegrity} (h : vT t = true) : VF t.Framework ∧ t.Kinds.length = t.Framework.Graph.Bars.length := by
  unfold vT at h
  simp only [Bool.and_eq_true, beq_iff_eq] at h
  exact ⟨vF_VF h.2.1, by omega⟩
def badMot (t : TTensegrity) (v : List Int) (k : Nat) : Bool := match t.Framework.Graph.Bars[k]?, t.Kinds[k]? with
  | some x, some z => (z == 0 && chg t.Framework v x.A x.B != 0) || ((z == 1 && decide (0 < chg t.Framework v x.A x.B)) || (z == 2 && decide (chg t.Framework v x.A x.B < 0)))
  | _, _ => false
def allowed (t : TTensegrity) (v : List Int) : Bool := vT t && (vecB t.Framework v (2 * t.Framework.Graph.Points) && !(List.range' 0 t.Kinds.length).any (badMot t v))
theorem allowedI_eq (t : TTensegrity) (v : List Int) (h0 : SM t.Framework.Graph.Bars.length) (h1 : SM t.Framework.Places.length) (h2 : SM t.Kinds.length) (hv : SM v.length) : m_impl_IsAllowedMotion t v = some (allowed t v) := by
  unfold m_impl_IsAllowedMotion allowed
  rw [isTI_eq t h0 h1 h2, isVelocity_eq _ v h0 h1 hv]
  cases ht : vT t
  · rfl
  · obtain ⟨hF, hk⟩ := vT_VF ht
    cases hw : vecB t.Framework v (2 * t.Framework.Graph.Points)
    · rfl
    · have e := any_loop0 (b := m_impl_IsAllowedMotion_L1 t v) (badMot t v) false t.Framework.Graph.Bars.length (by omega) (fun k hkl => by
        have hx := List.getElem?_eq_getElem hkl
        have hz : t.Kinds[k]? = some (t.Kinds[k]'(by omega)) := List.getElem?_eq_getElem (by omega)
        have a0 := hF.g.a0 hx
        have ab := hF.g.ab hx
        have bp := hF.g.bp hx
        unfold m_impl_IsAllowedMotion_L1 badMot
        rw [hx, hz]
        simp only [idx_of hx, idx_of hz, Option.bind_some, changeI_eq hw h0 h1 hv (a := t.Framework.Graph.Bars[k].A) (b := t.Framework.Graph.Bars[k].B) a0 (by omega) (by omega) bp]
        rw [decide_eq_true (by omega), cond_true]
        generalize (t.Kinds[k]'(by omega)) = z
        generalize chg t.Framework v t.Framework.Graph.Bars[k].A t.Framework.Graph.Bars[k].B = c
        cases z == 0 <;> cases z == 1 <;> cases z == 2 <;> cases c != 0 <;> cases decide (0 < c) <;> cases decide (c < 0) <;> rfl) (by simp [m_impl_IsAllowedMotion_L1])
      rw [e, hk]
      cases (List.range' 0 t.Framework.Graph.Bars.length).any (badMot t v) <;> rfl
theorem allowedS_eq (t : TTensegrity) (v : List Int) (h0 : SM t.Framework.Graph.Bars.length) (h1 : SM t.Framework.Places.length) (h2 : SM t.Kinds.length) (hv : SM v.length) : m_spec_IsAllowedMotion t v = some (allowed t v) := by
  unfold m_spec_IsAllowedMotion allowed
  rw [isTS_eq t h0 h1 h2, l12Vector_eq _ v h0 h1 hv]
  cases ht : vT t
  · rfl
  · obtain ⟨hF, hk⟩ := vT_VF ht
    cases hw : vecB t.Framework v (2 * t.Framework.Graph.Points)
    · rfl
    · have e := any_loop0 (b := m_spec_IsAllowedMotion_L1 t v) (badMot t v) false t.Kinds.length (by omega) (fun k hkl => by
        have hx : t.Framework.Graph.Bars[k]? = some (t.Framework.Graph.Bars[k]'(by omega)) := List.getElem?_eq_getElem (by omega)
        have hz := List.getElem?_eq_getElem hkl
        have a0 := hF.g.a0 hx
        have ab := hF.g.ab hx
        have bp := hF.g.bp hx
        unfold m_spec_IsAllowedMotion_L1 badMot
        rw [hx, hz]
        simp only [idx_of hx, idx_of hz, Option.bind_some, changeS_eq hw h0 h1 hv (a := (t.Framework.Graph.Bars[k]'(by omega)).A) (b := (t.Framework.Graph.Bars[k]'(by omega)).B) a0 (by omega) (by omega) bp]
        rw [decide_eq_true (by omega), cond_true]
        generalize chg t.Framework v _ _ = c
        generalize t.Kinds[k] = z
        cases z == 0 <;> cases z == 1 <;> cases z == 2 <;> cases c != 0 <;> cases decide (0 < c) <;> cases decide (c < 0) <;> rfl) (by simp [m_spec_IsAllowedMotion_L1])
      rw [e]
      cases (List.range' 0 t.Kinds.length).any (badMot t v) <;> rfl
theorem both_IsAllowedMotion (t : TTensegrity) (v : List Int) (h0 : t.Framework.Graph.Bars.length ≤ 1048576) (h1 : t.Framework.Places.length ≤ 1048576) (h2 : t.Kinds.length ≤ 1048576) (hv : v.length ≤ 1048576) : ∃ w, m_spec_IsAllowedMotion t v = some w ∧ m_impl_IsAllowedMotion t v = some w :=
  ⟨_, allowedS_eq t v (by omega) (by omega) (by omega) (by omega), allowedI_eq t v (by omega) (by omega) (by omega) (by omega)⟩

/-! ### stresses -/
structure VS (f : TFramework) (w : List Int) : Prop where
  fr : VF f
  len : w.length = f.Graph.Bars.length
  sm : ∀ {k : Nat} {x : Int}, w[k]? = some x → -10000000000 ≤ x ∧ x ≤ 10000000000
theorem vecB_VS {f : TFramework} {v : List Int} (h : vecB f v f.Graph.Bars.length = true) : VS f v := by
  unfold vecB at h
  simp only [Bool.and_eq_true, beq_iff_eq] at h
  exact ⟨vF_VF h.1, by omega, fun hk => smallB_at h.2.1 hk⟩
def otherE (x : TBar) (v : Int) : Int := bif x.A == v then x.B else x.A
/-- one bar's part of the force at v -/
def forceStep (f : TFramework) (w : List Int) (v : Int) (k : Nat) (a : Int × Int) : Int × Int := match f.Graph.Bars[k]?, w[k]? with
  | some x, some c => bif x.A == v || x.B == v then (w64 (a.1 + w64 (c * w64 ((pl f v).X - (pl f (otherE x v)).X))), w64 (a.2 + w64 (c * w64 ((pl f v).Y - (pl f (otherE x v)).Y)))) else a
  | _, _ => a
def force (f : TFramework) (w : List Int) (v : Int) : Int × Int := iter (forceStep f w v) f.Graph.Bars.length (0, 0)
theorem forceI_eq {f : TFramework} {w : List Int} (h : vecB f w f.Graph.Bars.length = true) (h0 : SM f.Graph.Bars.length) (h1 : SM f.Places.length) (hw : SM w.length) {v : Int} (v0 : 0 ≤ v) (v1 : v < f.Graph.Points) : m_impl_ForceAt f w v = some (force f w v) := by
  have hV := vecB_VS h
  have hl := hV.len
  unfold m_impl_ForceAt
  rw [areForces_eq f w h0 h1 hw, h]
  have := fold_loop (b := m_impl_ForceAt_L1 f w v) (s := (0, 0, 0)) (fun k (a : Int × Int) => (a.1, a.2, (k : Int))) (forceStep f w v) (fun _ _ => True) id f.Graph.Bars.length (0, 0) (by omega) rfl trivial (fun k a hk _ => by
    refine ⟨?_, trivial⟩
    have hx := List.getElem?_eq_getElem hk
    have hc : w[k]? = some (w[k]'(by omega)) := List.getElem?_eq_getElem (by omega)
    have a0 := hV.fr.g.a0 hx
    have ab := hV.fr.g.ab hx
    have bp := hV.fr.g.bp hx
    unfold m_impl_ForceAt_L1 forceStep m_impl_Bar_has m_impl_Bar_other otherE
    rw [hx, hc]
    simp only [idx_of hx, idx_of hc, hV.fr.pl_in v0 v1, Option.bind_some, w64_succ (show k ≤ 1099511627776 by omega)]
    rw [decide_eq_true (by omega), cond_true]
    cases hA : f.Graph.Bars[k].A == v
    · cases hB : f.Graph.Bars[k].B == v
      · rfl
      · simp only [cond_false, cond_true, Option.bind_some, Bool.or_true, hV.fr.pl_in a0 (show f.Graph.Bars[k].A < f.Graph.Points by omega)]
    · simp only [cond_true, Option.bind_some, Bool.true_or, hV.fr.pl_in (show 0 ≤ f.Graph.Bars[k].B by omega) bp]) (fun a _ => by simp [m_impl_ForceAt_L1])
  simp only [Option.bind_some, Bool.not_true, cond_false, this.1]
  rfl
theorem forceS_eq {f : TFramework} {w : List Int} (h : vecB f w f.Graph.Bars.length = true) (h0 : SM f.Graph.Bars.length) (h1 : SM f.Places.length) (hw : SM w.length) {v : Int} (v0 : 0 ≤ v) (v1 : v < f.Graph.Points) : m_spec_ForceAt f w v = some (force f w v) := by
  have hV := vecB_VS h
  have hl := hV.len
  have p8 := hV.fr.g.p8
  unfold m_spec_ForceAt
  have := fold_loop (b := m_spec_ForceAt_L1 f w v) (s := (0, 0, 0)) (fun k (a : Int × Int) => (a.1, a.2, (k : Int))) (forceStep f w v) (fun _ _ => True) id f.Graph.Bars.length (0, 0) (by omega) rfl trivial (fun k a hk _ => by
    refine ⟨?_, trivial⟩
    have hx := List.getElem?_eq_getElem hk
    have hc : w[k]? = some (w[k]'(by omega)) := List.getElem?_eq_getElem (by omega)
    have a0 := hV.fr.g.a0 hx
    have ab := hV.fr.g.ab hx
    have bp := hV.fr.g.bp hx
    unfold m_spec_ForceAt_L1 forceStep m_spec_l4Other otherE
    rw [hx, hc]
    simp only [idx_of hx, idx_of hc, hV.fr.pl_in v0 v1, Option.bind_some, w64_succ (show k ≤ 1099511627776 by omega), l13Vector_eq f w h0 h1 hw, h]
    rw [decide_eq_true (by omega), w64_small (n := f.Graph.Bars[k].A + f.Graph.Bars[k].B) (by omega) (by omega)]
    cases hA : f.Graph.Bars[k].A == v
    · cases hB : f.Graph.Bars[k].B == v
      · rfl
      · have e : w64 (f.Graph.Bars[k].A + f.Graph.Bars[k].B - v) = f.Graph.Bars[k].A := by
          rw [beq_iff_eq] at hB
          rw [w64_small (by omega) (by omega)]
          omega
        simp only [cond_false, cond_true, Option.bind_some, Bool.or_true, e, hV.fr.pl_in a0 (show f.Graph.Bars[k].A < f.Graph.Points by omega)]
    · have e : w64 (f.Graph.Bars[k].A + f.Graph.Bars[k].B - v) = f.Graph.Bars[k].B := by
        rw [beq_iff_eq] at hA
        rw [w64_small (by omega) (by omega)]
        omega
      simp only [cond_true, Option.bind_some, Bool.true_or, e, hV.fr.pl_in (show 0 ≤ f.Graph.Bars[k].B by omega) bp]) (fun a _ => by
      unfold m_spec_ForceAt_L1
      simp only
      rw [decide_eq_false (by omega)]
      rfl)
  rw [this.1]
  rfl
def badF (f : TFramework) (w : List Int) (k : Nat) : Bool := (force f w k).1 != 0 || (force f w k).2 != 0
def stress (f : TFramework) (w : List Int) : Bool := vecB f w f.Graph.Bars.length && !(List.range' 0 f.Graph.Points.toNat).any (badF f w)
theorem stressI_eq (f : TFramework) (w : List Int) (h0 : SM f.Graph.Bars.length) (h1 : SM f.Places.length) (hw : SM w.length) : m_impl_IsStress f w = some (stress f w) := by
  unfold m_impl_IsStress stress
  rw [areForces_eq f w h0 h1 hw]
  cases h : vecB f w f.Graph.Bars.length
  · rfl
  · have hV := vecB_VS h
    have hp := hV.fr.pls
    have hn : f.Places.length = f.Graph.Points.toNat := by omega
    have e := any_loop0 (b := m_impl_IsStress_L1 f w) (badF f w) false f.Places.length (by omega) (fun k hk => by
      unfold m_impl_IsStress_L1 badF
      rw [decide_eq_true (by omega), cond_true, forceI_eq h h0 h1 hw (v := (k : Int)) (by omega) (by omega), Option.bind_some]
      cases (force f w k).1 != 0 <;> cases (force f w k).2 != 0 <;> rfl) (by simp [m_impl_IsStress_L1])
    simp only [Option.bind_some, Bool.not_true, cond_false, e, hn]
    cases (List.range' 0 f.Graph.Points.toNat).any (badF f w) <;> rfl
theorem stressS_eq (f : TFramework) (w : List Int) (h0 : SM f.Graph.Bars.length) (h1 : SM f.Places.length) (hw : SM w.length) : m_spec_IsStress f w = some (stress f w) := by
  unfold m_spec_IsStress stress
  cases h : vecB f w f.Graph.Bars.length
  · have e : loopM (m_spec_IsStress_L1 f w) BIG 0 = some (.inl ()) := loopM_run (fun _ => 0) 0 (by omega) rfl (fun k hk => by omega) (by
      unfold m_spec_IsStress_L1
      rw [l13Vector_eq f w h0 h1 hw, h]
      cases decide ((0 : Int) < f.Graph.Points) <;> rfl)
    rw [e, l13Vector_eq f w h0 h1 hw, h]
    rfl
  · have hV := vecB_VS h
    have hp := hV.fr.pls
    have hq := hV.fr.g.p1
    have e := any_loop0 (b := m_spec_IsStress_L1 f w) (badF f w) false f.Graph.Points.toNat (by omega) (fun k hk => by
      unfold m_spec_IsStress_L1 badF
      rw [decide_eq_true (by omega), l13Vector_eq f w h0 h1 hw, h, forceS_eq h h0 h1 hw (v := (k : Int)) (by omega) (by omega)]
      simp only [Option.bind_some, cond_true]
      cases (force f w k).1 != 0 <;> cases (force f w k).2 != 0 <;> rfl) (by
      unfold m_spec_IsStress_L1
      rw [decide_eq_false (by omega)]
      rfl)
    rw [e, l13Vector_eq f w h0 h1 hw, h]
    cases (List.range' 0 f.Graph.Points.toNat).any (badF f w) <;> rfl
theorem stress_VS {f : TFramework} {w : List Int} (h : stress f w = true) : VS f w := by
  unfold stress at h
  simp only [Bool.and_eq_true] at h
  exact vecB_VS h.1
def badPr (t : TTensegrity) (w : List Int) (k : Nat) : Bool := match t.Kinds[k]?, w[k]? with
  | some z, some c => (z == 1 && decide (c < 0)) || (z == 2 && decide (0 < c))
  | _, _ => false
def proper (t : TTensegrity) (w : List Int) : Bool := vT t && (stress t.Framework w && !(List.range' 0 w.length).any (badPr t w))
theorem properI_eq (t : TTensegrity) (w : List Int) (h0 : SM t.Framework.Graph.Bars.length) (h1 : SM t.Framework.Places.length) (h2 : SM t.Kinds.length) (hw : SM w.length) : m_impl_IsProperStress t w = some (proper t w) := by
  unfold m_impl_IsProperStress proper
  rw [isTI_eq t h0 h1 h2, stressI_eq _ w h0 h1 hw]
  cases ht : vT t
  · rfl
  · obtain ⟨hF, hk⟩ := vT_VF ht
    cases hs : stress t.Framework w
    · rfl
    · have hl := (stress_VS hs).len
      have e := any_loop0 (b := m_impl_IsProperStress_L1 t w) (badPr t w) false t.Kinds.length (by omega) (fun k hkl => by
        have hz := List.getElem?_eq_getElem hkl
        have hc : w[k]? = some (w[k]'(by omega)) := List.getElem?_eq_getElem (by omega)
        unfold m_impl_IsProperStress_L1 badPr
        rw [hz, hc]
        simp only [idx_of hz, idx_of hc, Option.bind_some]
        rw [decide_eq_true (by omega), cond_true]
        generalize t.Kinds[k] = z
        generalize (w[k]'(by omega)) = c
        cases z == 1 <;> cases z == 2 <;> cases decide (c < 0) <;> cases decide (0 < c) <;> rfl) (by simp [m_impl_IsProperStress_L1])
      rw [e, show w.length = t.Kinds.length by omega]
      cases (List.range' 0 t.Kinds.length).any (badPr t w) <;> rfl
theorem properS_eq (t : TTensegrity) (w : List Int) (h0 : SM t.Framework.Graph.Bars.length) (h1 : SM t.Framework.Places.length) (h2 : SM t.Kinds.length) (hw : SM w.length) : m_spec_IsProperStress t w = some (proper t w) := by
  unfold m_spec_IsProperStress proper
  rw [isTS_eq t h0 h1 h2, stressS_eq _ w h0 h1 hw]
  cases ht : vT t
  · rfl
  · obtain ⟨hF, hk⟩ := vT_VF ht
    cases hs : stress t.Framework w
    · rfl
    · have hl := (stress_VS hs).len
      have e := any_loop0 (b := m_spec_IsProperStress_L1 t w) (badPr t w) false w.length (by omega) (fun k hkl => by
        have hz : t.Kinds[k]? = some (t.Kinds[k]'(by omega)) := List.getElem?_eq_getElem (by omega)
        have hc := List.getElem?_eq_getElem hkl
        unfold m_spec_IsProperStress_L1 badPr
        rw [hz, hc]
        simp only [idx_of hz, idx_of hc, Option.bind_some]
        rw [decide_eq_true (by omega), cond_true]
        generalize (t.Kinds[k]'(by omega)) = z
        generalize w[k] = c
        cases z == 1 <;> cases z == 2 <;> cases decide (c < 0) <;> cases decide (0 < c) <;> rfl) (by simp [m_spec_IsProperStress_L1])
      rw [e]
      cases (List.range' 0 w.length).any (badPr t w) <;> rfl
theorem both_IsProperStress (t : TTensegrity) (w : List Int) (h0 : t.Framework.Graph.Bars.length ≤ 1048576) (h1 : t.Framework.Places.length ≤ 1048576) (h2 : t.Kinds.length ≤ 1048576) (hw : w.length ≤ 1048576) : ∃ r, m_spec_IsProperStress t w = some r ∧ m_impl_IsProperStress t w = some r :=
  ⟨_, properS_eq t w (by omega) (by omega) (by omega) (by omega), properI_eq t w (by omega) (by omega) (by omega) (by omega)⟩
theorem proper_len {t : TTensegrity} {w : List Int} (h : proper t w = true) : t.Kinds.length = w.length := by
  unfold proper at h
  simp only [Bool.and_eq_true] at h
  have := (vT_VF h.1).2
  have := (stress_VS h.2.1).len
  omega
def badSt (t : TTensegrity) (w : List Int) (k : Nat) : Bool := match t.Kinds[k]?, w[k]? with
  | some z, some c => z != 0 && c == 0
  | _, _ => false
def strict (t : TTensegrity) (w : List Int) : Bool := proper t w && !(List.range' 0 w.length).any (badSt t w)
theorem strictI_eq (t : TTensegrity) (w : List Int) (h0 : SM t.Framework.Graph.Bars.length) (h1 : SM t.Framework.Places.length) (h2 : SM t.Kinds.length) (hw : SM w.length) : m_impl_IsStrictStress t w = some (strict t w) := by
  unfold m_impl_IsStrictStress strict
  rw [properI_eq t w h0 h1 h2 hw]
  cases hp : proper t w
  · rfl
  · have hl := proper_len hp
    have e := any_loop0 (b := m_impl_IsStrictStress_L1 t w) (badSt t w) false t.Kinds.length (by omega) (fun k hkl => by
      have hz := List.getElem?_eq_getElem hkl
      have hc : w[k]? = some (w[k]'(by omega)) := List.getElem?_eq_getElem (by omega)
      unfold m_impl_IsStrictStress_L1 badSt
      rw [hz, hc]
      simp only [idx_of hz, idx_of hc, Option.bind_some]
      rw [decide_eq_true (by omega), cond_true]
      cases t.Kinds[k] != 0 <;> rfl) (by simp [m_impl_IsStrictStress_L1])
    simp only [Option.bind_some, Bool.not_true, cond_false, e]
    rw [show w.length = t.Kinds.length by omega]
    cases (List.range' 0 t.Kinds.length).any (badSt t w) <;> rfl
theorem strictS_eq (t : TTensegrity) (w : List Int) (h0 : SM t.Framework.Graph.Bars.length) (h1 : SM t.Framework.Places.length) (h2 : SM t.Kinds.length) (hw : SM w.length) : m_spec_IsStrictStress t w = some (strict t w) := by
  unfold m_spec_IsStrictStress strict
  rw [properS_eq t w h0 h1 h2 hw]
  cases hp : proper t w
  · rfl
  · have hl := proper_len hp
    have e := any_loop0 (b := m_spec_IsStrictStress_L1 t w) (badSt t w) false w.length (by omega) (fun k hkl => by
      have hz : t.Kinds[k]? = some (t.Kinds[k]'(by omega)) := List.getElem?_eq_getElem (by omega)
      have hc := List.getElem?_eq_getElem hkl
      unfold m_spec_IsStrictStress_L1 badSt
      rw [hz, hc]
      simp only [idx_of hz, idx_of hc, Option.bind_some]
      rw [decide_eq_true (by omega), cond_true]
      cases (t.Kinds[k]'(by omega)) != 0 <;> rfl) (by simp [m_spec_IsStrictStress_L1])
    simp only [Option.bind_some, Bool.not_true, cond_false, e]
    cases (List.range' 0 w.length).any (badSt t w) <;> rfl
theorem both_IsStrictStress (t : TTensegrity) (w : List Int) (h0 : t.Framework.Graph.Bars.length ≤ 1048576) (h1 : t.Framework.Places.length ≤ 1048576) (h2 : t.Kinds.length ≤ 1048576) (hw : w.length ≤ 1048576) : ∃ r, m_spec_IsStrictStress t w = some r ∧ m_impl_IsStrictStress t w = some r :=
  ⟨_, strictS_eq t w (by omega) (by omega) (by omega) (by omega), strictI_eq t w (by omega) (by omega) (by omega) (by omega)⟩
end Go.Proofs.Ytoedmjkipecloaa
