/- Parts of a proof that a law of the program holds: what the program computes, and why that is right. -/
import Derived.Test.YtghofbijdnenoaaProg
import Derived.Test.YtghofbijdnenoaaZFnRigidity2
section
set_option linter.unusedVariables false
set_option linter.unusedSimpArgs false
set_option linter.unnecessarySimpa false
open Go Go.Fw Go.Mx
namespace Go.Proofs.Ytghofbijdnenoaa
theorem tame_of {n : Nat} {M : Mat} (hn : RowsN n M) (hm : Minors n M 2000000000) : Tame n M := fun c hc => by
  obtain ⟨M', h⟩ := bred_inv hn c hc
  obtain ⟨h1, h2⟩ := stage_small hn hc hm h
  exact ⟨h1, h2⟩
def nC (f : TFramework) : Nat := 2 * f.Graph.Points.toNat
def rowOf (f : TFramework) (b : TBar) : List Int := rrow (nC f) (2 * b.A.toNat) (2 * b.B.toNat) ((plAt f b.A).X - (plAt f b.B).X) ((plAt f b.A).Y - (plAt f b.B).Y)
def rigM (f : TFramework) : Mat := f.Graph.Bars.map (rowOf f)
section
variable {f : TFramework}
theorem rigM_len : (rigM f).length = f.Graph.Bars.length := by simp [rigM]
theorem mem_bar {b : TBar} (h : b ∈ f.Graph.Bars) : ∃ k : Nat, f.Graph.Bars[k]? = some b := List.mem_iff_getElem?.1 h
theorem sq16 {x : Int} (h1 : -4 ≤ x) (h2 : x ≤ 4) : x * x ≤ 16 := by
  have : x = -4 ∨ x = -3 ∨ x = -2 ∨ x = -1 ∨ x = 0 ∨ x = 1 ∨ x = 2 ∨ x = 3 ∨ x = 4 := by omega
  rcases this with h | h | h | h | h | h | h | h | h <;> subst h <;> decide
theorem bar_pos (h : VF f) {k : Nat} {b : TBar} (hb : f.Graph.Bars[k]? = some b) : 2 * b.A.toNat + 1 < 2 * b.B.toNat ∧ 2 * b.B.toNat + 1 < nC f := by
  have a0 := h.g.a0 hb
  have ab := h.g.ab hb
  have bp := h.g.bp hb
  unfold nC
  omega
theorem rigB (h : VF f) : RigB (nC f) (rigM f) (fun k => (plAt f (k : Int)).X) (fun k => (plAt f (k : Int)).Y) := by
  have key : ∀ v ∈ rigM f, ∃ (k : Nat) (b : TBar), f.Graph.Bars[k]? = some b ∧ v = rowOf f b := fun v hv => by
    obtain ⟨b, hb, rfl⟩ := List.mem_map.1 hv
    obtain ⟨k, hk⟩ := mem_bar hb
    exact ⟨k, b, hk, rfl⟩
  have yat : ∀ (a b g : Int) (v : Nat), 2 * v + 1 < nC f → (yv (nC f) (fun k => (plAt f (k : Int)).X) (fun k => (plAt f (k : Int)).Y) a b g).getD (2 * v) 0 = a - g * (plAt f (v : Int)).Y ∧ (yv (nC f) (fun k => (plAt f (k : Int)).X) (fun k => (plAt f (k : Int)).Y) a b g).getD (2 * v + 1) 0 = b + g * (plAt f (v : Int)).X := fun a b g v hv => by
    unfold yv
    rw [vec_get _ (by omega), vec_get _ hv, if_pos (by omega), if_neg (by omega), show 2 * v / 2 = v by omega, show (2 * v + 1) / 2 = v by omega]
    exact ⟨rfl, rfl⟩
  refine ⟨fun v hv => ?_, fun v hv => ?_, fun v hv a b g => ?_, fun hne a b g habg => ?_, ?_⟩
  · obtain ⟨k, b, hb, rfl⟩ := key v hv
    exact rrow_len ..
  · obtain ⟨k, b, hb, rfl⟩ := key v hv
    obtain ⟨p1, p2⟩ := bar_pos h hb
    have a0 := h.g.a0 hb
    have ab := h.g.ab hb
    have bp := h.g.bp hb
    have ga := h.pl_grid (v := b.A) (by omega) (by omega)
    have gb := h.pl_grid (v := b.B) (by omega) (by omega)
    unfold rowOf
    rw [rrow_sq p1 p2]
    have := sq16 (x := (plAt f b.A).X - (plAt f b.B).X) (by omega) (by omega)
    have := sq16 (x := (plAt f b.A).Y - (plAt f b.B).Y) (by omega) (by omega)
    omega
  · obtain ⟨k, x, hb, rfl⟩ := key v hv
    obtain ⟨p1, p2⟩ := bar_pos h hb
    have a0 := h.g.a0 hb
    have ab := h.g.ab hb
    obtain ⟨y1, y2⟩ := yat a b g x.A.toNat (by omega)
    obtain ⟨y3, y4⟩ := yat a b g x.B.toNat (by omega)
    rw [Int.toNat_of_nonneg a0] at y1 y2
    rw [Int.toNat_of_nonneg (show 0 ≤ x.B by omega)] at y3 y4
    unfold rowOf
    rw [rrow_dot (by rw [yv, vec_len]) p1 p2, y1, y2, y3, y4]
    grind
  · refine Classical.byContradiction fun hno => ?_
    have hz : ∀ k, (yv (nC f) (fun k => (plAt f (k : Int)).X) (fun k => (plAt f (k : Int)).Y) a b g).getD k 0 = 0 := fun k => Classical.byContradiction fun e => hno ⟨k, e⟩
    obtain ⟨v, hv⟩ := List.exists_mem_of_ne_nil _ hne
    obtain ⟨k, x, hb, rfl⟩ := key v hv
    obtain ⟨p1, p2⟩ := bar_pos h hb
    have a0 := h.g.a0 hb
    have ab := h.g.ab hb
    obtain ⟨y1, y2⟩ := yat a b g x.A.toNat (by omega)
    obtain ⟨y3, y4⟩ := yat a b g x.B.toNat (by omega)
    rw [Int.toNat_of_nonneg a0, hz] at y1 y2
    rw [Int.toNat_of_nonneg (show 0 ≤ x.B by omega), hz] at y3 y4
    have hdif := h.dif hb
    have e1 : g * ((plAt f x.A).X - (plAt f x.B).X) = 0 := by grind
    have e2 : g * ((plAt f x.A).Y - (plAt f x.B).Y) = 0 := by grind
    have hg : g = 0 := by
      rcases Int.mul_eq_zero.1 e1 with e | e
      · exact e
      · rcases Int.mul_eq_zero.1 e2 with e' | e'
        · exact e'
        · have h1 : (plAt f x.A).X = (plAt f x.B).X := by omega
          have h2 : (plAt f x.A).Y = (plAt f x.B).Y := by omega
          rw [h1, h2] at hdif
          simp [eqI] at hdif
    subst hg
    have : a = 0 := by omega
    have : b = 0 := by omega
    omega
  · have := h.p6
    unfold nC
    omega
theorem rigRows (h : VF f) : RowsN (nC f) (rigM f) := fun i hi => (rigB h).len _ (by rw [List.getD_eq_getElem?_getD, List.getElem?_eq_getElem hi]; exact List.getElem_mem hi)
theorem rigTame (h : VF f) : Tame (nC f) (rigM f) := tame_of (rigRows h) (rigB h).minors
theorem w64_2p (h : VF f) : w64 (2 * f.Graph.Points) = ((nC f : Nat) : Int) := by
  have := h.p6
  have := h.g.p1
  unfold nC
  rw [w64_small (by omega) (by omega)]
  omega
theorem rigI_eq (h0 : SM f.Graph.Bars.length) (h1 : SM f.Places.length) : m_impl_RigidityMatrix f = some (bif vF f then rigM f else []) := by
  unfold m_impl_RigidityMatrix
  rw [isFI_eq f h0 h1, Option.bind_some]
  cases hv : vF f with
  | false => rfl
  | true =>
    have h := vF_VF hv
    have hp6 := h.p6
    have hlen := h.len
    have hL : loopM (m_impl_RigidityMatrix_L1 f) BIG (0, []) = some (rigM f) := by
      refine loopM_run (fun k => ((k : Int), (rigM f).take k)) f.Graph.Bars.length (by omega) (by simp) (fun k hk => ?_) ?_
      · have hx := List.getElem?_eq_getElem hk
        have a0 := h.g.a0 hx
        have ab := h.g.ab hx
        have bp := h.g.bp hx
        obtain ⟨p1, p2⟩ := bar_pos h hx
        have ga := h.pl_grid (v := f.Graph.Bars[k].A) (by omega) (by omega)
        have gb := h.pl_grid (v := f.Graph.Bars[k].B) (by omega) (by omega)
        have hn12 : nC f ≤ 12 := by unfold nC; omega
        have w1 : w64 (2 * f.Graph.Bars[k].A) = ((2 * f.Graph.Bars[k].A.toNat : Nat) : Int) := by rw [w64_small (by omega) (by omega)]; omega
        have w2 : w64 (2 * f.Graph.Bars[k].B) = ((2 * f.Graph.Bars[k].B.toNat : Nat) : Int) := by rw [w64_small (by omega) (by omega)]; omega
        have w3 : w64 ((plAt f f.Graph.Bars[k].A).X - (plAt f f.Graph.Bars[k].B).X) = (plAt f f.Graph.Bars[k].A).X - (plAt f f.Graph.Bars[k].B).X := w64_small (by omega) (by omega)
        have w4 : w64 ((plAt f f.Graph.Bars[k].A).Y - (plAt f f.Graph.Bars[k].B).Y) = (plAt f f.Graph.Bars[k].A).Y - (plAt f f.Graph.Bars[k].B).Y := w64_small (by omega) (by omega)
        have w5 : w64 ((plAt f f.Graph.Bars[k].B).X - (plAt f f.Graph.Bars[k].A).X) = -((plAt f f.Graph.Bars[k].A).X - (plAt f f.Graph.Bars[k].B).X) := by rw [w64_small (by omega) (by omega)]; omega
        have w6 : w64 ((plAt f f.Graph.Bars[k].B).Y - (plAt f f.Graph.Bars[k].A).Y) = -((plAt f f.Graph.Bars[k].A).Y - (plAt f f.Graph.Bars[k].B).Y) := by rw [w64_small (by omega) (by omega)]; omega
        have hlim : lim (((rigM f).take k).length + 1) = some () := lim_ok (by rw [List.length_take]; omega)
        unfold m_impl_RigidityMatrix_L1
        rw [decide_eq_true (by omega), cond_true, idx_at hk, Option.bind_some, w64_2p h, lenOk_ok (by omega) (by omega), Option.bind_some, h.pl_in (by omega) (by omega), Option.bind_some, h.pl_in (by omega) (by omega), Option.bind_some]
        simp only [w1, w2, w3, w4, w5, w6, Int.toNat_natCast, w64_succ (show 2 * f.Graph.Bars[k].A.toNat ≤ 1099511627776 by omega), w64_succ (show 2 * f.Graph.Bars[k].B.toNat ≤ 1099511627776 by omega), hlim]
        rw [idxD 0 (by simp; omega), Option.bind_some, idxD 0 (by simp; omega), Option.bind_some, idxD 0 (by simp; omega), Option.bind_some, idxD 0 (by simp; omega), Option.bind_some, Option.bind_some, take_get (show k < (rigM f).length by rw [rigM_len]; exact hk), w64_succ (by omega)]
        simp only [rigM, List.getElem_map]
        rfl
      · unfold m_impl_RigidityMatrix_L1
        rw [decide_eq_false (by omega), cond_false, List.take_of_length_le (by rw [rigM_len]; exact Nat.le_refl _)]
    simp only [Bool.not_true, cond_false, cond_true, hL]
    rfl
theorem rigS_eq (h0 : SM f.Graph.Bars.length) (h1 : SM f.Places.length) : m_spec_RigidityMatrix f = some (bif vF f then rigM f else []) := by
  unfold m_spec_RigidityMatrix
  cases hv : vF f with
  | false =>
    have hL : loopM (m_spec_RigidityMatrix_L1 f) BIG (0, []) = some [] := by
      refine loopM_run (fun _ => (0, [])) 0 (by omega) rfl (fun k hk => by omega) ?_
      unfold m_spec_RigidityMatrix_L1
      simp only [isFS_eq f h0 h1, hv, Option.bind_some]
      cases decide ((0 : Int) < (f.Graph.Bars.length : Int)) <;> rfl
    rw [hL]; rfl
  | true =>
    have h := vF_VF hv
    have hp6 := h.p6
    have hlen := h.len
    have hL : loopM (m_spec_RigidityMatrix_L1 f) BIG (0, []) = some (rigM f) := by
      refine loopM_run (fun k => ((k : Int), (rigM f).take k)) f.Graph.Bars.length (by omega) (by simp) (fun k hk => ?_) ?_
      · have hx := List.getElem?_eq_getElem hk
        have a0 := h.g.a0 hx
        have ab := h.g.ab hx
        have bp := h.g.bp hx
        obtain ⟨p1, p2⟩ := bar_pos h hx
        have ga := h.pl_grid (v := f.Graph.Bars[k].A) (by omega) (by omega)
        have gb := h.pl_grid (v := f.Graph.Bars[k].B) (by omega) (by omega)
        have hn12 : nC f ≤ 12 := by unfold nC; omega
        have w1 : w64 (2 * f.Graph.Bars[k].A) = ((2 * f.Graph.Bars[k].A.toNat : Nat) : Int) := by rw [w64_small (by omega) (by omega)]; omega
        have w2 : w64 (2 * f.Graph.Bars[k].B) = ((2 * f.Graph.Bars[k].B.toNat : Nat) : Int) := by rw [w64_small (by omega) (by omega)]; omega
        have w3 : w64 ((plAt f f.Graph.Bars[k].A).X - (plAt f f.Graph.Bars[k].B).X) = (plAt f f.Graph.Bars[k].A).X - (plAt f f.Graph.Bars[k].B).X := w64_small (by omega) (by omega)
        have w4 : w64 ((plAt f f.Graph.Bars[k].A).Y - (plAt f f.Graph.Bars[k].B).Y) = (plAt f f.Graph.Bars[k].A).Y - (plAt f f.Graph.Bars[k].B).Y := w64_small (by omega) (by omega)
        have w5 : w64 (-((plAt f f.Graph.Bars[k].A).X - (plAt f f.Graph.Bars[k].B).X)) = -((plAt f f.Graph.Bars[k].A).X - (plAt f f.Graph.Bars[k].B).X) := w64_small (by omega) (by omega)
        have w6 : w64 (-((plAt f f.Graph.Bars[k].A).Y - (plAt f f.Graph.Bars[k].B).Y)) = -((plAt f f.Graph.Bars[k].A).Y - (plAt f f.Graph.Bars[k].B).Y) := w64_small (by omega) (by omega)
        have hlim : ∀ x : List Int, lim (((rigM f).take k).length + [x].length) = some () := fun x => lim_ok (by rw [List.length_take]; simp; omega)
        unfold m_spec_RigidityMatrix_L1
        rw [decide_eq_true (show (k : Int) < (f.Graph.Bars.length : Int) by omega), cond_true, isFS_eq f h0 h1, hv, Option.bind_some, Option.bind_some, cond_true, idx_at hk, Option.bind_some, w64_2p h, lenOk_ok (by omega) (by omega), Option.bind_some, h.pl_in (by omega) (by omega), Option.bind_some, h.pl_in (by omega) (by omega), Option.bind_some, Option.bind_some, Option.bind_some]
        simp only [w1, w2, w3, w4, w5, w6, Int.toNat_natCast, w64_succ (show 2 * f.Graph.Bars[k].A.toNat ≤ 1099511627776 by omega), w64_succ (show 2 * f.Graph.Bars[k].B.toNat ≤ 1099511627776 by omega), hlim]
        rw [idxD 0 (by simp; omega), Option.bind_some, idxD 0 (by simp; omega), Option.bind_some, idxD 0 (by simp; omega), Option.bind_some, idxD 0 (by simp; omega), Option.bind_some, Option.bind_some, take_get (show k < (rigM f).length by rw [rigM_len]; exact hk), w64_succ (by omega)]
        simp only [rigM, List.getElem_map]
        rfl
      · unfold m_spec_RigidityMatrix_L1
        rw [decide_eq_false (by omega), cond_false, List.take_of_length_le (by rw [rigM_len]; exact Nat.le_refl _)]
        rfl
    rw [hL]; rfl
end
theorem nC_le {f : TFramework} (h : VF f) : nC f ≤ 12 := by have := h.p6; unfold nC; omega
def frank (f : TFramework) : Int := bif vF f then ((bred (nC f) (rigM f) (nC f)).piv.length : Int) else -1
section
variable (f : TFramework) (h0 : SM f.Graph.Bars.length) (h1 : SM f.Places.length)
include h0 h1
theorem frankI_eq : m_impl_FrameworkRank f = some (frank f) := by
  unfold m_impl_FrameworkRank frank
  rw [isFI_eq f h0 h1, rigI_eq h0 h1, Option.bind_some]
  cases hv : vF f with
  | false => rfl
  | true =>
    have h := vF_VF hv
    have hn := nC_le h
    have hl := h.len
    simp only [Bool.not_true, cond_false, cond_true, Option.bind_some, w64_2p h, m_impl_rank, reducedI_eq (show nC f ≤ 1000000 by omega) (show (rigM f).length ≤ 1000000 by rw [rigM_len]; omega) (rigRows h) (rigTame h), castL_len]
theorem frankS_eq : m_spec_FrameworkRank f = some (frank f) := by
  unfold m_spec_FrameworkRank frank
  rw [isFS_eq f h0 h1, rigS_eq h0 h1, Option.bind_some]
  cases hv : vF f with
  | false => rfl
  | true =>
    have h := vF_VF hv
    have hn := nC_le h
    have hl := h.len
    simp only [Bool.not_true, cond_false, cond_true, Option.bind_some, reducedS_eq (show nC f ≤ 1000000 by omega) (show (rigM f).length ≤ 1000000 by rw [rigM_len]; omega) (rigRows h) (rigTame h), castL_len]
end
section
variable (f : TFramework) (h0 : SM f.Graph.Bars.length) (h1 : SM f.Places.length)
include h0 h1
end
end Go.Proofs.Ytghofbijdnenoaa
end
section
set_option linter.unusedVariables false
set_option linter.unusedSimpArgs false
set_option linter.unnecessarySimpa false
open Go Go.Fw
namespace Go.Proofs.Ytghofbijdnenoaa
theorem loop_inv2 {σ σ' τ τ' : Type} {b : σ → Option (σ ⊕ τ)} {b' : σ' → Option (σ' ⊕ τ')} {s : σ} {s' : σ'} (I : Nat → σ → σ' → Prop) (Q : τ → τ' → Prop) (n : Nat) (hn : n ≤ 1099511627776) (h0 : I 0 s s')
    (h : ∀ k s s', k < n → I k s s' → (∃ t t', b s = some (.inl t) ∧ b' s' = some (.inl t') ∧ I (k + 1) t t') ∨ ∃ r r', b s = some (.inr r) ∧ b' s' = some (.inr r') ∧ Q r r')
    (hr : ∀ s s', I n s s' → ∃ r r', b s = some (.inr r) ∧ b' s' = some (.inr r') ∧ Q r r') : ∃ r r', loopM b BIG s = some r ∧ loopM b' BIG s' = some r' ∧ Q r r' := by
  have go : ∀ (j k f : Nat) (s : σ) (s' : σ'), k + j = n → j < f → I k s s' → ∃ r r', loopM b f s = some r ∧ loopM b' f s' = some r' ∧ Q r r' := by
    intro j
    induction j with
    | zero =>
      intro k f s s' hk hf hi
      obtain ⟨f, rfl⟩ : ∃ g, f = g + 1 := ⟨f - 1, by omega⟩
      have : k = n := by omega
      subst this
      obtain ⟨r, r', h1, h2, h3⟩ := hr s s' hi
      exact ⟨r, r', by unfold loopM; rw [h1], by unfold loopM; rw [h2], h3⟩
    | succ j ih =>
      intro k f s s' hk hf hi
      obtain ⟨f, rfl⟩ : ∃ g, f = g + 1 := ⟨f - 1, by omega⟩
      rcases h k s s' (by omega) hi with ⟨t, t', h1, h2, h3⟩ | ⟨r, r', h1, h2, h3⟩
      · obtain ⟨r, r', h4, h5, h6⟩ := ih (k + 1) f t t' (by omega) (by omega) h3
        exact ⟨r, r', by unfold loopM; rw [h1]; exact h4, by unfold loopM; rw [h2]; exact h5, h6⟩
      · exact ⟨r, r', by unfold loopM; rw [h1], by unfold loopM; rw [h2], h3⟩
  exact go n 0 BIG s s' (by omega) (BIG_gt hn) h0
structure GB (P : Int) (bars : List TBar) : Prop where
  p1 : 1 ≤ P
  p8 : P ≤ 8
  len : bars.length ≤ 1000
  a0 : ∀ {k : Nat} {x : TBar}, bars[k]? = some x → 0 ≤ x.A
  ab : ∀ {k : Nat} {x : TBar}, bars[k]? = some x → x.A ≠ x.B
  b0 : ∀ {k : Nat} {x : TBar}, bars[k]? = some x → 0 ≤ x.B
  ap : ∀ {k : Nat} {x : TBar}, bars[k]? = some x → x.A < P
  bp : ∀ {k : Nat} {x : TBar}, bars[k]? = some x → x.B < P
theorem VG.gb {g : TGraph} (h : VG g) : GB g.Points g.Bars :=
  ⟨h.p1, h.p8, by have := h.len; omega, h.a0, fun hx => by have := h.ab hx; omega, fun hx => by have := h.a0 hx; have := h.ab hx; omega, fun hx => by have := h.ab hx; have := h.bp hx; omega, h.bp⟩
def pbar (bars : List TBar) (p : TPebbles) (i : Nat) : TBar := ((p.Placed[i]?).bind fun e => bars[e.toNat]?).getD ⟨0, 0⟩
structure PB (P : Int) (bars : List TBar) (k : Int) (m : Nat) (p : TPebbles) : Prop where
  k1 : 1 ≤ k
  k3 : k ≤ 3
  fl : (p.Free.length : Int) = P
  tl : p.Tails.length = p.Placed.length
  pl : p.Placed.length ≤ m
  pr : ∀ {i : Nat} {e : Int}, p.Placed[i]? = some e → 0 ≤ e ∧ e < (bars.length : Int) ∧ e < (m : Int)
  inc : ∀ {i : Nat} {e e' : Int}, p.Placed[i]? = some e → p.Placed[i + 1]? = some e' → e < e'
  ends : ∀ {i : Nat} {t : Int}, p.Tails[i]? = some t → t = (pbar bars p i).A ∨ t = (pbar bars p i).B
  fr : ∀ {v : Nat} {f : Int}, p.Free[v]? = some f → 0 ≤ f ∧ f + (p.Tails.count (v : Int) : Int) = k
section
variable {P : Int} {bars : List TBar} {k : Int} {m : Nat} {p : TPebbles}
theorem PB.bar (hg : GB P bars) (h : PB P bars k m p) {i : Nat} (hi : i < p.Placed.length) : ∃ e, p.Placed[i]? = some e ∧ idx bars e = some (pbar bars p i) ∧ bars[e.toNat]? = some (pbar bars p i) := by
  have h1 := List.getElem?_eq_getElem hi
  obtain ⟨e0, e1, _⟩ := h.pr h1
  refine ⟨_, h1, ?_⟩
  have h2 : bars[p.Placed[i].toNat]? = some (pbar bars p i) := by
    unfold pbar
    rw [h1]
    simp only [Option.bind_some]
    rw [List.getElem?_eq_getElem (by omega)]
    rfl
  refine ⟨?_, h2⟩
  unfold idx
  rw [if_pos e0, h2]
theorem PB.pbar_ok (hg : GB P bars) (h : PB P bars k m p) {i : Nat} (hi : i < p.Placed.length) : 0 ≤ (pbar bars p i).A ∧ 0 ≤ (pbar bars p i).B ∧ (pbar bars p i).A ≠ (pbar bars p i).B ∧ (pbar bars p i).A < P ∧ (pbar bars p i).B < P := by
  obtain ⟨e, _, _, h2⟩ := h.bar hg hi
  exact ⟨hg.a0 h2, hg.b0 h2, hg.ab h2, hg.ap h2, hg.bp h2⟩
theorem other_S (x : TBar) (v : Int) (hp : P ≤ 8) (h : 0 ≤ x.A ∧ 0 ≤ x.B ∧ x.A ≠ x.B ∧ x.A < P ∧ x.B < P) (hv : v = x.A ∨ v = x.B) : m_spec_l4Other x v = some (otherE x v) := by
  unfold m_spec_l4Other otherE
  rw [w64_small (n := x.A + x.B) (by omega) (by omega)]
  rcases hv with rfl | rfl
  · rw [w64_small (by omega) (by omega), beq_self_eq_true, cond_true]
    congr 1
    omega
  · have : (x.A == x.B) = false := by simp; exact h.2.2.1
    rw [w64_small (by omega) (by omega), this, cond_false]
    congr 1
    omega
theorem other_I (x : TBar) (v : Int) : m_impl_Bar_other x v = some (otherE x v) := by
  unfold m_impl_Bar_other otherE
  cases x.A == v <;> rfl
theorem other_ok {x : TBar} {v : Int} (h : 0 ≤ x.A ∧ 0 ≤ x.B ∧ x.A ≠ x.B ∧ x.A < P ∧ x.B < P) (hv : v = x.A ∨ v = x.B) : 0 ≤ otherE x v ∧ otherE x v < P ∧ otherE x v ≠ v ∧ (otherE x v = x.A ∨ otherE x v = x.B) ∧ otherE x (otherE x v) = v := by
  unfold otherE
  rcases hv with rfl | rfl
  · have e : (x.A == x.B) = false := by simp; exact h.2.2.1
    simp only [beq_self_eq_true, cond_true, e, cond_false]
    exact ⟨by omega, by omega, by omega, .inr trivial, trivial⟩
  · have e : (x.A == x.B) = false := by simp; exact h.2.2.1
    simp only [e, cond_false, beq_self_eq_true, cond_true]
    exact ⟨by omega, by omega, by omega, .inl trivial, trivial⟩
theorem mget_put (m : List (Int × Int)) (k v j : Int) : mget (mput m k v) j = if j = k then v else mget m j := by
  induction m with
  | nil =>
    simp only [mput, mget]
    by_cases h : j = k
    · simp [h]
    · have : (j == k) = false := by simp [h]
      simp [h, this]
  | cons e r ih =>
    unfold mput
    cases hk : k == e.1 with
    | true =>
      rw [beq_iff_eq] at hk
      simp only [cond_true, mget]
      by_cases h : j = k
      · simp [h]
      · have h1 : (j == k) = false := by simp [h]
        have h2 : (j == e.1) = false := by simp [← hk, h]
        simp [h, h1, h2]
    | false =>
      simp only [cond_false, mget, ih]
      by_cases h : j = e.1
      · have h1 : ¬ j = k := fun h2 => by
          rw [← h2, h] at hk
          simp at hk
        simp [h, h1]
        intro h3
        exact absurd (h.trans h3) h1
      · have h1 : (j == e.1) = false := by simp [h]
        simp [h1]
theorem mhas_put (m : List (Int × Int)) (k v j : Int) : mhas (mput m k v) j = (decide (j = k) || mhas m j) := by
  induction m with
  | nil =>
    simp only [mput, mhas]
    by_cases h : j = k
    · simp [h]
    · have : (j == k) = false := by simp [h]
      simp [h, this]
  | cons e r ih =>
    unfold mput
    cases hk : k == e.1 with
    | true =>
      rw [beq_iff_eq] at hk
      simp only [cond_true, mhas]
      by_cases h : j = k
      · simp [h]
      · have h1 : (j == k) = false := by simp [h]
        have h2 : (j == e.1) = false := by simp [← hk, h]
        simp [h, h1, h2]
    | false =>
      simp only [cond_false, mhas, ih]
      cases hj : j == e.1 <;> simp
structure BF (P : Int) (bars : List TBar) (p : TPebbles) (a : Int) (q : List Int) (M : List (Int × Int)) (F : List Int) (S : List Bool) : Prop where
  first : q[0]? = some a
  nd : ∀ {i j : Nat} {v : Int}, q[i]? = some v → q[j]? = some v → i = j
  rng : ∀ {i : Nat} {v : Int}, q[i]? = some v → 0 ≤ v ∧ v < P
  sl : (S.length : Int) = P
  fl : (F.length : Int) = P
  cnt : q.length = S.count true
  seen : ∀ {v : Nat} {s : Bool}, S[v]? = some s → (s = true ↔ (v : Int) ∈ q)
  has : ∀ v : Int, mhas M v = true ↔ v ∈ q
  from_ : ∀ {v : Nat} {f : Int}, F[v]? = some f → (v : Int) ∈ q → f = mget M v
  way : ∀ {j : Nat} {v : Int}, 0 < j → q[j]? = some v → ∃ (i j' : Nat) (t : Int), mget M v = i ∧ i < p.Placed.length ∧ j' < j ∧ q[j']? = some t ∧ p.Tails[i]? = some t ∧ otherE (pbar bars p i) t = v
theorem BF.len {a : Int} {q : List Int} {M : List (Int × Int)} {F : List Int} {S : List Bool} (h : BF P bars p a q M F S) : (q.length : Int) ≤ P := by
  have := List.count_le_length (a := true) (l := S)
  have := h.cnt
  have := h.sl
  omega
theorem BF.more (hg : GB P bars) (hp : PB P bars k m p) {a : Int} {q : List Int} {M : List (Int × Int)} {F : List Int} {S : List Bool} (h : BF P bars p a q M F S) {i j : Nat} {t u : Int} (hi : i < p.Placed.length) (hj : q[j]? = some t) (ht : p.Tails[i]? = some t) (hu : otherE (pbar bars p i) t = u) (hn : u ∉ q) :
    BF P bars p a (q ++ [u]) (mput M u i) (F.set u.toNat i) (S.set u.toNat true) := by
  have hends := hp.ends ht
  obtain ⟨u0, u1, _, _, _⟩ := other_ok (hp.pbar_ok hg hi) hends
  rw [hu] at u0 u1
  have hjl := (List.getElem?_eq_some_iff.1 hj).1
  have hget : ∀ {r : Nat} {v : Int}, (q ++ [u])[r]? = some v → (r < q.length ∧ q[r]? = some v) ∨ (r = q.length ∧ v = u) := fun {r v} hr => by
    rw [List.getElem?_append] at hr
    split at hr
    · exact .inl ⟨by assumption, hr⟩
    · right
      have hrl : r - q.length = 0 := by
        rcases Nat.eq_zero_or_pos (r - q.length) with h0 | h0
        · exact h0
        · rw [List.getElem?_eq_none (by simp; omega)] at hr
          cases hr
      rw [hrl] at hr
      simp at hr
      exact ⟨by omega, hr.symm⟩
  have hmem : ∀ {r : Nat} {v : Int}, q[r]? = some v → v ∈ q := fun hr => List.mem_of_getElem? hr
  have hsl := h.sl
  have hsu : S[u.toNat]? = some (S[u.toNat]'(by omega)) := List.getElem?_eq_getElem (by omega)
  have hsf : S[u.toNat]'(by omega) = false := by
    cases hb : S[u.toNat]'(by omega) with
    | false => rfl
    | true =>
      rw [hb] at hsu
      have := (h.seen hsu).1 rfl
      rw [Int.toNat_of_nonneg u0] at this
      exact absurd this hn
  refine ⟨?_, ?_, ?_, by simpa using h.sl, by simpa using h.fl, ?_, ?_, ?_, ?_, ?_⟩
  · rw [List.getElem?_append_left (by omega)]
    exact h.first
  · intro r s v hr hs
    rcases hget hr with ⟨h1, h2⟩ | ⟨h1, h2⟩ <;> rcases hget hs with ⟨h3, h4⟩ | ⟨h3, h4⟩
    · exact h.nd h2 h4
    · subst h4; exact absurd (hmem h2) hn
    · subst h2; exact absurd (hmem h4) hn
    · omega
  · intro r v hr
    rcases hget hr with ⟨_, h2⟩ | ⟨_, rfl⟩
    · exact h.rng h2
    · exact ⟨u0, u1⟩
  · have := h.cnt
    rw [List.count_set (by omega), hsf, List.length_append]
    simp
    omega
  · intro v s hv
    rw [List.getElem?_set] at hv
    rw [List.mem_append, List.mem_singleton]
    by_cases huv : u.toNat = v
    · rw [if_pos huv] at hv
      split at hv
      · injection hv with hv
        subst hv
        simp only [true_iff]
        right
        omega
      · cases hv
    · rw [if_neg huv] at hv
      rw [h.seen hv]
      constructor
      · exact .inl
      · rintro (h1 | h1)
        · exact h1
        · omega
  · intro v
    rw [mhas_put, Bool.or_eq_true, decide_eq_true_eq, h.has, List.mem_append, List.mem_singleton]
    exact Or.comm
  · intro v f hv hq
    rw [List.getElem?_set] at hv
    rw [mget_put]
    by_cases huv : u.toNat = v
    · rw [if_pos huv] at hv
      rw [if_pos (by omega)]
      split at hv
      · injection hv with hv
        exact hv.symm
      · cases hv
    · rw [if_neg huv] at hv
      rw [if_neg (by omega)]
      refine h.from_ hv ?_
      rw [List.mem_append, List.mem_singleton] at hq
      rcases hq with h1 | h1
      · exact h1
      · omega
  · intro r v h0 hr
    rcases hget hr with ⟨h1, h2⟩ | ⟨h1, rfl⟩
    · obtain ⟨i', j', t', w1, w2, w3, w4, w5, w6⟩ := h.way h0 h2
      have hvu : v ≠ u := fun e => hn (e ▸ hmem h2)
      exact ⟨i', j', t', by rw [mget_put, if_neg hvu]; exact w1, w2, w3, by rw [List.getElem?_append_left (List.getElem?_eq_some_iff.1 w4).1]; exact w4, w5, w6⟩
    · exact ⟨i, j, t, by rw [mget_put, if_pos rfl], hi, by omega, by rw [List.getElem?_append_left hjl]; exact hj, ht, hu⟩
theorem BF.start (hg : GB P bars) {a : Int} (a0 : 0 ≤ a) (a1 : a < P) {F : List Int} (hf : (F.length : Int) = P) (hF : ∀ {v : Nat} {f : Int}, F[v]? = some f → f = -1) : BF P bars p a [a] (mput [] a (-1)) F ((List.replicate P.toNat false).set a.toNat true) := by
  have hp1 := hg.p1
  have hget : ∀ {r : Nat} {v : Int}, ([a] : List Int)[r]? = some v → r = 0 ∧ v = a := fun {r v} hr => by
    cases r with
    | zero => simp at hr; exact ⟨rfl, hr.symm⟩
    | succ r => simp at hr
  refine ⟨rfl, fun h1 h2 => by rw [(hget h1).1, (hget h2).1], fun hr => by obtain ⟨_, rfl⟩ := hget hr; exact ⟨a0, a1⟩, by simp; omega, hf, ?_, ?_, ?_, ?_, ?_⟩
  · rw [List.count_set (by simp; omega), List.getElem_replicate]
    simp [List.count_replicate]
  · intro v s hv
    rw [List.mem_singleton]
    rw [List.getElem?_set] at hv
    by_cases hav : a.toNat = v
    · rw [if_pos hav] at hv
      split at hv
      · injection hv with hv
        subst hv
        simp only [true_iff]
        omega
      · cases hv
    · rw [if_neg hav, List.getElem?_replicate] at hv
      split at hv
      · injection hv with hv
        subst hv
        simp
        omega
      · cases hv
  · intro v
    rw [mhas_put, List.mem_singleton]
    simp [mhas]
  · intro v f hv hq
    rw [List.mem_singleton] at hq
    rw [mget_put, if_pos hq]
    exact hF hv
  · intro j v h0 hr
    have := (hget hr).1
    omega
theorem set_get {α : Type} {l : List α} {i j : Nat} {x y : α} (h : (l.set i x)[j]? = some y) : (i = j ∧ y = x) ∨ (i ≠ j ∧ l[j]? = some y) := by
  rw [List.getElem?_set] at h
  by_cases hij : i = j
  · rw [if_pos hij] at h
    split at h
    · injection h with h
      exact .inl ⟨hij, h.symm⟩
    · cases h
  · rw [if_neg hij] at h
    exact .inr ⟨hij, h⟩
structure TW (p : TPebbles) (bars : List TBar) (q : List Int) (M : List (Int × Int)) (u : Int) (j : Nat) (at_ : Int) (T : List Int) : Prop where
  atj : q[j]? = some at_
  tl : T.length = p.Tails.length
  keep : ∀ {r : Nat} {v : Int}, r ≤ j → 0 < r → q[r]? = some v → T[(mget M v).toNat]? = p.Tails[(mget M v).toNat]?
  ends : ∀ {i : Nat} {t : Int}, T[i]? = some t → t = (pbar bars p i).A ∨ t = (pbar bars p i).B
  cnt : ∀ v : Int, (T.count v : Int) = p.Tails.count v + (if v = u then 1 else 0) - (if v = at_ then 1 else 0)
theorem TW.step (hg : GB P bars) (hp : PB P bars k m p) {a : Int} {q : List Int} {M : List (Int × Int)} {F : List Int} {S : List Bool} (h : BF P bars p a q M F S) {u at_ : Int} {j : Nat} {T : List Int} (hT : TW p bars q M u j at_ T) (hne : at_ ≠ a) :
    ∃ (i j' : Nat) (t : Int), mget M at_ = i ∧ i < p.Placed.length ∧ j' < j ∧ T[i]? = some t ∧ otherE (pbar bars p i) at_ = t ∧ TW p bars q M u j' t (T.set i at_) := by
  have hj0 : 0 < j := by
    rcases Nat.eq_zero_or_pos j with h0 | h0
    · subst h0
      have := h.first.symm.trans hT.atj
      injection this with this
      exact absurd this.symm hne
    · exact h0
  obtain ⟨i, j', t, w1, w2, w3, w4, w5, w6⟩ := h.way hj0 hT.atj
  have hk := hT.keep (Nat.le_refl _) hj0 hT.atj
  rw [w1, Int.toNat_natCast, w5] at hk
  obtain ⟨_, _, o3, o4, o5⟩ := other_ok (hp.pbar_ok hg w2) (hp.ends w5)
  rw [w6] at o3 o4 o5
  have hil := (List.getElem?_eq_some_iff.1 hk).1
  have hig : T[i] = t := by
    rw [List.getElem?_eq_getElem hil] at hk
    injection hk
  refine ⟨i, j', t, w1, w2, w3, hk, o5, w4, by simpa using hT.tl, ?_, ?_, ?_⟩
  · intro r v hr h0 hq
    have hri : (mget M v).toNat ≠ i := fun e => by
      obtain ⟨i2, _, t2, x1, x2, _, _, x5, x6⟩ := h.way h0 hq
      rw [x1, Int.toNat_natCast] at e
      subst e
      rw [w5] at x5
      injection x5 with x5
      subst x5
      have : v = at_ := x6.symm.trans w6
      subst this
      have := h.nd hq hT.atj
      omega
    rw [List.getElem?_set, if_neg (Ne.symm hri)]
    exact hT.keep (by omega) h0 hq
  · intro i2 t2 h2
    rcases set_get h2 with ⟨rfl, rfl⟩ | ⟨_, h3⟩
    · exact o4
    · exact hT.ends h3
  · intro v
    rw [List.count_set hil, hig]
    have hc := hT.cnt v
    have hpos : t = v → 0 < T.count v := fun e => by
      subst e
      exact List.count_pos_iff.2 (List.mem_of_getElem? hk)
    by_cases h1 : v = t
    · subst h1
      have := hpos rfl
      have h3 : ¬ v = at_ := fun e => o3 e.symm
      have h4 : (at_ == v) = false := by simp; exact fun e => h3 e.symm
      simp only [beq_self_eq_true, if_true, h4, Bool.false_eq_true, if_false, if_neg h3] at hc ⊢
      omega
    · have h2 : (t == v) = false := by simp; exact fun e => h1 e.symm
      by_cases h3 : v = at_
      · subst h3
        simp only [h2, Bool.false_eq_true, if_false, beq_self_eq_true, if_true, if_neg h1] at hc ⊢
        omega
      · have h4 : (at_ == v) = false := by simp; exact fun e => h3 e.symm
        simp only [h2, h4, Bool.false_eq_true, if_false, if_neg h1, if_neg h3] at hc ⊢
        omega
theorem turn_both (hg : GB P bars) (hp : PB P bars k m p) {g : TGraph} (hgp : g.Points = P) (hgb : g.Bars = bars) {a : Int} {q : List Int} {M : List (Int × Int)} {F : List Int} {S : List Bool} (h : BF P bars p a q M F S) {u : Int} {j : Nat} (hu : q[j]? = some u) (r1 : TPebbles) (x2 x4 : Int) (s1 : Int × List (Int × Int) × List Int) (hM : mput s1.2.1 u s1.1 = M) :
    ∃ T, loopM (m_spec_l4Shift_L1 g p F a u r1 x2 x4) BIG (u, p.Tails) = some (((r1.Free.set u.toNat (w64 (x2 - 1))).set a.toNat (w64 (x4 + 1))), T, r1.Placed) ∧
      loopM (m_impl_moveTo_L11 p a s1 u x2 x4) BIG (u, p.Tails) = some (((p.Free.set u.toNat (w64 (x2 - 1))).set a.toNat (w64 (x4 + 1))), T) ∧ TW p bars q M u 0 a T := by
  have hql := h.len
  have h8 := hg.p8
  have hjl := (List.getElem?_eq_some_iff.1 hu).1
  obtain ⟨r, r', e1, e2, T, rfl, rfl, hT⟩ := loop_inv2 (b := m_spec_l4Shift_L1 g p F a u r1 x2 x4) (b' := m_impl_moveTo_L11 p a s1 u x2 x4) (s := (u, p.Tails)) (s' := (u, p.Tails))
    (fun n s s' => ∃ (j' : Nat) (at_ : Int) (T : List Int), s = (at_, T) ∧ s' = (at_, T) ∧ j' + n ≤ j ∧ TW p bars q M u j' at_ T)
    (fun r r' => ∃ T, r = (((r1.Free.set u.toNat (w64 (x2 - 1))).set a.toNat (w64 (x4 + 1))), T, r1.Placed) ∧ r' = (((p.Free.set u.toNat (w64 (x2 - 1))).set a.toNat (w64 (x4 + 1))), T) ∧ TW p bars q M u 0 a T) (j + 1) (by omega)
    ⟨j, u, p.Tails, rfl, rfl, by omega, hu, rfl, fun _ _ _ => rfl, hp.ends, fun v => by omega⟩ (fun n s s' hn hs => by
      obtain ⟨j', at_, T, rfl, rfl, hj', hT⟩ := hs
      by_cases hat : at_ = a
      · subst hat
        have hj0 : j' = 0 := h.nd hT.atj h.first
        subst hj0
        refine .inr ⟨_, _, ?_, ?_, T, rfl, rfl, hT⟩
        · unfold m_spec_l4Shift_L1
          simp
        · unfold m_impl_moveTo_L11
          simp
      · obtain ⟨i, j2, t, w1, w2, w3, w4, w5, w6⟩ := hT.step hg hp h hat
        have hb : (at_ != a) = true := by simp; exact hat
        obtain ⟨e, hpe, hbe, hbe2⟩ := hp.bar hg w2
        have hpi : idx p.Placed (i : Int) = some e := idx_of hpe
        have hrng := h.rng hT.atj
        have hFl := h.fl
        have hFat : idx F at_ = some (i : Int) := by
          have hl : F[at_.toNat]? = some (F[at_.toNat]'(by omega)) := List.getElem?_eq_getElem (by omega)
          have := h.from_ hl (by rw [Int.toNat_of_nonneg hrng.1]; exact List.mem_of_getElem? hT.atj)
          rw [Int.toNat_of_nonneg hrng.1, w1] at this
          unfold idx
          rw [if_pos hrng.1, hl, this]
        have hTi : idx T (i : Int) = some t := idx_of w4
        refine .inl ⟨(t, T.set i at_), (t, T.set i at_), ?_, ?_, j2, t, T.set i at_, rfl, rfl, by omega, w6⟩
        · have ho : m_spec_l4Other (pbar bars p i) at_ = some t := by
            rw [other_S (P := P) _ _ h8 (hp.pbar_ok hg w2) ?_, w5]
            obtain ⟨_, _, _, o4, _⟩ := other_ok (hp.pbar_ok hg w2) (hT.ends w4)
            have hte := hT.ends w4
            unfold otherE at w5
            by_cases hA : (pbar bars p i).A = at_
            · exact .inl hA.symm
            · have : ((pbar bars p i).A == at_) = false := by simp [hA]
              rw [this, cond_false] at w5
              -- the other end of at_ is A: at_ is B
              obtain ⟨i3, _, t3, z1, z2, _, _, z5, z6⟩ := h.way (j := j') (by
                rcases Nat.eq_zero_or_pos j' with h0 | h0
                · subst h0
                  have := h.first.symm.trans hT.atj
                  injection this with this
                  exact absurd this.symm hat
                · exact h0) hT.atj
              rw [w1] at z1
              have : i3 = i := by omega
              subst this
              obtain ⟨_, _, _, o4', _⟩ := other_ok (hp.pbar_ok hg z2) (hp.ends z5)
              rw [z6] at o4'
              exact o4'
          unfold m_spec_l4Shift_L1
          simp only [hb, cond_true, hFat, hpi, hgb, hbe, ho, hTi, Option.bind_some, Int.toNat_natCast]
        · unfold m_impl_moveTo_L11
          simp only [hb, cond_true, hM, w1, hTi, Option.bind_some, Int.toNat_natCast]) (fun s s' hs => by
      obtain ⟨j', at_, T, rfl, rfl, hj', hT⟩ := hs
      omega)
  exact ⟨T, e1, e2, hT⟩
theorem PB.moved (hg : GB P bars) (hp : PB P bars k m p) {q : List Int} {M : List (Int × Int)} {u a : Int} {T : List Int} {fu fa : Int} (hT : TW p bars q M u 0 a T) (u0 : 0 ≤ u) (a0 : 0 ≤ a) (hua : u ≠ a) (hfu : p.Free[u.toNat]? = some fu) (hfa : p.Free[a.toNat]? = some fa) (hpos : 0 < fu) :
    PB P bars k m ⟨(p.Free.set u.toNat (fu - 1)).set a.toNat (fa + 1), T, p.Placed⟩ := by
  refine ⟨hp.k1, hp.k3, by simpa using hp.fl, hT.tl.trans hp.tl, hp.pl, hp.pr, hp.inc, hT.ends, ?_⟩
  intro v f hv
  change 0 ≤ f ∧ f + (T.count (v : Int) : Int) = k
  have hc := hT.cnt (v : Int)
  rcases set_get hv with ⟨h1, rfl⟩ | ⟨h1, h2⟩
  · have hva : (v : Int) = a := by omega
    have hf := hp.fr hfa
    rw [Int.toNat_of_nonneg a0] at hf
    rw [hva, if_neg (Ne.symm hua), if_pos rfl] at hc
    rw [hva]
    omega
  · rcases set_get h2 with ⟨h3, rfl⟩ | ⟨h3, h4⟩
    · have hvu : (v : Int) = u := by omega
      have hf := hp.fr hfu
      rw [Int.toNat_of_nonneg u0] at hf
      rw [hvu, if_pos rfl, if_neg hua] at hc
      rw [hvu]
      omega
    · have hf := hp.fr h4
      rw [if_neg (show ¬ (v : Int) = u by omega), if_neg (show ¬ (v : Int) = a by omega)] at hc
      omega
end
end Go.Proofs.Ytghofbijdnenoaa
end
section
set_option linter.unusedVariables false
set_option linter.unusedSimpArgs false
set_option linter.unnecessarySimpa false
open Go Go.Fw
namespace Go.Proofs.Ytghofbijdnenoaa
section
variable {P : Int} {bars : List TBar} {k : Int} {m : Nat} {p : TPebbles}
theorem l4Copy_eq (hg : GB P bars) (hp : PB P bars k m p) (hm : m ≤ 1000) : m_spec_l4Copy p = some p := by
  have h1 := hp.fl
  have h2 := hp.tl
  have h3 := hp.pl
  have h8 := hg.p8
  unfold m_spec_l4Copy
  rw [lim_ok (by simp; omega), lim_ok (by simp; omega), lim_ok (by simp; omega)]
  rfl
theorem copyPebbles_eq (hg : GB P bars) (hp : PB P bars k m p) (hm : m ≤ 1000) : m_impl_copyPebbles p = some p := by
  have h1 := hp.fl
  have h2 := hp.tl
  have h3 := hp.pl
  have h8 := hg.p8
  unfold m_impl_copyPebbles
  rw [copyInts_eq _ (by omega), copyInts_eq _ (by omega), copyInts_eq _ (by omega)]
  rfl
theorem PB.free_in (hp : PB P bars k m p) {v : Int} (v0 : 0 ≤ v) (v1 : v < P) : ∃ f, p.Free[v.toNat]? = some f ∧ idx p.Free v = some f ∧ 0 ≤ f ∧ f ≤ k := by
  have h1 := hp.fl
  have h2 : p.Free[v.toNat]? = some (p.Free[v.toNat]'(by omega)) := List.getElem?_eq_getElem (by omega)
  have h3 := hp.fr h2
  refine ⟨_, h2, ?_, h3.1, by omega⟩
  unfold idx
  rw [if_pos v0, h2]
structure Moved (P : Int) (bars : List TBar) (k : Int) (m : Nat) (p : TPebbles) (a b : Int) (p' : TPebbles) : Prop where
  pb : PB P bars k m p'
  placed : p'.Placed = p.Placed
  fa : ∀ {f : Int}, p.Free[a.toNat]? = some f → p'.Free[a.toNat]? = some (f + 1)
  fb : p'.Free[b.toNat]? = p.Free[b.toNat]?
theorem fromInit {g : TGraph} (h0 : 0 ≤ g.Points) (h8 : g.Points ≤ 8) : loopM (m_spec_l4Find_L1 g) BIG (0, List.replicate g.Points.toNat 0) = some (List.replicate g.Points.toNat (-1)) := by
  refine loopM_run (fun n => ((n : Int), List.replicate n (-1) ++ List.replicate (g.Points.toNat - n) 0)) g.Points.toNat (by omega) (by simp) (fun n hn => ?_) ?_
  · have hs := set_repl (List.replicate n (-1 : Int)) 0 (-1) n g.Points.toNat (by simp) hn
    have hi : idx (List.replicate n (-1 : Int) ++ List.replicate (g.Points.toNat - n) 0) (n : Int) = some 0 := idx_of (by rw [List.getElem?_append_right (by simp), List.length_replicate, Nat.sub_self, List.getElem?_replicate, if_pos (by omega)])
    unfold m_spec_l4Find_L1
    simp only [hi, Option.bind_some, Int.toNat_natCast, hs, w64_succ (show n ≤ 1099511627776 by omega)]
    rw [decide_eq_true (by omega), cond_true, ← List.replicate_succ']
  · unfold m_spec_l4Find_L1
    simp only [Nat.sub_self, List.replicate_zero, List.append_nil]
    rw [decide_eq_false (by omega)]
    rfl
theorem shift_both (hg : GB P bars) (hp : PB P bars k m p) (hm : m ≤ 1000) {g : TGraph} (hgp : g.Points = P) (hgb : g.Bars = bars) {a b : Int} (a0 : 0 ≤ a) (a1 : a < P) {q : List Int} {M : List (Int × Int)} {F : List Int} {S : List Bool} {u : Int} {j : Nat} (s1 : Int × List (Int × Int) × List Int) (hM : mput s1.2.1 u s1.1 = M) (h : BF P bars p a q M F S) (hu : q[j]? = some u) (hua : u ≠ a) (hub : u ≠ b) (hab : a ≠ b) (b0 : 0 ≤ b)
    {fu : Int} (hfu : p.Free[u.toNat]? = some fu) (hpos : 0 < fu) :
    ∃ p' fa, idx p.Free a = some fa ∧ m_spec_l4Shift g p F a u = some p' ∧ loopM (m_impl_moveTo_L11 p a s1 u fu fa) BIG (u, p.Tails) = some (p'.Free, p'.Tails) ∧ p'.Placed = p.Placed ∧ Moved P bars k m p a b p' := by
  obtain ⟨u0, u1⟩ := h.rng hu
  obtain ⟨fa, hfa, hia, fa0, fak⟩ := hp.free_in a0 a1
  have k3 := hp.k3
  have hfk : fu ≤ k := by have := hp.fr hfu; omega
  have hiu : idx p.Free u = some fu := by unfold idx; rw [if_pos u0, hfu]
  obtain ⟨T, e1, e2, hT⟩ := turn_both hg hp hgp hgb h hu p fu fa s1 hM
  rw [w64_small (n := fu - 1) (by omega) (by omega), w64_small (n := fa + 1) (by omega) (by omega)] at e1 e2
  have hne : u.toNat ≠ a.toNat := by omega
  have hia2 : ∀ x : Int, idx (p.Free.set u.toNat x) a = some fa := fun x => by
    unfold idx
    rw [if_pos a0, List.getElem?_set, if_neg hne, hfa]
  refine ⟨⟨(p.Free.set u.toNat (fu - 1)).set a.toNat (fa + 1), T, p.Placed⟩, fa, hia, ?_, e2, rfl, ⟨hp.moved hg hT u0 a0 hua hfu hfa hpos, rfl, fun {f} hf => ?_, ?_⟩⟩
  · unfold m_spec_l4Shift
    rw [l4Copy_eq hg hp hm]
    simp only [hiu, Option.bind_some, hia2, e1, w64_small (n := fu - 1) (show -4611686018427387904 ≤ fu - 1 by omega) (by omega)]
  · rw [hfa] at hf
    injection hf with hf
    subst hf
    have hl := (List.getElem?_eq_some_iff.1 hfa).1
    rw [List.getElem?_set, if_pos rfl, if_pos (by simpa using hl)]
  · show ((p.Free.set u.toNat (fu - 1)).set a.toNat (fa + 1))[b.toNat]? = _
    rw [List.getElem?_set, if_neg (by omega), List.getElem?_set, if_neg (by omega)]
def ZO (p : TPebbles) (a b : Int) (q : List Int) : Prop := ∀ v ∈ q, v ≠ a → v ≠ b → p.Free[v.toNat]? = some 0
def CL (bars : List TBar) (p : TPebbles) (v : Int) (m : Nat) (q : List Int) : Prop := ∀ (i : Nat) (t : Int), i < m → p.Tails[i]? = some t → t = v → otherE (pbar bars p i) t ∈ q
theorem CL.more {v u : Int} {m : Nat} {q : List Int} (h : CL bars p v m q) : CL bars p v m (q ++ [u]) := fun i t h1 h2 h3 => List.mem_append_left _ (h i t h1 h2 h3)
theorem CL.step {v t : Int} {j : Nat} {q : List Int} (h : CL bars p v j q) (hT : p.Tails[j]? = some t) (hx : t = v → otherE (pbar bars p j) t ∈ q) : CL bars p v (j + 1) q := fun i s h1 h2 h3 => by
  by_cases hij : i = j
  · subst hij
    rw [hT] at h2
    injection h2 with h2
    subst h2
    exact hx h3
  · exact h i s (by omega) h2 h3
structure Reach (P : Int) (bars : List TBar) (p : TPebbles) (a b : Int) (q : List Int) : Prop where
  fst : a ∈ q
  rng : ∀ v ∈ q, 0 ≤ v ∧ v < P
  zero : ZO p a b q
  clo : ∀ (i : Nat) (t : Int), p.Tails[i]? = some t → t ∈ q → otherE (pbar bars p i) t ∈ q
theorem find_both (hg : GB P bars) (hp : PB P bars k m p) (hm : m ≤ 1000) {g : TGraph} (hgp : g.Points = P) (hgb : g.Bars = bars) {a b : Int} (a0 : 0 ≤ a) (a1 : a < P) (b0 : 0 ≤ b) (b1 : b < P) (hab : a ≠ b) :
    (m_spec_l4Find g p a b = some (p, false) ∧ m_impl_moveTo bars p a b = some (false, p) ∧ ∃ q, Reach P bars p a b q) ∨ ∃ p', m_spec_l4Find g p a b = some (p', true) ∧ m_impl_moveTo bars p a b = some (true, p') ∧ Moved P bars k m p a b p' := by
  have h8 := hg.p8
  have hp1 := hg.p1
  have hpl := hp.pl
  have hptl := hp.tl
  have hstart := BF.start (bars := bars) (p := p) hg a0 a1 (F := List.replicate P.toNat (-1)) (by simp; omega) (fun {v f} hv => by
    rw [List.getElem?_replicate] at hv
    split at hv
    · injection hv with hv; exact hv.symm
    · cases hv)
  -- what a round over the bars gives
  have roundB : ∀ (n : Nat) (v : Int) (q : List Int) (M : List (Int × Int)) (F : List Int) (S : List Bool), BF P bars p a q M F S → q[n]? = some v → ZO p a b q → (∀ r w, r < n → q[r]? = some w → CL bars p w p.Placed.length q) →
      ∃ r r', loopM (m_spec_l4Find_L5 g p a b ((n : Int), F, q, S) v) BIG (0, F, q, S) = some r ∧ loopM (m_impl_moveTo_L10 bars p a b ((n : Int), M, q)) BIG (0, M, q) = some r' ∧
        ((∃ q' M' F' S', r = .inl ((n : Int), F', q', S') ∧ r' = .inl ((n : Int), M', q') ∧ BF P bars p a q' M' F' S' ∧ n < q'.length ∧ ZO p a b q' ∧ (∀ r w, r < n + 1 → q'[r]? = some w → CL bars p w p.Placed.length q')) ∨ ∃ p', r = .inr (p', true) ∧ r' = .inr (true, p') ∧ Moved P bars k m p a b p') := by
    intro n v q M F S hB hv hz hc
    refine loop_inv2 (fun j s s' => ∃ q' M' F' S', s = ((j : Int), F', q', S') ∧ s' = ((j : Int), M', q') ∧ BF P bars p a q' M' F' S' ∧ q'[n]? = some v ∧ ZO p a b q' ∧ CL bars p v j q' ∧ (∀ r w, r < n → q'[r]? = some w → CL bars p w p.Placed.length q')) _ p.Placed.length (by omega) ⟨q, M, F, S, rfl, rfl, hB, hv, hz, (fun i _ h => by omega), hc⟩ (fun j s s' hj hs => ?_) (fun s s' hs => ?_)
    · obtain ⟨q, M, F, S, rfl, rfl, hB, hv, hz, hcv, hc⟩ := hs
      obtain ⟨e, hpe, hbe, hbe2⟩ := hp.bar hg hj
      have hok := hp.pbar_ok hg hj
      have hpi : idx p.Placed (j : Int) = some e := idx_of hpe
      have hT : p.Tails[j]? = some (p.Tails[j]'(by omega)) := List.getElem?_eq_getElem (by omega)
      generalize p.Tails[j]'(by omega) = t at hT
      have hTi : idx p.Tails (j : Int) = some t := idx_of hT
      have hqi : idx q (n : Int) = some v := idx_of hv
      by_cases htv : t = v
      · subst htv
        have hends := hp.ends hT
        obtain ⟨u0, u1, une, _, _⟩ := other_ok hok hends
        have hoS := other_S (P := P) (pbar bars p j) t h8 hok hends
        have hoI := other_I (pbar bars p j) t
        generalize hu : otherE (pbar bars p j) t = u at u0 u1 une hoS hoI
        have hsl := hB.sl
        have hfl := hB.fl
        have hSu : S[u.toNat]? = some (S[u.toNat]'(by omega)) := List.getElem?_eq_getElem (by omega)
        generalize S[u.toNat]'(by omega) = su at hSu
        have hSi : idx S u = some su := by unfold idx; rw [if_pos u0, hSu]
        have hseen := hB.seen hSu
        rw [Int.toNat_of_nonneg u0] at hseen
        have hhas := hB.has u
        cases su with
        | true =>
          have hm1 : mhas M u = true := hhas.2 (hseen.1 rfl)
          refine .inl ⟨(((j + 1 : Nat) : Int), F, q, S), (((j + 1 : Nat) : Int), M, q), ?_, ?_, q, M, F, S, rfl, rfl, hB, hv, hz, hcv.step hT (fun _ => by rw [hu]; exact hseen.1 rfl), hc⟩
          · unfold m_spec_l4Find_L5
            simp only [hTi, hpi, hgb, hbe, hoS, hSi, Option.bind_some, w64_succ (show j ≤ 1099511627776 by omega), bne_self_eq_false, cond_false, cond_true]
            rw [decide_eq_true (by omega), cond_true]
          · unfold m_impl_moveTo_L10
            simp only [hTi, hpi, hqi, hbe, hoI, hm1, Option.bind_some, w64_succ (show j ≤ 1099511627776 by omega), bne_self_eq_false, cond_false, cond_true]
            rw [decide_eq_true (by omega), cond_true]
        | false =>
          have hnq : u ∉ q := fun h => by have := hseen.2 h; cases this
          have hm1 : mhas M u = false := by
            cases hb : mhas M u with
            | false => rfl
            | true => exact absurd (hhas.1 hb) hnq
          have hB2 := hB.more hg hp hj hv hT hu hnq
          obtain ⟨fu, hfu, hiu, fu0, fuk⟩ := hp.free_in u0 u1
          have hua : u ≠ a := fun e => hnq (e ▸ List.mem_of_getElem? hB.first)
          have hFu : idx F u = some ((F[u.toNat]?).getD 0) := idx_in 0 u0 (by omega)
          have hlast : (q ++ [u])[q.length]? = some u := by rw [List.getElem?_append_right (Nat.le_refl _), Nat.sub_self]; rfl
          have hqn : (q ++ [u])[n]? = some t := by rw [List.getElem?_append_left (List.getElem?_eq_some_iff.1 hv).1]; exact hv
          have hql := hB2.len
          by_cases hfound : u ≠ b ∧ 0 < fu
          · obtain ⟨hub, hpos⟩ := hfound
            obtain ⟨p', fa, hia, es, ei, epl, hmv⟩ := shift_both hg hp hm hgp hgb a0 a1 ((j : Int), M, q) rfl hB2 hlast hua hub hab b0 hfu hpos
            have hne : u.toNat ≠ a.toNat := by omega
            have hia2 : ∀ x : Int, idx (p.Free.set u.toNat x) a = some fa := fun x => by
              unfold idx at hia ⊢
              rw [if_pos a0] at hia ⊢
              rw [List.getElem?_set, if_neg hne, hia]
            have k3 := hp.k3
            refine .inr ⟨.inr (p', true), .inr (true, p'), ?_, ?_, .inr ⟨p', rfl, rfl, hmv⟩⟩
            · unfold m_spec_l4Find_L5
              simp only [hTi, hpi, hgb, hbe, hoS, hSi, hFu, hiu, es, Option.bind_some, bne_self_eq_false, cond_false, show (u != b) = true by simp [hub], decide_eq_true hpos, cond_true]
              rw [decide_eq_true (by omega), cond_true]
            · unfold m_impl_moveTo_L10
              simp only [hTi, hpi, hqi, hbe, hoI, hm1, hiu, hia2, ei, Option.bind_some, bne_self_eq_false, cond_false, show (u == b) = false by simp [hub], show (fu == 0) = false by simp; omega]
              rw [decide_eq_true (by omega), cond_true, ← epl]
          · refine .inl ⟨(((j + 1 : Nat) : Int), F.set u.toNat j, q ++ [u], S.set u.toNat true), (((j + 1 : Nat) : Int), mput M u j, q ++ [u]), ?_, ?_, _, _, _, _, rfl, rfl, hB2, hqn, ?_, hcv.more.step hT (fun _ => by rw [hu]; exact List.mem_append_right _ (List.mem_singleton.2 rfl)), ?_⟩
            rotate_left 2
            · intro w hw hwa hwb
              rcases List.mem_append.1 hw with h1 | h1
              · exact hz w h1 hwa hwb
              · rw [List.mem_singleton] at h1
                subst h1
                rw [hfu]
                have : ¬ 0 < fu := fun h => hfound ⟨hwb, h⟩
                congr 1
                omega
            · intro r w hr hw
              rw [List.getElem?_append_left (by have := (List.getElem?_eq_some_iff.1 hv).1; omega)] at hw
              exact (hc r w hr hw).more
            · unfold m_spec_l4Find_L5
              simp only [hTi, hpi, hgb, hbe, hoS, hSi, hFu, hiu, Option.bind_some, bne_self_eq_false, cond_false, w64_succ (show j ≤ 1099511627776 by omega), lim_ok (show q.length + ([u] : List Int).length ≤ 2147483648 by simp at hql ⊢; omega)]
              rw [decide_eq_true (by omega), cond_true]
              by_cases hub : u = b
              · rw [show (u != b) = false by simp [hub]]
                rfl
              · have : ¬ 0 < fu := fun h => hfound ⟨hub, h⟩
                rw [show (u != b) = true by simp [hub], decide_eq_false this]
                rfl
            · unfold m_impl_moveTo_L10
              simp only [hTi, hpi, hqi, hbe, hoI, hm1, hiu, Option.bind_some, bne_self_eq_false, cond_false, w64_succ (show j ≤ 1099511627776 by omega), lim_ok (show q.length + ([u] : List Int).length ≤ 2147483648 by simp at hql ⊢; omega)]
              rw [decide_eq_true (by omega), cond_true]
              by_cases hub : u = b
              · rw [show (u == b) = true by simp [hub]]
                rfl
              · have : ¬ 0 < fu := fun h => hfound ⟨hub, h⟩
                rw [show (u == b) = false by simp [hub], show (fu == 0) = true by simp; omega]
                rfl
      · have hne : (t != v) = true := by simp; exact htv
        refine .inl ⟨(((j + 1 : Nat) : Int), F, q, S), (((j + 1 : Nat) : Int), M, q), ?_, ?_, q, M, F, S, rfl, rfl, hB, hv, hz, hcv.step hT (fun h => absurd h htv), hc⟩
        · unfold m_spec_l4Find_L5
          simp only [hTi, Option.bind_some, hne, cond_true, w64_succ (show j ≤ 1099511627776 by omega)]
          rw [decide_eq_true (by omega), cond_true]
        · unfold m_impl_moveTo_L10
          simp only [hTi, hpi, hqi, Option.bind_some, hne, cond_true, w64_succ (show j ≤ 1099511627776 by omega)]
          rw [decide_eq_true (by omega), cond_true]
    · obtain ⟨q, M, F, S, rfl, rfl, hB, hv, hz, hcv, hc⟩ := hs
      refine ⟨.inl ((n : Int), F, q, S), .inl ((n : Int), M, q), by simp [m_spec_l4Find_L5], by simp [m_impl_moveTo_L10], .inl ⟨q, M, F, S, rfl, rfl, hB, (List.getElem?_eq_some_iff.1 hv).1, hz, fun r w hr hw => ?_⟩⟩
      by_cases hrn : r = n
      · subst hrn
        rw [hv] at hw
        injection hw with hw
        subst hw
        exact hcv
      · exact hc r w (by omega) hw
  -- the rounds over the points met
  have outer : ∃ r r', loopM (m_spec_l4Find_L4 g p a b) BIG (0, List.replicate P.toNat (-1), [a], (List.replicate P.toNat false).set a.toNat true) = some r ∧ loopM (m_impl_moveTo_L7 bars p a b) BIG (0, mput [] a (-1), [a]) = some r' ∧
      ((r = .inl () ∧ r' = .inl () ∧ ∃ q, Reach P bars p a b q) ∨ ∃ p', r = .inr (p', true) ∧ r' = .inr (true, p') ∧ Moved P bars k m p a b p') := by
    refine loop_inv2 (fun n s s' => ∃ q M F S, s = ((n : Int), F, q, S) ∧ s' = ((n : Int), M, q) ∧ BF P bars p a q M F S ∧ n ≤ q.length ∧ ZO p a b q ∧ (∀ r w, r < n → q[r]? = some w → CL bars p w p.Placed.length q)) _ (P.toNat + 1) (by omega) ⟨[a], _, _, _, rfl, rfl, hstart, Nat.zero_le _, (fun v hv ha _ => absurd (List.mem_singleton.1 hv) ha), (fun r w h => by omega)⟩ (fun n s s' hn hs => ?_) (fun s s' hs => ?_)
    · obtain ⟨q, M, F, S, rfl, rfl, hB, hnl, hz, hc⟩ := hs
      have hql := hB.len
      by_cases hlt : n < q.length
      · have hv := List.getElem?_eq_getElem hlt
        obtain ⟨r, r', e1, e2, hr⟩ := roundB n q[n] q M F S hB hv hz hc
        rcases hr with ⟨q', M', F', S', rfl, rfl, hB', hn', hz', hc'⟩ | ⟨p', rfl, rfl, hmv⟩
        · refine .inl ⟨(((n + 1 : Nat) : Int), F', q', S'), (((n + 1 : Nat) : Int), M', q'), ?_, ?_, q', M', F', S', rfl, rfl, hB', hn', hz', hc'⟩
          · unfold m_spec_l4Find_L4
            simp only [idx_of hv, e1, Option.bind_some, Sum.elim_inl, w64_succ (show n ≤ 1099511627776 by omega)]
            rw [decide_eq_true (by omega), cond_true]
          · unfold m_impl_moveTo_L7
            simp only [e2, Option.bind_some, Sum.elim_inl, w64_succ (show n ≤ 1099511627776 by omega)]
            rw [decide_eq_true (by omega), cond_true]
        · refine .inr ⟨.inr (p', true), .inr (true, p'), ?_, ?_, .inr ⟨p', rfl, rfl, hmv⟩⟩
          · unfold m_spec_l4Find_L4
            simp only [idx_of hv, e1, Option.bind_some, Sum.elim_inr]
            rw [decide_eq_true (by omega), cond_true]
          · unfold m_impl_moveTo_L7
            simp only [e2, Option.bind_some, Sum.elim_inr]
            rw [decide_eq_true (by omega), cond_true]
      · refine .inr ⟨.inl (), .inl (), ?_, ?_, .inl ⟨rfl, rfl, q, List.mem_of_getElem? hB.first, fun v hv => ?_, hz, fun i t ht htq => ?_⟩⟩
        rotate_left 2
        · obtain ⟨r, hr⟩ := List.getElem?_of_mem hv
          exact hB.rng hr
        · obtain ⟨r, hr⟩ := List.getElem?_of_mem htq
          have hrl := (List.getElem?_eq_some_iff.1 hr).1
          have hil := (List.getElem?_eq_some_iff.1 ht).1
          exact hc r t (by omega) hr i t (by omega) ht rfl
        · unfold m_spec_l4Find_L4
          simp only
          rw [decide_eq_false (by omega), cond_false]
        · unfold m_impl_moveTo_L7
          simp only
          rw [decide_eq_false (by omega), cond_false]
    · obtain ⟨q, M, F, S, rfl, rfl, hB, hnl, _, _⟩ := hs
      have hql := hB.len
      omega
  obtain ⟨r, r', e1, e2, hr⟩ := outer
  have hS : m_spec_l4Find g p a b = Sum.elim (fun _ => some (p, false)) (fun r => some r) r := by
    have hra : idx (List.replicate P.toNat false) a = some false := by
      unfold idx
      rw [if_pos a0, List.getElem?_replicate, if_pos (by omega)]
    have hfi := fromInit (g := g) (by omega) (by omega)
    rw [hgp] at hfi
    unfold m_spec_l4Find
    rw [hgp, lenOk_ok (by omega) (by omega), hfi, hra]
    simp only [Option.bind_some, e1]
  have hI : m_impl_moveTo bars p a b = Sum.elim (fun _ => some (false, p)) (fun r => some r) r' := by
    unfold m_impl_moveTo
    rw [e2]
    rfl
  rcases hr with ⟨rfl, rfl, hq⟩ | ⟨p', rfl, rfl, hmv⟩
  · exact .inl ⟨hS, hI, hq⟩
  · exact .inr ⟨p', hS, hI, hmv⟩
def two (p : TPebbles) (a b : Int) : Int := (p.Free[a.toNat]?).getD 0 + (p.Free[b.toNat]?).getD 0
theorem gather_both (hg : GB P bars) (hp : PB P bars k m p) (hm : m ≤ 1000) {g : TGraph} (hgp : g.Points = P) (hgb : g.Bars = bars) {a b : Int} (a0 : 0 ≤ a) (a1 : a < P) (b0 : 0 ≤ b) (b1 : b < P) (hab : a ≠ b) {want : Int} (hw : want ≤ 1000) :
    (∃ p', m_spec_l4Gather g p a b want = some (p', true) ∧ m_impl_gather bars p a b want = some (true, p') ∧ PB P bars k m p' ∧ p'.Placed = p.Placed ∧ want ≤ two p' a b) ∨ ∃ p', m_spec_l4Gather g p a b want = some (p', false) ∧ m_impl_gather bars p a b want = some (false, p') ∧ PB P bars k m p' ∧ p'.Placed = p.Placed ∧ two p' a b < want ∧ (∃ q, Reach P bars p' a b q) ∧ ∃ q, Reach P bars p' b a q := by
  have hwv : ∀ x : Int, 0 ≤ x → x ≤ k → w64 x = x := fun x h1 h2 => by have := hp.k3; exact w64_small (by omega) (by omega)
  have main : ∃ r r', loopM (m_spec_l4Gather_L1 g a b want) BIG (p.Free, p.Tails, p.Placed) = some r ∧ loopM (m_impl_gather_L1 bars a b want) BIG (p.Free, p.Tails, p.Placed) = some r' ∧
      ((∃ p', r = .inl (p'.Free, p'.Tails, p'.Placed) ∧ r' = .inl (p'.Free, p'.Tails, p'.Placed) ∧ PB P bars k m p' ∧ p'.Placed = p.Placed ∧ want ≤ two p' a b) ∨ ∃ p', r = .inr (p', false) ∧ r' = .inr (false, p') ∧ PB P bars k m p' ∧ p'.Placed = p.Placed ∧ two p' a b < want ∧ (∃ q, Reach P bars p' a b q) ∧ ∃ q, Reach P bars p' b a q) := by
    refine loop_inv2 (fun n s s' => ∃ p', s = (p'.Free, p'.Tails, p'.Placed) ∧ s' = (p'.Free, p'.Tails, p'.Placed) ∧ PB P bars k m p' ∧ p'.Placed = p.Placed ∧ (n : Int) ≤ two p' a b) _ 1001 (by omega) ⟨p, rfl, rfl, hp, rfl, ?_⟩ (fun n s s' hn hs => ?_) (fun s s' hs => ?_)
    · obtain ⟨fa, hfa, _, fa0, _⟩ := hp.free_in a0 a1
      obtain ⟨fb, hfb, _, fb0, _⟩ := hp.free_in b0 b1
      unfold two
      rw [hfa, hfb]
      simp only [Option.getD_some]
      omega
    · obtain ⟨p', rfl, rfl, hp', hpl, hn2⟩ := hs
      obtain ⟨fa, hfa, hia, fa0, fak⟩ := hp'.free_in a0 a1
      obtain ⟨fb, hfb, hib, fb0, fbk⟩ := hp'.free_in b0 b1
      have k3 := hp'.k3
      have htwo : two p' a b = fa + fb := by
        unfold two
        rw [hfa, hfb]
        rfl
      have hsum : w64 (fa + fb) = fa + fb := w64_small (by omega) (by omega)
      by_cases hlt : fa + fb < want
      · rcases find_both hg hp' hm hgp hgb a0 a1 b0 b1 hab with ⟨s1, i1, hq1⟩ | ⟨p2, s1, i1, hmv⟩
        · rcases find_both hg hp' hm hgp hgb b0 b1 a0 a1 (Ne.symm hab) with ⟨s2, i2, hq2⟩ | ⟨p2, s2, i2, hmv⟩
          · refine .inr ⟨.inr (p', false), .inr (false, p'), ?_, ?_, .inr ⟨p', rfl, rfl, hp', hpl, by omega, hq1, hq2⟩⟩
            · unfold m_spec_l4Gather_L1
              simp only [hia, hib, Option.bind_some, hsum, decide_eq_true hlt, cond_true, s1, s2, cond_false, Bool.not_false]
            · unfold m_impl_gather_L1
              simp only [hia, hib, Option.bind_some, hsum, decide_eq_true hlt, cond_true, i1, i2, Bool.not_false]
          · refine .inl ⟨(p2.Free, p2.Tails, p2.Placed), (p2.Free, p2.Tails, p2.Placed), ?_, ?_, p2, rfl, rfl, hmv.pb, hmv.placed.trans hpl, ?_⟩
            · unfold m_spec_l4Gather_L1
              simp only [hia, hib, Option.bind_some, hsum, decide_eq_true hlt, cond_true, s1, s2, cond_false, Bool.not_false, Bool.not_true]
            · unfold m_impl_gather_L1
              simp only [hia, hib, Option.bind_some, hsum, decide_eq_true hlt, cond_true, i1, i2, Bool.not_false, Bool.not_true, cond_false]
            · have h1 := hmv.fa hfb
              have h2 := hmv.fb
              rw [hfa] at h2
              unfold two
              rw [h1, h2]
              simp only [Option.getD_some]
              omega
        · refine .inl ⟨(p2.Free, p2.Tails, p2.Placed), (p2.Free, p2.Tails, p2.Placed), ?_, ?_, p2, rfl, rfl, hmv.pb, hmv.placed.trans hpl, ?_⟩
          · unfold m_spec_l4Gather_L1
            simp only [hia, hib, Option.bind_some, hsum, decide_eq_true hlt, cond_true, s1, cond_false, Bool.not_true]
          · unfold m_impl_gather_L1
            simp only [hia, hib, Option.bind_some, hsum, decide_eq_true hlt, cond_true, i1, Bool.not_true, cond_false]
          · have h1 := hmv.fa hfa
            have h2 := hmv.fb
            rw [hfb] at h2
            unfold two
            rw [h1, h2]
            simp only [Option.getD_some]
            omega
      · refine .inr ⟨.inl (p'.Free, p'.Tails, p'.Placed), .inl (p'.Free, p'.Tails, p'.Placed), ?_, ?_, .inl ⟨p', rfl, rfl, hp', hpl, by omega⟩⟩
        · unfold m_spec_l4Gather_L1
          simp only [hia, hib, Option.bind_some, hsum, decide_eq_false hlt, cond_false]
        · unfold m_impl_gather_L1
          simp only [hia, hib, Option.bind_some, hsum, decide_eq_false hlt, cond_false]
    · obtain ⟨p', rfl, rfl, hp', hpl, hn2⟩ := hs
      obtain ⟨fa, hfa, hia, fa0, fak⟩ := hp'.free_in a0 a1
      obtain ⟨fb, hfb, hib, fb0, fbk⟩ := hp'.free_in b0 b1
      have k3 := hp'.k3
      unfold two at hn2
      rw [hfa, hfb] at hn2
      simp only [Option.getD_some] at hn2
      omega
  obtain ⟨r, r', e1, e2, hr⟩ := main
  have hS : m_spec_l4Gather g p a b want = Sum.elim (fun b27 => some (TPebbles.mk b27.1 b27.2.1 b27.2.2, true)) (fun r => some r) r := by
    unfold m_spec_l4Gather
    rw [l4Copy_eq hg hp hm]
    simp only [Option.bind_some, e1]
  have hI : m_impl_gather bars p a b want = Sum.elim (fun b24 => some (true, TPebbles.mk b24.1 b24.2.1 b24.2.2)) (fun r => some r) r' := by
    unfold m_impl_gather
    rw [e2]
    rfl
  rcases hr with ⟨p', rfl, rfl, h1, h2, h3⟩ | ⟨p', rfl, rfl, h1⟩
  · exact .inl ⟨p', hS, hI, h1, h2, h3⟩
  · exact .inr ⟨p', hS, hI, h1⟩
end
end Go.Proofs.Ytghofbijdnenoaa
end
section
set_option linter.unusedVariables false
set_option linter.unusedSimpArgs false
set_option linter.unnecessarySimpa false
open Go Go.Fw
namespace Go.Proofs.Ytghofbijdnenoaa
theorem PB.weak {P : Int} {bars : List TBar} {k : Int} {m : Nat} {p : TPebbles} (h : PB P bars k m p) : PB P bars k (m + 1) p :=
  ⟨h.k1, h.k3, h.fl, h.tl, by have := h.pl; omega, fun hx => by have := h.pr hx; omega, h.inc, h.ends, h.fr⟩
theorem snoc_get {α : Type} {l : List α} {x y : α} {i : Nat} (h : (l ++ [x])[i]? = some y) : (i < l.length ∧ l[i]? = some y) ∨ (i = l.length ∧ y = x) := by
  rw [List.getElem?_append] at h
  split at h
  · exact .inl ⟨by assumption, h⟩
  · right
    have : i - l.length = 0 := by
      rcases Nat.eq_zero_or_pos (i - l.length) with h0 | h0
      · exact h0
      · rw [List.getElem?_eq_none (by simp; omega)] at h
        cases h
    rw [this] at h
    simp at h
    exact ⟨by omega, h.symm⟩
theorem PB.place {P : Int} {bars : List TBar} {k : Int} {m : Nat} {p : TPebbles} (hg : GB P bars) (hp : PB P bars k m p) (hml : m < bars.length) {x : TBar} (hx : bars[m]? = some x) {t f : Int} (ht : t = x.A ∨ t = x.B) (hf : p.Free[t.toNat]? = some f) (hpos : 0 < f) :
    PB P bars k (m + 1) ⟨p.Free.set t.toNat (f - 1), p.Tails ++ [t], p.Placed ++ [(m : Int)]⟩ := by
  have hpl := hp.pl
  have htl := hp.tl
  have t0 : 0 ≤ t := by
    rcases ht with rfl | rfl
    · exact hg.a0 hx
    · exact hg.b0 hx
  have hlast : ∀ {i : Nat} {v : Int}, (p.Placed ++ [(m : Int)])[i]? = some v → (i < p.Placed.length ∧ p.Placed[i]? = some v) ∨ (i = p.Placed.length ∧ v = (m : Int)) := fun h => snoc_get h
  refine ⟨hp.k1, hp.k3, by simpa using hp.fl, by simp [htl], by simp; omega, fun {i e} he => ?_, fun {i e e'} he he' => ?_, fun {i v} hv => ?_, fun {v w} hv => ?_⟩
  · rcases hlast he with ⟨_, h⟩ | ⟨_, rfl⟩
    · have := hp.pr h
      omega
    · omega
  · rcases hlast he' with ⟨h1, h2⟩ | ⟨h1, rfl⟩
    · rcases hlast he with ⟨_, h3⟩ | ⟨h3, _⟩
      · exact hp.inc h3 h2
      · omega
    · rcases hlast he with ⟨_, h3⟩ | ⟨h3, _⟩
      · have := hp.pr h3
        omega
      · omega
  · change (p.Tails ++ [t])[i]? = some v at hv
    rcases snoc_get hv with ⟨h1, h2⟩ | ⟨h1, rfl⟩
    · have := hp.ends h2
      have e : pbar bars ⟨p.Free.set t.toNat (f - 1), p.Tails ++ [t], p.Placed ++ [(m : Int)]⟩ i = pbar bars p i := by
        unfold pbar
        simp only
        rw [List.getElem?_append_left (by omega)]
      rw [e]
      exact this
    · have e : pbar bars ⟨p.Free.set v.toNat (f - 1), p.Tails ++ [v], p.Placed ++ [(m : Int)]⟩ i = x := by
        unfold pbar
        simp only
        rw [List.getElem?_append_right (by omega), h1, htl, Nat.sub_self]
        simp [hx]
      rw [e]
      exact ht
  · change 0 ≤ w ∧ w + ((p.Tails ++ [t]).count (v : Int) : Int) = k
    rw [List.count_append]
    rcases set_get hv with ⟨h1, rfl⟩ | ⟨h1, h2⟩
    · have hvt : (v : Int) = t := by omega
      have := hp.fr hf
      rw [Int.toNat_of_nonneg t0] at this
      rw [hvt]
      simp
      omega
    · have := hp.fr h2
      have h3 : ([t] : List Int).count (v : Int) = 0 := by
        rw [List.count_eq_zero]
        simp
        omega
      rw [h3]
      omega
theorem isRangeI_eq (k l : Int) : m_impl_IsRange k l = some ((decide (1 ≤ k) && decide (k ≤ 3)) && (decide (0 ≤ l) && decide (l ≤ 2 * k - 1))) := by
  unfold m_impl_IsRange
  rw [within_eq, within_eq]
  cases h : decide (1 ≤ k) && decide (k ≤ 3)
  · rfl
  · simp only [Bool.and_eq_true, decide_eq_true_eq] at h
    rw [w64_small (n := 2 * k) (by omega) (by omega), w64_small (by omega) (by omega)]
    rfl
theorem isRangeS_eq (k l : Int) : m_spec_IsRange k l = some ((decide (1 ≤ k) && decide (k ≤ 3)) && (decide (0 ≤ l) && decide (l ≤ 2 * k - 1))) := by
  unfold m_spec_IsRange
  rw [l1In_eq]
  cases h : decide (1 ≤ k) && decide (k ≤ 3)
  · rfl
  · simp only [Bool.and_eq_true, decide_eq_true_eq] at h
    rw [w64_small (n := 2 * k) (by omega) (by omega)]
    have : decide (l < 2 * k) = decide (l ≤ 2 * k - 1) := by rw [decide_eq_decide]; omega
    rw [this]
    cases decide (0 ≤ l) <;> rfl
def placeI (bars : List TBar) (l : Int) (p : TPebbles) (m : Nat) : TPebbles := match m_impl_place bars l p (m : Int) with
  | some (true, q) => q
  | _ => p
theorem place_both {P : Int} {bars : List TBar} {k l : Int} {m : Nat} {p : TPebbles} (hg : GB P bars) (hp : PB P bars k m p) (hml : m < bars.length) (hl : 0 ≤ l ∧ l ≤ 2 * k - 1) {g : TGraph} (hgp : g.Points = P) (hgb : g.Bars = bars) :
    PB P bars k (m + 1) (placeI bars l p m) ∧ (∃ ok q, m_impl_place bars l p (m : Int) = some (ok, q) ∧ placeI bars l p m = bif ok then q else p) ∧
      (m_spec_IsPebbles g k p = some true → m_spec_PlaceBar g k l p (m : Int) = some (placeI bars l p m, true) ∨ m_spec_PlaceBar g k l p (m : Int) = some (placeI bars l p m, false)) := by
  have hlen := hg.len
  have k3 := hp.k3
  have k1 := hp.k1
  have hx := List.getElem?_eq_getElem hml
  have hxi := idx_of (k := m) hx
  generalize bars[m] = x at hx hxi
  have hw : w64 (l + 1) = l + 1 := w64_small (by omega) (by omega)
  have hpre : m_spec_IsPebbles g k p = some true → ∀ M : Option (TPebbles × Bool), (((m_spec_IsPebbles g k p).bind fun r10 => bif (!r10) then some true else (m_spec_IsRange k l).bind fun r12 => bif (!r12) then some true else bif decide ((m : Int) < 0) then some true else bif decide ((g.Bars.length : Int) ≤ (m : Int)) then some true
      else bif decide (0 < (p.Placed.length : Int)) then (idx p.Placed (w64 ((p.Placed.length : Int) - 1))).bind fun x17 => some (decide ((m : Int) ≤ x17)) else some false : Option Bool).bind fun j9 => bif j9 then (m_spec_l4Copy p).bind fun r19 => some (r19, false) else M) = M := by
    intro h M
    have hpl := hp.pl
    rw [h, isRangeS_eq, decide_eq_true k1, decide_eq_true k3, decide_eq_true hl.1, decide_eq_true hl.2, decide_eq_false (show ¬ (m : Int) < 0 by omega), hgb, decide_eq_false (show ¬ (bars.length : Int) ≤ (m : Int) by omega)]
    simp only [Option.bind_some, Bool.and_self, Bool.not_true, cond_false]
    by_cases h0 : 0 < p.Placed.length
    · have hi : p.Placed[p.Placed.length - 1]? = some (p.Placed[p.Placed.length - 1]'(by omega)) := List.getElem?_eq_getElem (by omega)
      have hlt := hp.pr hi
      have e : w64 ((p.Placed.length : Int) - 1) = ((p.Placed.length - 1 : Nat) : Int) := by rw [w64_small (by omega) (by omega)]; omega
      rw [decide_eq_true (show 0 < (p.Placed.length : Int) by omega), e, idx_of hi]
      simp only [Option.bind_some, cond_true]
      rw [decide_eq_false (by omega)]
      rfl
    · rw [decide_eq_false (show ¬ 0 < (p.Placed.length : Int) by omega)]
      rfl
  rcases gather_both hg hp (by omega) hgp hgb (hg.a0 hx) (hg.ap hx) (hg.b0 hx) (hg.bp hx) (hg.ab hx) (want := l + 1) (by omega) with ⟨p', s1, i1, hp', hpl, htwo⟩ | ⟨p'', s1, i1, _⟩
  · obtain ⟨fa, hfa, hia, fa0, fak⟩ := hp'.free_in (hg.a0 hx) (hg.ap hx)
    obtain ⟨fb, hfb, hib, fb0, fbk⟩ := hp'.free_in (hg.b0 hx) (hg.bp hx)
    unfold two at htwo
    rw [hfa, hfb] at htwo
    simp only [Option.getD_some] at htwo
    have hpll := hp'.pl
    have htl := hp'.tl
    -- the tail and its pebbles
    obtain ⟨t, f, hte, htf, hti, hpos, hfk, htail⟩ : ∃ t f, (t = x.A ∨ t = x.B) ∧ p'.Free[t.toNat]? = some f ∧ idx p'.Free t = some f ∧ 0 < f ∧ f ≤ k ∧ (bif fa == 0 then some x.B else some x.A : Option Int) = some t := by
      by_cases h0 : fa = 0
      · exact ⟨x.B, fb, .inr rfl, hfb, hib, by omega, fbk, by simp [h0]⟩
      · have : (fa == 0) = false := by simp [h0]
        exact ⟨x.A, fa, .inl rfl, hfa, hia, by omega, fak, by simp [this]⟩
    have hI : m_impl_place bars l p (m : Int) = some (true, ⟨p'.Free.set t.toNat (f - 1), p'.Tails ++ [t], p'.Placed ++ [(m : Int)]⟩) := by
      unfold m_impl_place
      simp only [hxi, hw, i1, hia, htail, hti, Option.bind_some, Bool.not_true, cond_false, lim_ok (show p'.Tails.length + ([t] : List Int).length ≤ 2147483648 by simp; omega), lim_ok (show p'.Placed.length + ([(m : Int)] : List Int).length ≤ 2147483648 by simp; omega), w64_small (n := f - 1) (show -4611686018427387904 ≤ f - 1 by omega) (by omega)]
    have hpI : placeI bars l p m = ⟨p'.Free.set t.toNat (f - 1), p'.Tails ++ [t], p'.Placed ++ [(m : Int)]⟩ := by
      unfold placeI
      rw [hI]
    refine ⟨by rw [hpI]; exact hp'.place hg hml hx hte htf hpos, ⟨true, _, hI, hpI⟩, fun h => .inl ?_⟩
    rw [hpI]
    unfold m_spec_PlaceBar
    rw [hpre h]
    simp only [hgb, hxi, hw, s1, hia, htail, hti, Option.bind_some, Bool.not_true, cond_false, lim_ok (show p'.Tails.length + ([t] : List Int).length ≤ 2147483648 by simp; omega), lim_ok (show p'.Placed.length + ([(m : Int)] : List Int).length ≤ 2147483648 by simp; omega), w64_small (n := f - 1) (show -4611686018427387904 ≤ f - 1 by omega) (by omega)]
  · have hI : m_impl_place bars l p (m : Int) = some (false, p'') := by
      unfold m_impl_place
      simp only [hxi, hw, i1, Option.bind_some, Bool.not_false, cond_true]
    have hpI : placeI bars l p m = p := by
      unfold placeI
      rw [hI]
    refine ⟨by rw [hpI]; exact hp.weak, ⟨false, _, hI, hpI⟩, fun h => .inr ?_⟩
    rw [hpI]
    unfold m_spec_PlaceBar
    rw [hpre h]
    simp only [hgb, hxi, hw, s1, Option.bind_some, Bool.not_false, cond_true, l4Copy_eq hg hp (by omega)]
def played (P : Int) (bars : List TBar) (k l : Int) (n : Nat) : TPebbles := iter (fun m p => placeI bars l p m) n ⟨List.replicate P.toNat k, [], []⟩
theorem played_PB {P : Int} {bars : List TBar} {k l : Int} (hg : GB P bars) (k1 : 1 ≤ k) (k3 : k ≤ 3) (hl : 0 ≤ l ∧ l ≤ 2 * k - 1) : ∀ n, n ≤ bars.length → PB P bars k n (played P bars k l n)
  | 0, _ => by
    have := hg.p1
    refine ⟨k1, k3, by show ((List.replicate P.toNat k).length : Int) = P; simp; omega, rfl, Nat.le_refl _, (fun h => by cases h), (fun h => by cases h), (fun h => by cases h), fun {v f} hv => ?_⟩
    change (List.replicate P.toNat k)[v]? = some f at hv
    rw [List.getElem?_replicate] at hv
    split at hv
    · injection hv with hv
      subst hv
      show 0 ≤ k ∧ k + ((([] : List Int).count (v : Int) : Nat) : Int) = k
      simp
      omega
    · cases hv
  | n + 1, h => (place_both hg (played_PB hg k1 k3 hl n (by omega)) (by omega) hl (g := ⟨P, bars⟩) rfl rfl).1
theorem play_eq {P : Int} {bars : List TBar} {k l : Int} (hg : GB P bars) (k1 : 1 ≤ k) (k3 : k ≤ 3) (hl : 0 ≤ l ∧ l ≤ 2 * k - 1) : m_impl_play P bars k l = some (played P bars k l bars.length) := by
  have h1 := hg.p1
  have h8 := hg.p8
  have hlen := hg.len
  have e1 : loopM (m_impl_play_L1 P k) BIG (0, []) = some (List.replicate P.toNat k) := by
    refine loopM_run (fun n => ((n : Int), List.replicate n k)) P.toNat (by omega) rfl (fun n hn => ?_) ?_
    · unfold m_impl_play_L1
      simp only [w64_succ (show n ≤ 1099511627776 by omega)]
      rw [decide_eq_true (by omega), cond_true, lim_ok (by simp; omega), Option.bind_some, ← List.replicate_succ']
    · unfold m_impl_play_L1
      simp only
      rw [decide_eq_false (by omega)]
      rfl
  have e2 := fold_loop (b := m_impl_play_L2 bars l) (s := (0, List.replicate P.toNat k, [], [])) (fun n (p : TPebbles) => ((n : Int), p.Free, p.Tails, p.Placed)) (fun m p => placeI bars l p m) (fun n p => n ≤ bars.length ∧ PB P bars k n p) (fun p => (p.Free, p.Tails, p.Placed)) bars.length ⟨List.replicate P.toNat k, [], []⟩ (by omega) rfl ⟨Nat.zero_le _, played_PB hg k1 k3 hl 0 (Nat.zero_le _)⟩ (fun n p hn hp => by
    obtain ⟨hpb, ⟨ok, q, hI, hpI⟩, _⟩ := place_both hg hp.2 hn hl (g := ⟨P, bars⟩) rfl rfl
    refine ⟨?_, by omega, hpb⟩
    unfold m_impl_play_L2
    simp only [copyPebbles_eq hg hp.2 (by omega), hI, Option.bind_some, w64_succ (show n ≤ 1099511627776 by omega)]
    rw [decide_eq_true (by omega), cond_true, hpI]
    cases ok <;> rfl) (fun p hp => by simp [m_impl_play_L2])
  unfold m_impl_play
  rw [e1, Option.bind_some, e2.1]
  rfl
theorem l4Tail_eq {P : Int} {bars : List TBar} {k : Int} {m : Nat} {p : TPebbles} (hg : GB P bars) (hp : PB P bars k m p) (hm : m ≤ 1000) (v : Int) : m_spec_l4Tail p v = some (p.Tails.count v : Int) := by
  have htl := hp.tl
  have hpl := hp.pl
  have := fold_loop (b := m_spec_l4Tail_L1 p v) (s := (0, 0)) (fun n (c : Int) => (c, (n : Int))) (fun n c => match p.Tails[n]? with | some t => bif t == v then c + 1 else c | none => c) (fun n c => c = ((p.Tails.take n).count v : Int)) id p.Tails.length 0 (by omega) rfl (by simp) (fun n c hn hc => by
    have ht := List.getElem?_eq_getElem hn
    have htk : p.Tails.take (n + 1) = p.Tails.take n ++ [p.Tails[n]] := by rw [List.take_add_one, ht]; rfl
    have hcl := List.count_le_length (a := v) (l := p.Tails.take n)
    have hlt : (p.Tails.take n).length = n := by simp; omega
    rw [ht]
    constructor
    · unfold m_spec_l4Tail_L1
      simp only [idx_of ht, Option.bind_some, w64_succ (show n ≤ 1099511627776 by omega)]
      rw [decide_eq_true (by omega), cond_true, w64_small (n := c + 1) (by omega) (by omega)]
      cases p.Tails[n] == v <;> rfl
    · show (bif p.Tails[n] == v then c + 1 else c) = _
      rw [htk, List.count_append, List.count_singleton]
      cases p.Tails[n] == v
      · simp [hc]
      · simp [hc]) (fun c hc => by simp [m_spec_l4Tail_L1])
  unfold m_spec_l4Tail
  rw [this.1, Option.bind_some]
  have h2 := this.2
  rw [List.take_length] at h2
  rw [← h2]
  rfl
theorem isPebbles_eq {g : TGraph} {k : Int} {m : Nat} {p : TPebbles} (hv : vG g = true) (hp : PB g.Points g.Bars k m p) (hm : m ≤ 1000) : m_spec_IsPebbles g k p = some true := by
  have hV := vG_VG hv
  have hg := hV.gb
  have k1 := hp.k1
  have k3 := hp.k3
  have hfl := hp.fl
  have htl := hp.tl
  have hpl := hp.pl
  have h1 := hV.p1
  have h8 := hV.p8
  have e1 : loopM (m_spec_IsPebbles_L1 g p) BIG 0 = some (.inl ()) := by
    refine count_loop p.Placed.length (by omega) (fun i hi => ?_) (by simp [m_spec_IsPebbles_L1])
    obtain ⟨e, hpe, hbe, _⟩ := hp.bar hg hi
    obtain ⟨e0, e1, _⟩ := hp.pr hpe
    have hT : p.Tails[i]? = some (p.Tails[i]'(by omega)) := List.getElem?_eq_getElem (by omega)
    have hends := hp.ends hT
    generalize p.Tails[i]'(by omega) = t at hT hends
    unfold m_spec_IsPebbles_L1
    simp only [idx_of hpe, idx_of hT, hbe, Option.bind_some]
    rw [decide_eq_true (show (i : Int) < (p.Placed.length : Int) by omega), decide_eq_false (show ¬ e < 0 by omega), decide_eq_false (show ¬ (g.Bars.length : Int) ≤ e by omega)]
    have hne : ((bif t != (pbar g.Bars p i).A then some (t != (pbar g.Bars p i).B) else some false) : Option Bool) = some false := by
      rcases hends with h | h
      · rw [h]; simp
      · by_cases h2 : t = (pbar g.Bars p i).A
        · rw [h2]; simp
        · have : (t != (pbar g.Bars p i).A) = true := by simp [h2]
          rw [this, ← h]
          simp
    by_cases h0 : 0 < i
    · have hpe' : p.Placed[i - 1]? = some (p.Placed[i - 1]'(by omega)) := List.getElem?_eq_getElem (by omega)
      have hinc := hp.inc hpe' (by rw [Nat.sub_add_cancel h0]; exact hpe)
      have ew : w64 ((i : Int) - 1) = ((i - 1 : Nat) : Int) := by rw [w64_small (by omega) (by omega)]; omega
      rw [decide_eq_true (show (0 : Int) < (i : Int) by omega), ew, idx_of hpe']
      simp only [Option.bind_some, cond_true, cond_false]
      rw [decide_eq_false (show ¬ e ≤ p.Placed[i - 1]'(by omega) by omega), cond_false, hne]
      rfl
    · rw [decide_eq_false (show ¬ (0 : Int) < (i : Int) by omega)]
      simp only [Option.bind_some, cond_true, cond_false]
      rw [hne]
      rfl
  have e2 : loopM (m_spec_IsPebbles_L2 g k p) BIG 0 = some (.inl ()) := by
    refine count_loop g.Points.toNat (by omega) (fun i hi => ?_) (by
      unfold m_spec_IsPebbles_L2
      rw [decide_eq_false (by omega)]
      rfl)
    obtain ⟨f, hf, hif, f0, fk⟩ := hp.free_in (v := (i : Int)) (by omega) (by omega)
    rw [Int.toNat_natCast] at hf
    have hfr := hp.fr hf
    unfold m_spec_IsPebbles_L2
    simp only [hif, l4Tail_eq hg hp hm, Option.bind_some]
    rw [decide_eq_true (show (i : Int) < g.Points by omega), decide_eq_false (show ¬ f < 0 by omega), w64_small (by omega) (by omega), hfr.2]
    simp
  unfold m_spec_IsPebbles
  rw [isGraphS_eq g hV.sm, hv, l1In_eq, decide_eq_true k1, decide_eq_true k3, e1, e2]
  have q1 : ((p.Free.length : Int) != g.Points) = false := by simp [hfl]
  have q2 : ((p.Tails.length : Int) != (p.Placed.length : Int)) = false := by simp [htl]
  rw [q1, q2]
  rfl
def runP (g : TGraph) (k l : Int) : TPebbles × Bool := bif vG g && ((decide (1 ≤ k) && decide (k ≤ 3)) && (decide (0 ≤ l) && decide (l ≤ 2 * k - 1))) then (played g.Points g.Bars k l g.Bars.length, true) else (⟨[], [], []⟩, false)
theorem runI_eq (g : TGraph) (h : SM g.Bars.length) (k l : Int) : m_impl_RunPebbles g k l = some (runP g k l) := by
  unfold m_impl_RunPebbles runP
  rw [isGraphI_eq g h, isRangeI_eq]
  cases hv : vG g
  · rfl
  · cases hr : (decide (1 ≤ k) && decide (k ≤ 3)) && (decide (0 ≤ l) && decide (l ≤ 2 * k - 1))
    · rfl
    · simp only [Bool.and_eq_true, decide_eq_true_eq] at hr
      simp only [Option.bind_some, Bool.not_true, cond_false, Bool.and_self, cond_true, play_eq (vG_VG hv).gb hr.1.1 hr.1.2 hr.2]
theorem newS_eq (g : TGraph) (h : SM g.Bars.length) (k : Int) : m_spec_NewPebbles g k = some (bif vG g && (decide (1 ≤ k) && decide (k ≤ 3)) then (⟨List.replicate g.Points.toNat k, [], []⟩, true) else (⟨[], [], []⟩, false)) := by
  unfold m_spec_NewPebbles
  rw [isGraphS_eq g h, l1In_eq]
  cases hv : vG g
  · rfl
  · cases hr : decide (1 ≤ k) && decide (k ≤ 3)
    · rfl
    · have h1 := (vG_VG hv).p1
      have h8 := (vG_VG hv).p8
      have e1 : loopM (m_spec_NewPebbles_L1 g k) BIG (0, []) = some (List.replicate g.Points.toNat k) := by
        refine loopM_run (fun n => ((n : Int), List.replicate n k)) g.Points.toNat (by omega) rfl (fun n hn => ?_) ?_
        · unfold m_spec_NewPebbles_L1
          simp only [w64_succ (show n ≤ 1099511627776 by omega)]
          rw [decide_eq_true (by omega), cond_true, lim_ok (by simp; omega), Option.bind_some, ← List.replicate_succ']
        · unfold m_spec_NewPebbles_L1
          simp only
          rw [decide_eq_false (by omega)]
          rfl
      rw [e1]
      rfl
theorem runS_eq (g : TGraph) (h : SM g.Bars.length) (k l : Int) : m_spec_RunPebbles g k l = some (runP g k l) := by
  unfold m_spec_RunPebbles runP
  rw [newS_eq g h, isRangeS_eq]
  cases hv : vG g
  · rfl
  · have hV := vG_VG hv
    have hg := hV.gb
    have hlen := hg.len
    cases hk : decide (1 ≤ k) && decide (k ≤ 3)
    · rfl
    · cases hl : decide (0 ≤ l) && decide (l ≤ 2 * k - 1)
      · rfl
      · simp only [Bool.and_eq_true, decide_eq_true_eq] at hk hl
        have e2 := fold_loop (b := m_spec_RunPebbles_L1 g k l) (s := (0, List.replicate g.Points.toNat k, [], [])) (fun n (p : TPebbles) => ((n : Int), p.Free, p.Tails, p.Placed)) (fun m p => placeI g.Bars l p m) (fun n p => n ≤ g.Bars.length ∧ PB g.Points g.Bars k n p) (fun p => (p.Free, p.Tails, p.Placed)) g.Bars.length ⟨List.replicate g.Points.toNat k, [], []⟩ (by omega) rfl ⟨Nat.zero_le _, played_PB hg hk.1 hk.2 hl 0 (Nat.zero_le _)⟩ (fun n p hn hp => by
          obtain ⟨hpb, _, hS⟩ := place_both hg hp.2 hn hl (g := g) rfl rfl
          refine ⟨?_, by omega, hpb⟩
          have hS := hS (isPebbles_eq hv hp.2 (by omega))
          unfold m_spec_RunPebbles_L1
          rw [decide_eq_true (show ((n : Int), p.Free, p.Tails, p.Placed).1 < (g.Bars.length : Int) by simp only; omega), cond_true]
          simp only [w64_succ (show n ≤ 1099511627776 by omega)]
          rcases hS with hS | hS
          · rw [show TPebbles.mk p.Free p.Tails p.Placed = p from rfl, hS]
            rfl
          · rw [show TPebbles.mk p.Free p.Tails p.Placed = p from rfl, hS]
            rfl) (fun p hp => by simp [m_spec_RunPebbles_L1])
        simp only [Option.bind_some, Bool.and_self, Bool.not_true, cond_false, cond_true, e2.1]
        rfl
def rk (g : TGraph) (k l : Int) : Int := bif (runP g k l).2 then ((runP g k l).1.Placed.length : Int) else -1
theorem rankI_eq (g : TGraph) (h : SM g.Bars.length) (k l : Int) : m_impl_RankOf g k l = some (rk g k l) := by
  unfold m_impl_RankOf rk
  rw [runI_eq g h]
  simp only [Option.bind_some]
  cases (runP g k l).2 <;> rfl
theorem rankS_eq (g : TGraph) (h : SM g.Bars.length) (k l : Int) : m_spec_RankOf g k l = some (rk g k l) := by
  unfold m_spec_RankOf rk
  rw [runS_eq g h]
  simp only [Option.bind_some]
  cases (runP g k l).2 <;> rfl
def only (g : TGraph) (keep : List Int) : TGraph := ⟨g.Points, pieces (fun k => match g.Bars[k]? with | some x => bif hasI keep k then [x] else [] | none => []) g.Bars.length⟩
end Go.Proofs.Ytghofbijdnenoaa
end
section
set_option linter.unusedVariables false
set_option linter.unusedSimpArgs false
set_option linter.unnecessarySimpa false
open Go Go.Fw Go.Mx
namespace Go.Proofs.Ytghofbijdnenoaa
theorem frank_rng (f : TFramework) : -1 ≤ frank f ∧ frank f ≤ 12 := by
  unfold frank
  cases hv : vF f with
  | false => exact ⟨by simp, by simp⟩
  | true =>
    have h := vF_VF hv
    have hn := nC_le h
    obtain ⟨M', hI⟩ := bred_inv (rigRows h) (nC f) (Nat.le_refl _)
    have := nodup_le (nC f) _ hI.nd hI.pc
    simp only [cond_true]
    omega
def here (f : TFramework) (i : Nat) : Bool := eqI [(plAt f (i : Int)).X, (plAt f (i : Int)).Y] [(plAt f 0).X, (plAt f 0).Y]
theorem here0 (f : TFramework) : here f 0 = true := by
  unfold here
  rw [eqI_eq]
  exact decide_eq_true rfl
def apart (f : TFramework) : Bool := (List.range' 0 f.Places.length).any fun i => !here f i
def fdom (f : TFramework) : Int := bif vF f then 2 * f.Graph.Points - (bif apart f then 3 else 2) - frank f else -1
theorem any_snoc {p : Nat → Bool} (k : Nat) : (List.range' 0 (k + 1)).any p = ((List.range' 0 k).any p || p k) := by
  rw [List.range'_1_concat, List.any_append]
  simp
theorem placeD {f : TFramework} {k : Nat} (h : k < f.Places.length) : idx f.Places (k : Int) = some (plAt f (k : Int)) := by
  rw [idx_at h]
  unfold plAt
  rw [Int.toNat_natCast, List.getElem?_eq_getElem h]
  rfl
theorem fdomI_eq (f : TFramework) (h0 : SM f.Graph.Bars.length) (h1 : SM f.Places.length) : m_impl_FrameworkFreedom f = some (fdom f) := by
  unfold m_impl_FrameworkFreedom fdom
  rw [isFI_eq f h0 h1, Option.bind_some]
  cases hv : vF f with
  | false => rfl
  | true =>
    have h := vF_VF hv
    have hp1 := h.g.p1
    have hp6 := h.p6
    have hpl := h.pls
    have hr := frank_rng f
    have hL : loopM (m_impl_FrameworkFreedom_L1 f) BIG (true, 0) = some (!apart f) := by
      refine loopM_run (fun k => (!(List.range' 0 k).any (fun i => !here f i), (k : Int))) f.Places.length (by omega) (by simp) (fun k hk => ?_) ?_
      · have e0 := placeD (f := f) (k := 0) (by omega)
        unfold m_impl_FrameworkFreedom_L1
        rw [decide_eq_true (by omega), cond_true, placeD hk, Option.bind_some, any_snoc]
        simp only [w64_succ (show k ≤ 1099511627776 by omega)]
        cases hb : (List.range' 0 k).any (fun i => !here f i) with
        | true => simp
        | false =>
          simp only [Bool.not_false, cond_true]
          rw [show ((0 : Int)) = ((0 : Nat) : Int) from rfl, e0]
          simp [here]
      · unfold m_impl_FrameworkFreedom_L1 apart
        rw [decide_eq_false (by omega), cond_false]
    simp only [Bool.not_true, cond_false, cond_true, hL, Option.bind_some, frankI_eq f h0 h1]
    rw [w64_small (n := 2 * f.Graph.Points) (by omega) (by omega)]
    cases apart f
    · simp only [Bool.not_false, cond_true, cond_false, Option.bind_some]
      rw [w64_small (n := 2 * f.Graph.Points - 2) (by omega) (by omega), w64_small (by omega) (by omega)]
    · simp only [Bool.not_true, cond_true, cond_false, Option.bind_some]
      rw [w64_small (n := 2 * f.Graph.Points - 3) (by omega) (by omega), w64_small (by omega) (by omega)]
theorem fdomS_eq (f : TFramework) (h0 : SM f.Graph.Bars.length) (h1 : SM f.Places.length) : m_spec_FrameworkFreedom f = some (fdom f) := by
  unfold m_spec_FrameworkFreedom fdom
  rw [isFS_eq f h0 h1, Option.bind_some]
  cases hv : vF f with
  | false => rfl
  | true =>
    have h := vF_VF hv
    have hp1 := h.g.p1
    have hp6 := h.p6
    have hpl := h.pls
    have hr := frank_rng f
    have hL : loopM (m_spec_l11Trivial_L1 f) BIG 1 = some (bif apart f then .inr 3 else .inl ()) := by
      have := any_loop (b := m_spec_l11Trivial_L1 f) (fun i => !here f i) 3 1 f.Places.length (by omega) (by omega) (fun k hk1 hk => by
        have e0 := placeD (f := f) (k := 0) (by omega)
        unfold m_spec_l11Trivial_L1
        rw [decide_eq_true (by omega), cond_true, placeD hk, Option.bind_some, show ((0 : Int)) = ((0 : Nat) : Int) from rfl, e0, Option.bind_some]
        rfl) (by
        unfold m_spec_l11Trivial_L1
        rw [decide_eq_false (by omega), cond_false])
      have e : (List.range' 1 (f.Places.length - 1)).any (fun i => !here f i) = apart f := by
        unfold apart
        obtain ⟨m, hm⟩ : ∃ m, f.Places.length = m + 1 := ⟨f.Places.length - 1, by omega⟩
        rw [hm, Nat.add_sub_cancel, List.range'_succ, List.any_cons, here0]
        rfl
      rw [e] at this
      exact this
    have hT : m_spec_l11Trivial f = some (bif apart f then 3 else 2) := by
      unfold m_spec_l11Trivial
      rw [hL]
      cases apart f <;> rfl
    simp only [Bool.not_true, cond_false, cond_true, hT, Option.bind_some, frankS_eq f h0 h1]
    rw [w64_small (n := 2 * f.Graph.Points) (by omega) (by omega)]
    cases apart f
    · simp only [cond_false]
      rw [w64_small (n := 2 * f.Graph.Points - 2) (by omega) (by omega), w64_small (by omega) (by omega)]
    · simp only [cond_true]
      rw [w64_small (n := 2 * f.Graph.Points - 3) (by omega) (by omega), w64_small (by omega) (by omega)]
def stiff (f : TFramework) : Bool := fdom f == 0
theorem stiffI_eq (f : TFramework) (h0 : SM f.Graph.Bars.length) (h1 : SM f.Places.length) : m_impl_IsStiff f = some (stiff f) := by unfold m_impl_IsStiff; rw [fdomI_eq f h0 h1]; rfl
def genH (f : TFramework) : Bool := vF f && (frank f == rk f.Graph 2 3)
theorem genI_eq (f : TFramework) (h0 : SM f.Graph.Bars.length) (h1 : SM f.Places.length) : m_impl_IsGenericHere f = some (genH f) := by
  unfold m_impl_IsGenericHere genH
  rw [isFI_eq f h0 h1, frankI_eq f h0 h1, rankI_eq _ h0]
  cases vF f <;> rfl
theorem genS_eq (f : TFramework) (h0 : SM f.Graph.Bars.length) (h1 : SM f.Places.length) : m_spec_IsGenericHere f = some (genH f) := by
  unfold m_spec_IsGenericHere genH
  rw [isFS_eq f h0 h1, frankS_eq f h0 h1, rankS_eq _ h0]
  cases vF f <;> rfl
end Go.Proofs.Ytghofbijdnenoaa
end
section
set_option linter.unusedVariables false
set_option linter.unusedSimpArgs false
set_option linter.unnecessarySimpa false
namespace Go.Sp
def su (f : Nat → Nat) : Nat → Nat
  | 0 => 0
  | n + 1 => su f n + f n
theorem su_congr {f g : Nat → Nat} : ∀ n, (∀ i, i < n → f i = g i) → su f n = su g n
  | 0, _ => rfl
  | n + 1, h => by
    show su f n + f n = su g n + g n
    rw [su_congr n fun i hi => h i (by omega), h n (by omega)]
theorem su_le {f g : Nat → Nat} : ∀ n, (∀ i, i < n → f i ≤ g i) → su f n ≤ su g n
  | 0, _ => Nat.le_refl _
  | n + 1, h => by
    have h1 := su_le n fun i hi => h i (by omega)
    have h2 := h n (by omega)
    show su f n + f n ≤ su g n + g n
    omega
theorem su_add (f g : Nat → Nat) : ∀ n, su (fun i => f i + g i) n = su f n + su g n
  | 0 => rfl
  | n + 1 => by
    show su (fun i => f i + g i) n + (f n + g n) = (su f n + f n) + (su g n + g n)
    rw [su_add f g n]
    omega
theorem su_zero {f : Nat → Nat} : ∀ n, (∀ i, i < n → f i = 0) → su f n = 0
  | 0, _ => rfl
  | n + 1, h => by
    show su f n + f n = 0
    rw [su_zero n fun i hi => h i (by omega), h n (by omega)]
theorem su_bump {f g : Nat → Nat} {j c : Nat} : ∀ n, j < n → g j = f j + c → (∀ i, i < n → i ≠ j → g i = f i) → su g n = su f n + c
  | 0, hj, _, _ => by omega
  | n + 1, hj, h1, h2 => by
    show su g n + g n = su f n + f n + c
    by_cases hjn : j = n
    · subst hjn
      rw [su_congr j fun i hi => h2 i (by omega) (by omega), h1]
      omega
    · rw [su_bump n (by omega) h1 fun i hi hne => h2 i (by omega) hne, h2 n (by omega) (fun e => hjn e.symm)]
      omega
theorem su_lt {f g : Nat → Nat} {j : Nat} : ∀ n, (∀ i, i < n → f i ≤ g i) → j < n → f j < g j → su f n < su g n
  | 0, _, hj, _ => by omega
  | n + 1, h, hj, h1 => by
    show su f n + f n < su g n + g n
    by_cases hjn : j = n
    · subst hjn
      have := su_le j fun i hi => h i (by omega)
      omega
    · have := su_lt n (fun i hi => h i (by omega)) (by omega : j < n) h1
      have := h n (by omega)
      omega
theorem su_pos {f : Nat → Nat} : ∀ n, 0 < su f n → ∃ i, i < n ∧ 0 < f i
  | 0, h => by simp [su] at h
  | n + 1, h => by
    change 0 < su f n + f n at h
    by_cases h1 : 0 < f n
    · exact ⟨n, by omega, h1⟩
    · obtain ⟨i, hi, h2⟩ := su_pos n (by omega : 0 < su f n)
      exact ⟨i, by omega, h2⟩
theorem su_one {f : Nat → Nat} {j : Nat} {n : Nat} (hj : j < n) : f j ≤ su f n := by
  have : su (fun i => if i = j then f j else 0) n = 0 + f j := by
    have := su_bump (f := fun _ => 0) (g := fun i => if i = j then f j else 0) (c := f j) n hj (by simp) (fun i _ hne => by simp [hne])
    rw [this, su_zero n fun _ _ => rfl]
  have h2 := su_le (f := fun i => if i = j then f j else 0) (g := f) n fun i _ => by
    show (if i = j then f j else 0) ≤ f i
    split
    · rename_i h; subst h; exact Nat.le_refl _
    · exact Nat.zero_le _
  omega
def inn (X : Nat → Bool) (i : Nat) : Bool := X (i / 8) && X (i % 8)
def size (X : Nat → Bool) : Nat := su (fun v => if X v then 1 else 0) 8
def span (I : Nat → Nat) (X : Nat → Bool) : Nat := su (fun i => if inn X i then I i else 0) 64
def card (I : Nat → Nat) : Nat := su I 64
def cap (X Y : Nat → Bool) (v : Nat) : Bool := X v && Y v
def cup (X Y : Nat → Bool) (v : Nat) : Bool := X v || Y v
def add1 (I : Nat → Nat) (e i : Nat) : Nat := if i = e then I i + 1 else I i
def sub1 (I : Nat → Nat) (e i : Nat) : Nat := if i = e then I i - 1 else I i
theorem inn_cap (X Y : Nat → Bool) (i : Nat) : inn (cap X Y) i = (inn X i && inn Y i) := by
  unfold inn cap
  cases X (i / 8) <;> cases X (i % 8) <;> cases Y (i / 8) <;> cases Y (i % 8) <;> rfl
theorem inn_cup {X Y : Nat → Bool} {i : Nat} (h : inn X i = true ∨ inn Y i = true) : inn (cup X Y) i = true := by
  unfold inn cup at *
  revert h
  cases X (i / 8) <;> cases X (i % 8) <;> cases Y (i / 8) <;> cases Y (i % 8) <;> simp
theorem size_cc (X Y : Nat → Bool) : size (cap X Y) + size (cup X Y) = size X + size Y := by
  unfold size
  rw [← su_add, ← su_add]
  refine su_congr 8 fun v _ => ?_
  unfold cap cup
  cases X v <;> cases Y v <;> rfl
theorem span_cc (I : Nat → Nat) (X Y : Nat → Bool) : span I X + span I Y ≤ span I (cap X Y) + span I (cup X Y) := by
  unfold span
  rw [← su_add, ← su_add]
  refine su_le 64 fun i _ => ?_
  show (if inn X i then I i else 0) + (if inn Y i then I i else 0) ≤ (if inn (cap X Y) i then I i else 0) + (if inn (cup X Y) i then I i else 0)
  rw [inn_cap]
  cases hx : inn X i <;> cases hy : inn Y i
  · simp
  · rw [inn_cup (.inr hy)]; simp
  · rw [inn_cup (.inl hx)]; simp
  · rw [inn_cup (.inl hx)]; simp
theorem size_two {X : Nat → Bool} {a b : Nat} (ha : a < 8) (hb : b < 8) (hab : a ≠ b) (xa : X a = true) (xb : X b = true) : 2 ≤ size X := by
  unfold size
  have h1 : su (fun v => if v = a then 1 else 0) 8 = 1 := by
    have := su_bump (f := fun _ => 0) (g := fun v => if v = a then 1 else 0) (c := 1) 8 ha (by simp) (fun i _ hne => by simp [hne])
    rw [this, su_zero 8 fun _ _ => rfl]
  have h2 : su (fun v => if v = b then 1 else 0) 8 = 1 := by
    have := su_bump (f := fun _ => 0) (g := fun v => if v = b then 1 else 0) (c := 1) 8 hb (by simp) (fun i _ hne => by simp [hne])
    rw [this, su_zero 8 fun _ _ => rfl]
  have h3 := su_le (f := fun v => (if v = a then 1 else 0) + (if v = b then 1 else 0)) (g := fun v => if X v then 1 else 0) 8 fun v _ => by
    show (if v = a then 1 else 0) + (if v = b then 1 else 0) ≤ (if X v then 1 else 0)
    by_cases h1 : v = a
    · subst h1
      rw [if_pos rfl, if_neg hab, xa]
      simp
    · by_cases h2 : v = b
      · subst h2
        rw [if_neg h1, if_pos rfl, xb]
        simp
      · rw [if_neg h1, if_neg h2]
        exact Nat.zero_le _
  rw [su_add, h1, h2] at h3
  exact h3
theorem size_inn {X : Nat → Bool} {i : Nat} (hi : i < 64) (hne : i / 8 ≠ i % 8) (h : inn X i = true) : 2 ≤ size X := by
  unfold inn at h
  rw [Bool.and_eq_true] at h
  exact size_two (by omega) (by omega) hne h.1 h.2
theorem span_add1 (I : Nat → Nat) {e : Nat} (he : e < 64) (X : Nat → Bool) : span (add1 I e) X = span I X + if inn X e then 1 else 0 := by
  unfold span
  refine su_bump (j := e) 64 he ?_ (fun i _ hne => ?_)
  · show (if inn X e then add1 I e e else 0) = (if inn X e then I e else 0) + _
    unfold add1
    cases inn X e <;> simp
  · show (if inn X i then add1 I e i else 0) = (if inn X i then I i else 0)
    unfold add1
    rw [if_neg hne]
theorem span_sub1 {I : Nat → Nat} {e : Nat} (he : e < 64) (hp : 0 < I e) (X : Nat → Bool) : span (sub1 I e) X + (if inn X e then 1 else 0) = span I X := by
  have h : span I X = span (add1 (sub1 I e) e) X := by
    unfold span
    refine su_congr 64 fun i _ => ?_
    have : add1 (sub1 I e) e i = I i := by
      unfold add1 sub1
      by_cases h : i = e
      · subst h
        simp
        omega
      · simp [h]
    rw [this]
  rw [h, span_add1 _ he]
theorem card_add1 (I : Nat → Nat) {e : Nat} (he : e < 64) : card (add1 I e) = card I + 1 :=
  su_bump (j := e) 64 he (by simp [add1]) (fun i _ hne => by simp [add1, hne])
theorem card_sub1 {I : Nat → Nat} {e : Nat} (he : e < 64) (hp : 0 < I e) : card (sub1 I e) + 1 = card I :=
  (su_bump (f := sub1 I e) (g := I) (j := e) 64 he (by simp [sub1]; omega) (fun i _ hne => by simp [sub1, hne])).symm
theorem span_mono {I J : Nat → Nat} (h : ∀ i, i < 64 → I i ≤ J i) (X : Nat → Bool) : span I X ≤ span J X :=
  su_le 64 fun i hi => by
    show (if inn X i then I i else 0) ≤ (if inn X i then J i else 0)
    split
    · exact h i hi
    · exact Nat.le_refl _
theorem span_congr {I J : Nat → Nat} (h : ∀ i, i < 64 → I i = J i) (X : Nat → Bool) : span I X = span J X :=
  su_congr 64 fun i hi => by rw [h i hi]
structure Sparse (k l : Nat) (I : Nat → Nat) : Prop where
  sp : ∀ X, 0 < span I X → span I X + l ≤ k * size X
  ll : ∀ i, i < 64 → 0 < I i → i / 8 ≠ i % 8
def tight (k l : Nat) (I : Nat → Nat) (X : Nat → Bool) : Prop := span I X + l = k * size X
section
variable {k l : Nat} {I J : Nat → Nat}
theorem Sparse.congr (h : Sparse k l I) (e : ∀ i, i < 64 → I i = J i) : Sparse k l J :=
  ⟨fun X hX => by rw [← span_congr e X] at hX ⊢; exact h.sp X hX, fun i hi hp => h.ll i hi (by rw [e i hi]; exact hp)⟩
theorem Sparse.sub (h : Sparse k l I) (e : ∀ i, i < 64 → J i ≤ I i) : Sparse k l J :=
  ⟨fun X hX => by
    have h1 := span_mono e X
    have := h.sp X (by omega)
    omega, fun i hi hp => h.ll i hi (by have := e i hi; omega)⟩
theorem Sparse.bound (hl : l < 2 * k) (h : Sparse k l I) {X : Nat → Bool} (h2 : 2 ≤ size X) : span I X + l ≤ k * size X := by
  by_cases h0 : 0 < span I X
  · exact h.sp X h0
  · have : 2 * k ≤ k * size X := by rw [Nat.mul_comm]; exact Nat.mul_le_mul_left _ h2
    omega
theorem tight_cc (hl : l < 2 * k) (h : Sparse k l I) {X Y : Nat → Bool} (hX : tight k l I X) (hY : tight k l I Y) (h2 : 2 ≤ size (cap X Y)) : tight k l I (cap X Y) ∧ tight k l I (cup X Y) := by
  have h1 := size_cc X Y
  have h3 := span_cc I X Y
  have hsz : size (cap X Y) ≤ size (cup X Y) := su_le 8 fun v _ => by
    show (if cap X Y v then 1 else 0) ≤ (if cup X Y v then 1 else 0)
    unfold cap cup
    cases X v <;> cases Y v <;> simp
  have h4 := h.bound hl h2
  have h5 := h.bound hl (X := cup X Y) (by omega)
  unfold tight at *
  have h6 : k * size (cap X Y) + k * size (cup X Y) = k * size X + k * size Y := by rw [← Nat.mul_add, ← Nat.mul_add, h1]
  omega
theorem not_add (hl : l < 2 * k) (h : Sparse k l I) {e : Nat} (he : e < 64) (hne : e / 8 ≠ e % 8) (hn : ¬ Sparse k l (add1 I e)) : ∃ X, inn X e = true ∧ tight k l I X := by
  apply Classical.byContradiction
  intro hno
  refine hn ⟨fun X hX => ?_, fun i hi hp => ?_⟩
  · rw [span_add1 I he] at hX ⊢
    cases hx : inn X e with
    | false =>
      rw [hx] at hX
      simp only [Bool.false_eq_true, if_false, Nat.add_zero] at hX ⊢
      exact h.sp X hX
    | true =>
      have h2 := size_inn he hne hx
      have h3 := h.bound hl h2
      by_cases ht : tight k l I X
      · exact absurd ⟨X, hx, ht⟩ hno
      · unfold tight at ht
        simp only [if_true]
        omega
  · unfold add1 at hp
    by_cases hie : i = e
    · rw [hie]; exact hne
    · rw [if_neg hie] at hp
      exact h.ll i hi hp
theorem tight_no {e : Nat} (he : e < 64) {X : Nat → Bool} (hx : inn X e = true) (ht : k * size X ≤ span I X + l) : ¬ Sparse k l (add1 I e) := fun h => by
  have := h.sp X (by rw [span_add1 I he, hx]; simp)
  rw [span_add1 I he, hx] at this
  simp only [if_true] at this
  omega
theorem least_tight {e : Nat} : ∀ n, (∃ X, size X ≤ n ∧ inn X e = true ∧ tight k l I X) → ∃ X, inn X e = true ∧ tight k l I X ∧ ∀ Y, inn Y e = true → tight k l I Y → size X ≤ size Y
  | 0, ⟨X, h0, h1, h2⟩ => ⟨X, h1, h2, fun Y _ _ => by omega⟩
  | n + 1, ⟨X, h0, h1, h2⟩ => by
    by_cases h : ∃ Y, size Y ≤ n ∧ inn Y e = true ∧ tight k l I Y
    · exact least_tight n h
    · refine ⟨X, h1, h2, fun Y h3 h4 => ?_⟩
      apply Classical.byContradiction
      intro h5
      exact h ⟨Y, by omega, h3, h4⟩
theorem cap_less {X Y : Nat → Bool} {f : Nat} (hf : f < 64) (hX : inn X f = true) (hY : inn Y f = false) : size (cap X Y) < size X := by
  unfold inn at hX hY
  rw [Bool.and_eq_true] at hX
  have : ∃ v, v < 8 ∧ X v = true ∧ Y v = false := by
    cases h1 : Y (f / 8) with
    | false => exact ⟨f / 8, by omega, hX.1, h1⟩
    | true =>
      rw [h1, Bool.true_and] at hY
      exact ⟨f % 8, by omega, hX.2, hY⟩
  obtain ⟨v, hv, h1, h2⟩ := this
  refine su_lt 8 (fun v _ => ?_) hv ?_
  · show (if cap X Y v then 1 else 0) ≤ (if X v then 1 else 0)
    unfold cap
    cases X v <;> cases Y v <;> simp
  · show (if cap X Y v then 1 else 0) < (if X v then 1 else 0)
    unfold cap
    rw [h1, h2]
    simp
theorem exch (hl : l < 2 * k) : ∀ n (I J : Nat → Nat), Sparse k l I → Sparse k l J → su (fun i => J i - I i) 64 ≤ n → card I < card J → ∃ e, e < 64 ∧ I e < J e ∧ Sparse k l (add1 I e) := by
  intro n
  induction n with
  | zero =>
    intro I J hI hJ hn hc
    have : card J ≤ card I := su_le 64 fun i hi => by
      have : J i - I i ≤ su (fun i => J i - I i) 64 := su_one (f := fun i => J i - I i) hi
      omega
    omega
  | succ n ih =>
    intro I J hI hJ hn hc
    apply Classical.byContradiction
    intro hno
    have hnot : ∀ e, e < 64 → I e < J e → ¬ Sparse k l (add1 I e) := fun e h1 h2 h3 => hno ⟨e, h1, h2, h3⟩
    -- a bar of J more
    have : ∃ e, e < 64 ∧ I e < J e := by
      apply Classical.byContradiction
      intro hx
      have : card J ≤ card I := su_le 64 fun i hi => by
        apply Classical.byContradiction
        intro h
        exact hx ⟨i, hi, by omega⟩
      omega
    obtain ⟨e, he, hle⟩ := this
    have hne := hJ.ll e he (by omega)
    obtain ⟨X0, hx0, ht0⟩ := not_add hl hI he hne (hnot e he hle)
    obtain ⟨X, hx, ht, hmin⟩ := least_tight (size X0) ⟨X0, Nat.le_refl _, hx0, ht0⟩
    -- a bar of I more, in X
    have : ∃ f, f < 64 ∧ inn X f = true ∧ J f < I f := by
      apply Classical.byContradiction
      intro hno2
      have h1 : span I X < span J X := su_lt (j := e) 64 (fun i hi => by
        show (if inn X i then I i else 0) ≤ (if inn X i then J i else 0)
        cases hxi : inn X i with
        | false => exact Nat.le_refl _
        | true =>
          simp only [if_true]
          apply Classical.byContradiction
          intro h
          exact hno2 ⟨i, hi, hxi, by omega⟩) he (by
        show (if inn X e then I e else 0) < (if inn X e then J e else 0)
        rw [hx]
        exact hle)
      have h2 := hJ.sp X (by omega)
      unfold tight at ht
      omega
    obtain ⟨f, hf, hxf, hlf⟩ := this
    have hfe : f ≠ e := fun h => by subst h; omega
    have hfne := hI.ll f hf (by omega)
    have hpf : 0 < add1 I e f := by unfold add1; rw [if_neg hfe]; omega
    -- the exchange
    have hspan : ∀ Y, span (sub1 (add1 I e) f) Y + (if inn Y f then 1 else 0) = span I Y + (if inn Y e then 1 else 0) := fun Y => by
      rw [span_sub1 hf hpf, span_add1 I he]
    have hI' : Sparse k l (sub1 (add1 I e) f) := by
      refine ⟨fun Y hY => ?_, fun i hi hp => ?_⟩
      · have hs := hspan Y
        obtain ⟨i, hi, hpi⟩ := su_pos 64 hY
        have hyi : inn Y i = true := by
          cases h : inn Y i with
          | true => rfl
          | false => rw [h] at hpi; simp at hpi
        have hine : i / 8 ≠ i % 8 := by
          rw [hyi] at hpi
          simp only [if_true] at hpi
          unfold sub1 add1 at hpi
          by_cases hie : i = e
          · rw [hie]; exact hne
          · by_cases hif : i = f
            · rw [hif]; exact hfne
            · rw [if_neg hif, if_neg hie] at hpi
              exact hI.ll i hi hpi
        have h2 := size_inn hi hine hyi
        have hb := hI.bound hl h2
        cases hye : inn Y e with
        | false =>
          rw [hye] at hs
          simp only [Bool.false_eq_true, if_false] at hs
          omega
        | true =>
          cases hyf : inn Y f with
          | true =>
            rw [hye, hyf] at hs
            simp only [if_true] at hs
            omega
          | false =>
            rw [hye, hyf] at hs
            simp only [if_true, Bool.false_eq_true, if_false] at hs
            by_cases hty : tight k l I Y
            · have hc2 : inn (cap X Y) e = true := by rw [inn_cap, hx, hye]; rfl
              have h3 := size_inn he hne hc2
              have h4 := (tight_cc hl hI ht hty h3).1
              have h5 := hmin _ hc2 h4
              have h6 := cap_less hf hxf hyf
              omega
            · unfold tight at hty
              omega
      · unfold sub1 add1 at hp
        by_cases hie : i = e
        · rw [hie]; exact hne
        · by_cases hif : i = f
          · rw [hif]; exact hfne
          · rw [if_neg hif, if_neg hie] at hp
            exact hI.ll i hi hp
    have hcard : card (sub1 (add1 I e) f) = card I := by
      have h1 := card_sub1 hf hpf
      have h2 := card_add1 I he
      omega
    have hdist : su (fun i => J i - sub1 (add1 I e) f i) 64 ≤ n := by
      have h1 := su_bump (f := fun i => J i - sub1 (add1 I e) f i) (g := fun i => J i - I i) (j := e) (c := 1) 64 he (by
        show J e - I e = J e - sub1 (add1 I e) f e + 1
        unfold sub1 add1
        rw [if_neg (Ne.symm hfe), if_pos rfl]
        omega) (fun i _ hie => by
        show J i - I i = J i - sub1 (add1 I e) f i
        unfold sub1 add1
        by_cases hif : i = f
        · subst hif
          rw [if_pos rfl, if_neg hie]
          omega
        · rw [if_neg hif, if_neg hie])
      omega
    obtain ⟨e', he', hle', hs'⟩ := ih _ J hI' hJ hdist (by omega)
    have hef : e' ≠ f := fun h => by
      subst h
      unfold sub1 add1 at hle'
      rw [if_pos rfl, if_neg hfe] at hle'
      omega
    have hlI : I e' < J e' := by
      unfold sub1 add1 at hle'
      rw [if_neg hef] at hle'
      by_cases h : e' = e
      · rw [if_pos h] at hle'
        omega
      · rw [if_neg h] at hle'
        exact hle'
    obtain ⟨X', hx', ht'⟩ := not_add hl hI he' (hJ.ll e' he' (by omega)) (hnot e' he' hlI)
    cases hxf' : inn X' f with
    | false =>
      have hs := hspan X'
      rw [hxf'] at hs
      simp only [Bool.false_eq_true, if_false] at hs
      refine tight_no he' hx' ?_ hs'
      unfold tight at ht'
      omega
    | true =>
      have hc2 : inn (cap X X') f = true := by rw [inn_cap, hxf, hxf']; rfl
      have h4 := (tight_cc hl hI ht ht' (size_inn hf hfne hc2)).2
      have hs := hspan (cup X X')
      rw [inn_cup (.inl hx), inn_cup (.inl hxf)] at hs
      simp only [if_true] at hs
      refine tight_no (X := cup X X') he' (inn_cup (.inr hx')) ?_ hs'
      unfold tight at h4
      omega
structure IsRank (k l : Nat) (M : Nat → Nat) (r : Nat) : Prop where
  ex : ∃ I, (∀ i, i < 64 → I i ≤ M i) ∧ Sparse k l I ∧ card I = r
  mx : ∀ J, (∀ i, i < 64 → J i ≤ M i) → Sparse k l J → card J ≤ r
variable {M N : Nat → Nat} {r s : Nat}
theorem IsRank.mono (h : IsRank k l M r) (h2 : IsRank k l N s) (hMN : ∀ i, i < 64 → M i ≤ N i) : r ≤ s := by
  obtain ⟨I, h3, h4, h5⟩ := h.ex
  have := h2.mx I (fun i hi => Nat.le_trans (h3 i hi) (hMN i hi)) h4
  omega
theorem IsRank.uniq (h : IsRank k l M r) (h2 : IsRank k l N s) (hMN : ∀ i, i < 64 → M i = N i) : r = s :=
  Nat.le_antisymm (h.mono h2 fun i hi => Nat.le_of_eq (hMN i hi)) (h2.mono h fun i hi => Nat.le_of_eq (hMN i hi).symm)
theorem IsRank.of_max (hl : l < 2 * k) (hI : Sparse k l I) (h1 : ∀ i, i < 64 → I i ≤ M i) (h2 : ∀ e, e < 64 → I e < M e → ¬ Sparse k l (add1 I e)) : IsRank k l M (card I) :=
  ⟨⟨I, h1, hI, rfl⟩, fun J hJ hs => by
    apply Classical.byContradiction
    intro h
    obtain ⟨e, he, hlt, hsp⟩ := exch hl _ I J hI hs (Nat.le_refl _) (by omega)
    exact h2 e he (Nat.lt_of_lt_of_le hlt (hJ e he)) hsp⟩
theorem IsRank.extend (hl : l < 2 * k) (h : IsRank k l M r) : ∀ n (I : Nat → Nat), Sparse k l I → (∀ i, i < 64 → I i ≤ M i) → card I + n = r → ∃ I', (∀ i, i < 64 → I i ≤ I' i) ∧ (∀ i, i < 64 → I' i ≤ M i) ∧ Sparse k l I' ∧ card I' = r := by
  intro n
  induction n with
  | zero => intro I hI h1 h2; exact ⟨I, fun _ _ => Nat.le_refl _, h1, hI, by omega⟩
  | succ n ih =>
    intro I hI h1 h2
    obtain ⟨B, b1, b2, b3⟩ := h.ex
    obtain ⟨e, he, hlt, hsp⟩ := exch hl _ I B hI b2 (Nat.le_refl _) (by omega)
    obtain ⟨I', c1, c2, c3, c4⟩ := ih (add1 I e) hsp (fun i hi => by
      unfold add1
      by_cases hie : i = e
      · rw [if_pos hie]
        subst hie
        have := b1 i hi
        omega
      · rw [if_neg hie]
        exact h1 i hi) (by rw [card_add1 I he]; omega)
    refine ⟨I', fun i hi => ?_, c2, c3, c4⟩
    have := c1 i hi
    unfold add1 at this
    split at this <;> omega
theorem IsRank.fill (hl : l < 2 * k) (h : IsRank k l M r) (hI : Sparse k l I) (h1 : ∀ i, i < 64 → I i ≤ M i) {S : Nat → Bool} (ht : tight k l I S) (hMN : ∀ i, i < 64 → M i ≤ N i) (hS : ∀ i, i < 64 → M i < N i → inn S i = true) : IsRank k l N r := by
  have hc := h.mx I h1 hI
  obtain ⟨I', c1, c2, c3, c4⟩ := h.extend hl (r - card I) I hI h1 (by omega)
  have : IsRank k l N (card I') := IsRank.of_max hl c3 (fun i hi => Nat.le_trans (c2 i hi) (hMN i hi)) fun e he hlt => by
    by_cases hM : I' e < M e
    · intro hsp
      have := h.mx (add1 I' e) (fun i hi => by
        unfold add1
        by_cases hie : i = e
        · rw [if_pos hie]; subst hie; omega
        · rw [if_neg hie]; exact c2 i hi) hsp
      rw [card_add1 I' he] at this
      omega
    · have hin := hS e he (by have := c2 e he; omega)
      refine tight_no he hin ?_
      have := span_mono c1 S
      unfold tight at ht
      omega
  rw [c4] at this
  exact this
theorem IsRank.add (h : IsRank k l M r) {e : Nat} (he : e < 64) (h2 : IsRank k l (add1 M e) s) : r ≤ s ∧ s ≤ r + 1 := by
  refine ⟨h.mono h2 fun i hi => by unfold add1; split <;> omega, ?_⟩
  obtain ⟨I, h3, h4, h5⟩ := h2.ex
  by_cases hle : I e ≤ M e
  · have := h.mx I (fun i hi => by
      have := h3 i hi
      unfold add1 at this
      by_cases hie : i = e
      · subst hie; exact hle
      · rw [if_neg hie] at this; exact this) h4
    omega
  · have hp : 0 < I e := by omega
    have := h.mx (sub1 I e) (fun i hi => by
      have := h3 i hi
      unfold add1 at this
      unfold sub1
      by_cases hie : i = e
      · rw [if_pos hie] at this ⊢; omega
      · rw [if_neg hie] at this ⊢; exact this) (h4.sub fun i hi => by unfold sub1; split <;> omega)
    have := card_sub1 he hp
    omega
theorem IsRank.split (h : IsRank k l M r) {A B : Nat → Nat} {a b : Nat} (hA : IsRank k l A a) (hB : IsRank k l B b) (hM : ∀ i, i < 64 → M i ≤ A i + B i) : r ≤ a + b := by
  obtain ⟨I, h3, h4, h5⟩ := h.ex
  have h6 := hA.mx (fun i => min (I i) (A i)) (fun i _ => Nat.min_le_right _ _) (h4.sub fun i _ => Nat.min_le_left _ _)
  have h7 := hB.mx (fun i => I i - A i) (fun i hi => by have := h3 i hi; have := hM i hi; omega) (h4.sub fun i _ => Nat.sub_le _ _)
  have h8 : card I = card (fun i => min (I i) (A i)) + card (fun i => I i - A i) := by
    unfold card
    rw [← su_add]
    exact su_congr 64 fun i _ => by omega
  omega
end
end Go.Sp
end
section
set_option linter.unusedVariables false
set_option linter.unusedSimpArgs false
set_option linter.unnecessarySimpa false
open Go Go.Fw Go.Sp
namespace Go.Proofs.Ytghofbijdnenoaa
def codeB (x : TBar) : Nat := x.A.toNat * 8 + x.B.toNat
structure OkB (x : TBar) : Prop where
  a0 : 0 ≤ x.A
  a8 : x.A < 8
  b0 : 0 ≤ x.B
  b8 : x.B < 8
  ab : x.A ≠ x.B
theorem OkB.lt {x : TBar} (h : OkB x) : codeB x < 64 := by
  have := h.a0; have := h.a8; have := h.b0; have := h.b8
  unfold codeB
  omega
theorem OkB.dm {x : TBar} (h : OkB x) : codeB x / 8 = x.A.toNat ∧ codeB x % 8 = x.B.toNat := by
  have := h.a0; have := h.a8; have := h.b0; have := h.b8
  unfold codeB
  omega
theorem OkB.inn {x : TBar} (h : OkB x) (X : Nat → Bool) : Sp.inn X (codeB x) = (X x.A.toNat && X x.B.toNat) := by
  unfold Sp.inn
  rw [h.dm.1, h.dm.2]
theorem su_mul (c : Nat) (f : Nat → Nat) : ∀ n, su (fun i => c * f i) n = c * su f n
  | 0 => by simp [su]
  | n + 1 => by
    show su (fun i => c * f i) n + c * f n = c * (su f n + f n)
    rw [su_mul c f n, Nat.mul_add]
theorem tails_sum (X : Nat → Bool) : ∀ T : List Int, (∀ t ∈ T, 0 ≤ t ∧ t < 8) → su (fun v => if X v then T.count (v : Int) else 0) 8 = T.countP fun t => X t.toNat
  | [], _ => by
    refine su_zero 8 fun v _ => ?_
    show (if X v then ([] : List Int).count (v : Int) else 0) = 0
    split <;> rfl
  | t :: T, h => by
    have ht := h t (List.mem_cons_self ..)
    rw [List.countP_cons, ← tails_sum X T fun s hs => h s (List.mem_cons_of_mem _ hs)]
    refine su_bump (j := t.toNat) 8 (by omega) ?_ (fun i _ hne => ?_)
    · show (if X t.toNat then (t :: T).count ((t.toNat : Nat) : Int) else 0) = _
      rw [Int.toNat_of_nonneg ht.1, List.count_cons_self]
      cases X t.toNat <;> simp
    · show (if X i then (t :: T).count (i : Int) else 0) = (if X i then T.count (i : Int) else 0)
      rw [List.count_cons_of_ne (by omega)]
section
variable {P : Int} {bars : List TBar} {k : Int} {m : Nat} {p : TPebbles}
theorem GB.ok (hg : GB P bars) {i : Nat} {x : TBar} (h : bars[i]? = some x) : OkB x := by
  have := hg.p8
  exact ⟨hg.a0 h, by have := hg.ap h; omega, hg.b0 h, by have := hg.bp h; omega, hg.ab h⟩
theorem PB.tail_in (hg : GB P bars) (hp : PB P bars k m p) {i : Nat} {t : Int} (h : p.Tails[i]? = some t) : i < p.Placed.length ∧ 0 ≤ t ∧ t < P := by
  have hi := (List.getElem?_eq_some_iff.1 h).1
  have htl := hp.tl
  have := hp.pbar_ok hg (i := i) (by omega)
  rcases hp.ends h with rfl | rfl
  · exact ⟨by omega, by omega, by omega⟩
  · exact ⟨by omega, by omega, by omega⟩
def inP (P : Int) (X : Nat → Bool) (v : Nat) : Bool := X v && decide ((v : Int) < P)
def freeOf (p : TPebbles) (v : Nat) : Nat := ((p.Free[v]?).getD 0).toNat
theorem PB.sum (hg : GB P bars) (hp : PB P bars k m p) (X : Nat → Bool) : su (fun v => if inP P X v then freeOf p v else 0) 8 + p.Tails.countP (fun t => X t.toNat) = k.toNat * size (inP P X) := by
  have h8 := hg.p8
  rw [← tails_sum X p.Tails fun t ht => by
    obtain ⟨i, hi⟩ := List.getElem?_of_mem ht
    have := hp.tail_in hg hi
    omega]
  unfold size
  rw [← su_mul, ← su_add]
  refine su_congr 8 fun v hv => ?_
  show (if inP P X v then freeOf p v else 0) + (if X v then p.Tails.count (v : Int) else 0) = k.toNat * (if inP P X v then 1 else 0)
  unfold inP
  cases hx : X v with
  | false => simp
  | true =>
    by_cases hvP : (v : Int) < P
    · obtain ⟨f, hf, _, f0, fk⟩ := hp.free_in (v := (v : Int)) (by omega) hvP
      rw [Int.toNat_natCast] at hf
      have := hp.fr hf
      unfold freeOf
      rw [hf, decide_eq_true hvP]
      simp
      omega
    · have : p.Tails.count (v : Int) = 0 := by
        rw [List.count_eq_zero]
        intro hm
        obtain ⟨i, hi⟩ := List.getElem?_of_mem hm
        have := hp.tail_in hg hi
        omega
      rw [this, decide_eq_false hvP]
      simp
end
end Go.Proofs.Ytghofbijdnenoaa
end
section
set_option linter.unusedVariables false
set_option linter.unusedSimpArgs false
set_option linter.unnecessarySimpa false
open Go Go.Fw Go.Sp
namespace Go.Proofs.Ytghofbijdnenoaa
def insB (x : TBar) : List TBar → List TBar
  | [] => [x]
  | y :: L => bif barGt y x then x :: y :: L else y :: insB x L
theorem insB_perm (x : TBar) : ∀ L, (insB x L).Perm (x :: L)
  | [] => List.Perm.refl _
  | y :: L => by
    unfold insB
    cases barGt y x with
    | true => exact List.Perm.refl _
    | false => exact ((insB_perm x L).cons y).trans (List.Perm.swap ..)
theorem insB_len (x : TBar) (L : List TBar) : (insB x L).length = L.length + 1 := (insB_perm x L).length_eq
theorem insB_split (x : TBar) : ∀ L : List TBar, (∃ j, j < L.length ∧ insB x L = L.take j ++ x :: L.drop j ∧ (∀ (i : Nat) (y : TBar), i < j → L[i]? = some y → barGt y x = false) ∧ ∀ y : TBar, L[j]? = some y → barGt y x = true) ∨ (insB x L = L ++ [x] ∧ ∀ (i : Nat) (y : TBar), L[i]? = some y → barGt y x = false)
  | [] => .inr ⟨rfl, fun i y h => by simp at h⟩
  | y :: L => by
    unfold insB
    cases hy : barGt y x with
    | true => exact .inl ⟨0, by simp, by simp, (fun i z h => by omega), fun z hz => by simp at hz; subst hz; exact hy⟩
    | false =>
      rcases insB_split x L with ⟨j, h1, h2, h3, h4⟩ | ⟨h1, h2⟩
      · refine .inl ⟨j + 1, by simpa using h1, by simp [h2], fun i z hi hz => ?_, fun z hz => h4 z (by simpa using hz)⟩
        cases i with
        | zero => simp at hz; subst hz; exact hy
        | succ i => exact h3 i z (by omega) (by simpa using hz)
      · refine .inr ⟨by simp [h1], fun i z hz => ?_⟩
        cases i with
        | zero => simp at hz; subst hz; exact hy
        | succ i => exact h2 i z (by simpa using hz)
theorem l2Put_eq (g : TGraph) (x : TBar) (h : g.Bars.length ≤ 1048576) : m_spec_l2Put g x = some ⟨g.Points, insB x g.Bars⟩ := by
  have hb : ∀ (k : Nat) (pl : Bool) (out : List TBar), k < g.Bars.length → out.length ≤ k + 1 → ∀ y, g.Bars[k]? = some y → m_spec_l2Put_L1 g x (pl, (k : Int), out) = some (.inl (bif !pl && barGt y x then (true, ((k + 1 : Nat) : Int), out ++ [x] ++ [y]) else (pl, ((k + 1 : Nat) : Int), out ++ [y]))) := fun k pl out hk ho y hy => by
    unfold m_spec_l2Put_L1
    simp only
    rw [decide_eq_true (show (k : Int) < (g.Bars.length : Int) by omega), cond_true]
    simp only [idx_of hy, l2After_eq, Option.bind_some, w64_succ (show k ≤ 1099511627776 by omega), Bool.not_not]
    rw [lim_ok (show out.length + [x].length ≤ 2147483648 by simp; omega)]
    cases pl with
    | true =>
      simp only [Bool.not_true, cond_false, Option.bind_some, Bool.false_and]
      rw [lim_ok (by simp; omega)]
      rfl
    | false =>
      cases barGt y x with
      | true =>
        simp only [Bool.not_false, cond_true, Option.bind_some, Bool.true_and]
        rw [lim_ok (by simp; omega)]
        rfl
      | false =>
        simp only [Bool.not_false, cond_true, Option.bind_some, Bool.and_false, cond_false]
        rw [lim_ok (by simp; omega)]
        rfl
  have he : ∀ (pl : Bool) (out : List TBar), m_spec_l2Put_L1 g x (pl, (g.Bars.length : Int), out) = some (.inr (pl, out)) := fun pl out => by
    unfold m_spec_l2Put_L1
    rw [decide_eq_false (by simp only; omega)]
    rfl
  unfold m_spec_l2Put
  rcases insB_split x g.Bars with ⟨j, h1, h2, h3, h4⟩ | ⟨h1, h2⟩
  · have hL : loopM (m_spec_l2Put_L1 g x) BIG (false, 0, []) = some (true, g.Bars.take j ++ x :: g.Bars.drop j) := by
      refine loopM_run (fun k => (decide (j < k), (k : Int), if j < k then g.Bars.take j ++ x :: (g.Bars.drop j).take (k - j) else g.Bars.take k)) g.Bars.length (by omega) (by simp) (fun k hk => ?_) ?_
      · have hy := List.getElem?_eq_getElem hk
        have htk : ∀ m, k = j + m → (g.Bars.drop j).take (m + 1) = (g.Bars.drop j).take m ++ [g.Bars[k]] := fun m hm => by
          subst hm
          rw [List.take_add_one, List.getElem?_drop, hy]
          rfl
        by_cases hjk : j < k
        · rw [decide_eq_true hjk, if_pos hjk, hb k true _ hk (by simp; omega) _ hy]
          simp only [Bool.not_true, Bool.false_and, cond_false]
          rw [decide_eq_true (show j < k + 1 by omega), if_pos (show j < k + 1 by omega), show k + 1 - j = (k - j) + 1 by omega, htk (k - j) (by omega)]
          simp
        · rw [decide_eq_false hjk, if_neg hjk, hb k false _ hk (by simp; omega) _ hy]
          by_cases hkj : k = j
          · subst hkj
            rw [h4 _ hy]
            simp only [Bool.not_false, Bool.true_and, cond_true]
            rw [decide_eq_true (show k < k + 1 by omega), if_pos (show k < k + 1 by omega), Nat.add_sub_cancel_left, htk 0 (by omega)]
            simp
          · rw [h3 k _ (by omega) hy]
            simp only [Bool.not_false, Bool.and_false, cond_false]
            rw [decide_eq_false (show ¬ j < k + 1 by omega), if_neg (show ¬ j < k + 1 by omega), take_get hk]
      · rw [decide_eq_true h1, if_pos h1, he, List.take_of_length_le (l := g.Bars.drop j) (by simp)]
    rw [hL, h2]
    rfl
  · have hL : loopM (m_spec_l2Put_L1 g x) BIG (false, 0, []) = some (false, g.Bars) := by
      refine loopM_run (fun k => (false, (k : Int), g.Bars.take k)) g.Bars.length (by omega) (by simp) (fun k hk => ?_) (by rw [he, List.take_length])
      have hy := List.getElem?_eq_getElem hk
      rw [hb k false _ hk (by simp; omega) _ hy, h2 k _ hy, take_get hk]
      rfl
    rw [hL, h1]
    simp only [Option.bind_some, Bool.not_false, cond_true]
    rw [lim_ok (by simp; omega)]
    rfl
def pr (P : Int) (L : List TBar) : Nat := (played P L 2 3 L.length).Placed.length
theorem GB.congr {P : Int} {L L' : List TBar} (h : GB P L) (h2 : ∀ x ∈ L', x ∈ L) (hl : L'.length ≤ 1000) : GB P L' := by
  have hm : ∀ {k : Nat} {x : TBar}, L'[k]? = some x → ∃ j, L[j]? = some x := fun hk => List.getElem?_of_mem (h2 _ (List.mem_of_getElem? hk))
  exact ⟨h.p1, h.p8, hl, fun hk => (hm hk).elim fun _ hj => h.a0 hj, fun hk => (hm hk).elim fun _ hj => h.ab hj, fun hk => (hm hk).elim fun _ hj => h.b0 hj, fun hk => (hm hk).elim fun _ hj => h.ap hj, fun hk => (hm hk).elim fun _ hj => h.bp hj⟩
structure InB (P : Int) (x : TBar) : Prop where
  a0 : 0 ≤ x.A
  ab : x.A ≠ x.B
  b0 : 0 ≤ x.B
  ap : x.A < P
  bp : x.B < P
theorem GB.of {P : Int} {L : List TBar} (p1 : 1 ≤ P) (p8 : P ≤ 8) (hl : L.length ≤ 1000) (h : ∀ x ∈ L, InB P x) : GB P L :=
  ⟨p1, p8, hl, fun hk => (h _ (List.mem_of_getElem? hk)).a0, fun hk => (h _ (List.mem_of_getElem? hk)).ab, fun hk => (h _ (List.mem_of_getElem? hk)).b0, fun hk => (h _ (List.mem_of_getElem? hk)).ap, fun hk => (h _ (List.mem_of_getElem? hk)).bp⟩
theorem GB.inb {P : Int} {L : List TBar} (h : GB P L) : ∀ x ∈ L, InB P x := fun x hx => by
  obtain ⟨j, hj⟩ := List.getElem?_of_mem hx
  exact ⟨h.a0 hj, h.ab hj, h.b0 hj, h.ap hj, h.bp hj⟩
def nrm (a b : Int) : TBar := ⟨if b < a then b else a, if a < b then b else a⟩
theorem GB.ins {P : Int} {L : List TBar} (h : GB P L) {x : TBar} (hx : InB P x) (hl : L.length ≤ 999) : GB P (insB x L) := GB.of h.p1 h.p8 (by rw [insB_len]; omega) fun y hy => by
  rcases List.mem_cons.1 ((insB_perm x L).mem_iff.1 hy) with h1 | h1
  · subst h1; exact hx
  · exact h.inb y h1
end Go.Proofs.Ytghofbijdnenoaa
end
section
set_option linter.unusedVariables false
set_option linter.unusedSimpArgs false
set_option linter.unnecessarySimpa false
open Go Go.Fw
namespace Go.Proofs.Ytghofbijdnenoaa
def Ex {α : Type} (o : Option α) (Q : α → Prop) : Prop := ∃ r, o = some r ∧ Q r
section
variable {α β : Type} {o x y : Option α} {f : α → Option β} {Q Q' : α → Prop} {R : β → Prop} {b : Bool}
theorem Ex.bind (h : Ex o Q) (hf : ∀ r, Q r → Ex (f r) R) : Ex (o.bind f) R := by
  obtain ⟨r, rfl, hq⟩ := h
  exact hf r hq
theorem Ex.ret {r : α} (h : Q r) : Ex (some r) Q := ⟨r, rfl, h⟩
theorem Ex.bif (h1 : b = true → Ex x Q) (h2 : b = false → Ex y Q) : Ex (bif b then x else y) Q := by
  cases b
  · exact h2 rfl
  · exact h1 rfl
theorem Ex.mono (h : Ex o Q) (hq : ∀ r, Q r → Q' r) : Ex o Q' := by
  obtain ⟨r, e, hr⟩ := h
  exact ⟨r, e, hq r hr⟩
theorem Ex.lim {n : Nat} {f : Unit → Option β} (hn : n ≤ 2147483648) (hf : Ex (f ()) R) : Ex ((Fw.lim n).bind f) R := by
  rw [lim_ok hn]
  exact hf
theorem Ex.nz {n : Int} {f : Unit → Option β} (hn : n ≠ 0) (hf : Ex (f ()) R) : Ex ((Fw.nz n).bind f) R := by
  unfold Fw.nz
  rw [if_pos hn]
  exact hf
theorem Ex.idx {l : List α} {i : Int} (h0 : 0 ≤ i) (h1 : i < (l.length : Int)) (hf : ∀ v, v ∈ l → Ex (f v) R) : Ex ((Fw.idx l i).bind f) R := by
  unfold Fw.idx
  rw [if_pos h0, List.getElem?_eq_getElem (by omega)]
  exact hf _ (List.getElem_mem _)
end
structure CO (c : Tl1Cur) : Prop where
  b : c.b.length ≤ 1048576
  i0 : 0 ≤ c.i
  i1 : c.i ≤ 1048576
theorem and255 (z : Int) : 0 ≤ bits .and .i64 z 255 ∧ bits .and .i64 z 255 ≤ 255 := by
  have h : (BitVec.ofInt 64 z &&& BitVec.ofInt 64 255).toNat ≤ 255 := by
    rw [BitVec.toNat_and]
    exact Nat.le_trans Nat.and_le_right (by decide)
  have e : bits .and .i64 z 255 = ((BitVec.ofInt 64 z &&& BitVec.ofInt 64 255).toNat : Int) := by
    show w64 ((BitVec.ofInt 64 z &&& BitVec.ofInt 64 255).toNat : Int) = _
    exact w64_small (by omega) (by omega)
  rw [e]
  omega
theorem new_ex {code : List Int} (h : code.length ≤ 1048576) : Ex (m_spec_l1New code) CO := by
  have hb : ∀ (k : Nat) (hh : Int), k < 4000 → k < code.length → ∃ h', m_spec_l1New_L1 code (hh, (k : Int)) = some (.inl (h', ((k + 1 : Nat) : Int))) := fun k hh h4 hk => by
    unfold m_spec_l1New_L1
    rw [decide_eq_true (by simp only; omega), decide_eq_true (by simp only; omega)]
    simp only [cond_true, Option.bind_some, idx_at hk, w64_succ (show k ≤ 1099511627776 by omega)]
    exact ⟨_, rfl⟩
  obtain ⟨r, hr, _⟩ := loop_inv (b := m_spec_l1New_L1 code) (s := (w64 (10101 + (code.length : Int)), 0)) (fun k s => s.2 = (k : Int)) (fun _ => True) (min code.length 4000) (by omega) rfl (fun k s hk hs => by
    obtain ⟨hh, i⟩ := s
    simp only at hs
    subst hs
    obtain ⟨h', e⟩ := hb k hh (by omega) (by omega)
    exact .inl ⟨_, e, rfl⟩) (fun s hs => by
    obtain ⟨hh, i⟩ := s
    simp only at hs
    subst hs
    refine ⟨hh, ?_, trivial⟩
    unfold m_spec_l1New_L1
    by_cases h4 : code.length < 4000
    · rw [decide_eq_false (by simp only; omega)]
      rfl
    · rw [decide_eq_false (show ¬ (hh, ((min code.length 4000 : Nat) : Int)).2 < 4000 by simp only; omega)]
      cases decide ((hh, ((min code.length 4000 : Nat) : Int)).2 < (code.length : Int)) <;> rfl)
  unfold m_spec_l1New
  rw [hr]
  exact ⟨_, rfl, h, Int.le_refl _, by simp⟩
theorem byte_ex {c : Tl1Cur} (h : CO c) : Ex (m_spec_l1Byte c) fun r => CO r.2 ∧ 0 ≤ r.1 ∧ r.1 ≤ 255 := by
  have hb := h.b
  have h0 := h.i0
  have h1 := h.i1
  unfold m_spec_l1Byte
  refine Ex.bind (Q := fun j => 0 ≤ j.1 ∧ j.1 ≤ 255 ∧ 0 ≤ j.2 ∧ j.2 ≤ 1048576) (Ex.bif (fun hd => ?_) (fun hd => ?_)) fun j hj => ?_
  · rw [decide_eq_true_eq] at hd
    refine Ex.idx h0 hd fun v _ => Ex.ret ?_
    have := and255 (w64 ((bits .and .i64 (bits .xor .i64 (shrI (w64 ((w64 (c.h * 6364136223846793005)) + 1442695040888963407)) 33) (shrI (w64 ((w64 (c.h * 6364136223846793005)) + 1442695040888963407)) 45)) 255) + (w64 v)))
    refine ⟨this.1, this.2, ?_, ?_⟩
    · simp only
      rw [w64_small (by omega) (by omega)]
      omega
    · simp only
      rw [w64_small (by omega) (by omega)]
      omega
  · have := and255 (bits .xor .i64 (shrI (w64 ((w64 (c.h * 6364136223846793005)) + 1442695040888963407)) 33) (shrI (w64 ((w64 (c.h * 6364136223846793005)) + 1442695040888963407)) 45))
    exact Ex.ret ⟨this.1, this.2, h0, h1⟩
  · exact Ex.ret ⟨⟨hb, hj.2.2.1, hj.2.2.2⟩, hj.1, hj.2.1⟩
theorem tmod_rng {x n : Int} (hx : 0 ≤ x) (hn : 0 < n) : 0 ≤ Int.tmod x n ∧ Int.tmod x n < n := ⟨Int.tmod_nonneg _ hx, Int.tmod_lt_of_pos _ hn⟩
theorem below_ex0 {c : Tl1Cur} (h : CO c) (n : Int) : Ex (m_spec_l1Below c n) fun r => CO r.2 ∧ 0 ≤ r.1 ∧ (0 < n → r.1 < n) ∧ (n ≤ 0 → r.1 = 0) := by
  unfold m_spec_l1Below
  refine Ex.bif (fun hd => Ex.ret ⟨h, Int.le_refl _, fun hn => ?_, fun _ => rfl⟩) (fun hd => ?_)
  · rw [decide_eq_true_eq] at hd
    omega
  · rw [decide_eq_false_iff_not] at hd
    refine Ex.bif (fun _ => ?_) (fun _ => ?_)
    · refine (byte_ex h).bind fun r hr => Ex.nz (by omega) (Ex.ret ⟨hr.1, ?_, fun hn => ?_, fun hn => absurd hn hd⟩)
      · exact (tmod_rng hr.2.1 (by omega)).1
      · exact (tmod_rng hr.2.1 hn).2
    · refine (byte_ex h).bind fun r1 h1 => (byte_ex h1.1).bind fun r2 h2 => (byte_ex h2.1).bind fun r3 h3 => (byte_ex h3.1).bind fun r4 h4 => Ex.nz (by omega) (Ex.ret ?_)
      obtain ⟨_, a0, a1⟩ := h1
      obtain ⟨_, b0, b1⟩ := h2
      obtain ⟨_, c0, c1⟩ := h3
      obtain ⟨h5, d0, d1⟩ := h4
      have e : w64 (w64 (w64 (w64 (r1.1 * 16777216) + w64 (r2.1 * 65536)) + w64 (r3.1 * 256)) + r4.1) = r1.1 * 16777216 + r2.1 * 65536 + r3.1 * 256 + r4.1 := by
        rw [w64_small (n := r1.1 * 16777216) (by omega) (by omega), w64_small (n := r2.1 * 65536) (by omega) (by omega), w64_small (n := r3.1 * 256) (by omega) (by omega), w64_small (n := r1.1 * 16777216 + r2.1 * 65536) (by omega) (by omega), w64_small (n := r1.1 * 16777216 + r2.1 * 65536 + r3.1 * 256) (by omega) (by omega), w64_small (by omega) (by omega)]
      have := tmod_rng (x := r1.1 * 16777216 + r2.1 * 65536 + r3.1 * 256 + r4.1) (n := n) (by omega) (by omega)
      simp only [e]
      exact ⟨h5, this.1, fun _ => this.2, fun hn => absurd hn hd⟩
theorem below_ex {c : Tl1Cur} (h : CO c) (n : Int) : Ex (m_spec_l1Below c n) fun r => CO r.2 ∧ 0 ≤ r.1 ∧ (0 < n → r.1 < n) := (below_ex0 h n).mono fun r hr => ⟨hr.1, hr.2.1, hr.2.2.1⟩
theorem once_ex {c : Tl1Cur} (h : CO c) (n : Int) : Ex (m_spec_l1Once c n) fun r => CO r.2 := by
  unfold m_spec_l1Once
  exact (below_ex h n).bind fun r hr => Ex.ret hr.1
theorem pick_ex {c : Tl1Cur} (h : CO c) (l : List Int) (hl : 0 < l.length) : Ex (m_spec_l1PickInt c l) fun r => CO r.2 ∧ r.1 ∈ l := by
  unfold m_spec_l1PickInt
  refine (below_ex h _).bind fun r hr => Ex.idx hr.2.1 (hr.2.2 (by omega)) fun v hv => Ex.ret ⟨hr.1, hv⟩
def InR (P : Int) (x : TBar) : Prop := 0 ≤ x.A ∧ x.A < P ∧ 0 ≤ x.B ∧ x.B < P
structure GI (g : TGraph) : Prop where
  p0 : 0 ≤ g.Points
  p8 : g.Points ≤ 8
  len : g.Bars.length ≤ 100
  inr : ∀ x ∈ g.Bars, InR g.Points x
theorem simple_ex {c : Tl1Cur} (h : CO c) {n : Int} (n0 : 0 ≤ n) (n8 : n ≤ 8) (odd : Int) : Ex (m_spec_l2Simple c n odd) fun r => CO r.2 ∧ GI r.1 ∧ r.1.Points = n ∧ r.1.Bars.length ≤ 24 := by
  let J : Tl1Cur → List TBar → Prop := fun c l => CO c ∧ l.length ≤ 24 ∧ ∀ x ∈ l, InR n x
  have hin : ∀ (a : Nat) (s1 : Int × List Int × Int × Int × List TBar), s1.1 = (a : Int) → (a : Int) < n → J ⟨s1.2.1, s1.2.2.1, s1.2.2.2.1⟩ s1.2.2.2.2 →
      Ex (loopM (m_spec_l2Simple_L4 n odd s1) BIG ((w64 (s1.1 + 1)), s1.2.1, s1.2.2.1, s1.2.2.2.1, s1.2.2.2.2)) fun r => r.1 = (a : Int) ∧ J ⟨r.2.1, r.2.2.1, r.2.2.2.1⟩ r.2.2.2.2 := by
    intro a s1 hs ha hJ
    refine loop_inv (fun k s => s.1 = ((a + 1 + k : Nat) : Int) ∧ J ⟨s.2.1, s.2.2.1, s.2.2.2.1⟩ s.2.2.2.2) _ (n.toNat - (a + 1)) (by omega) ⟨by simp only; rw [hs, w64_succ (by omega)], hJ⟩ (fun k s hk hI => ?_) (fun s hI => ?_)
    · obtain ⟨i, b, ci, hh, l⟩ := s
      obtain ⟨rfl, hc, hl, hr⟩ := hI
      change l.length ≤ 24 at hl
      change ∀ x ∈ l, InR n x at hr
      obtain ⟨r, hr1, hr2⟩ := below_ex hc 10
      left
      unfold m_spec_l2Simple_L4
      rw [decide_eq_true (by simp only; omega), cond_true]
      simp only [hr1, Option.bind_some]
      have hnew : ∀ x ∈ l ++ [(⟨s1.1, ((a + 1 + k : Nat) : Int)⟩ : TBar)], InR n x := fun x hx => by
        rcases List.mem_append.1 hx with h1 | h1
        · exact hr x h1
        · rw [List.mem_singleton] at h1
          subst h1
          rw [hs]
          exact ⟨by simp only; omega, by simp only; omega, by simp only; omega, by simp only; omega⟩
      rw [lim_ok (show l.length + [(⟨s1.1, ((a + 1 + k : Nat) : Int)⟩ : TBar)].length ≤ 2147483648 by simp; omega), w64_succ (show a + 1 + k ≤ 1099511627776 by omega)]
      cases h1 : decide (r.1 < odd) with
      | false => exact ⟨_, rfl, rfl, hr2.1, hl, hr⟩
      | true =>
        simp only [cond_true, Option.bind_some]
        cases h2 : decide ((l.length : Int) < 24) with
        | false => exact ⟨_, rfl, rfl, hr2.1, hl, hr⟩
        | true =>
          rw [decide_eq_true_eq] at h2
          exact ⟨_, rfl, rfl, hr2.1, by simp; omega, hnew⟩
    · obtain ⟨i, b, ci, hh, l⟩ := s
      obtain ⟨rfl, hJ⟩ := hI
      refine ⟨(s1.1, b, ci, hh, l), ?_, hs, hJ⟩
      unfold m_spec_l2Simple_L4
      rw [decide_eq_false (by simp only; omega)]
      rfl
  unfold m_spec_l2Simple
  refine Ex.bind (Q := fun r => J ⟨r.1, r.2.1, r.2.2.1⟩ r.2.2.2) ?_ fun r hr => Ex.ret ⟨hr.1, ⟨n0, n8, Nat.le_trans hr.2.1 (by omega), hr.2.2⟩, rfl, hr.2.1⟩
  refine loop_inv (fun k s => s.1 = (k : Int) ∧ J ⟨s.2.1, s.2.2.1, s.2.2.2.1⟩ s.2.2.2.2) _ n.toNat (by omega) ⟨rfl, h, by simp, fun x hx => by cases hx⟩ (fun k s hk hI => ?_) (fun s hI => ?_)
  · obtain ⟨r, hr1, hr2, hr3⟩ := hin k s hI.1 (by omega) hI.2
    left
    unfold m_spec_l2Simple_L3
    rw [decide_eq_true (by rw [hI.1]; omega), cond_true, hr1]
    simp only [Option.bind_some]
    exact ⟨_, rfl, by simp only; rw [hr2, w64_succ (by omega)], hr3⟩
  · refine ⟨_, ?_, hI.2⟩
    unfold m_spec_l2Simple_L3
    rw [decide_eq_false (by rw [hI.1]; omega)]
    rfl
def addB (g : TGraph) (a b : Int) : TGraph := bif vG g && decide (0 ≤ a) && decide (0 ≤ b) && decide (a < g.Points) && decide (b < g.Points) && !(a == b) && decide (g.Bars.length < 24) then ⟨g.Points, insB (nrm a b) g.Bars⟩ else g
def addOk (g : TGraph) (a b : Int) : Bool := vG g && decide (0 ≤ a) && decide (0 ≤ b) && decide (a < g.Points) && decide (b < g.Points) && !(a == b) && decide (g.Bars.length < 24)
theorem addS_eq (g : TGraph) (h : g.Bars.length ≤ 1048576) (a b : Int) : m_spec_AddBar g a b = some (addB g a b, addOk g a b) := by
  unfold m_spec_AddBar addB addOk
  rw [isGraphS_eq g (by omega), l2Copy_eq g (by omega), show TBar.mk (if b < a then b else a) (if a < b then b else a) = nrm a b from rfl, l2Put_eq g _ h]
  have e1 : ∀ x : Int, decide (x < 0) = !decide (0 ≤ x) := fun x => by rw [← decide_not, decide_eq_decide]; omega
  have e2 : ∀ x : Int, decide (g.Points ≤ x) = !decide (x < g.Points) := fun x => by rw [← decide_not, decide_eq_decide]; omega
  have e3 : decide (24 ≤ (g.Bars.length : Int)) = !decide (g.Bars.length < 24) := by rw [← decide_not, decide_eq_decide]; omega
  rw [e1 a, e1 b, e2 a, e2 b, e3]
  cases vG g
  · rfl
  · cases decide (0 ≤ a)
    · rfl
    · cases decide (0 ≤ b)
      · rfl
      · cases decide (a < g.Points)
        · rfl
        · cases decide (b < g.Points)
          · rfl
          · cases a == b
            · cases decide (g.Bars.length < 24) <;> rfl
            · rfl
theorem addB_pts (g : TGraph) (a b : Int) : (addB g a b).Points = g.Points := by
  unfold addB
  cases vG g && decide (0 ≤ a) && decide (0 ≤ b) && decide (a < g.Points) && decide (b < g.Points) && !(a == b) && decide (g.Bars.length < 24) <;> rfl
theorem addB_len (g : TGraph) (a b : Int) : (addB g a b).Bars.length ≤ g.Bars.length + 1 ∧ g.Bars.length ≤ (addB g a b).Bars.length := by
  unfold addB
  cases vG g && decide (0 ≤ a) && decide (0 ≤ b) && decide (a < g.Points) && decide (b < g.Points) && !(a == b) && decide (g.Bars.length < 24)
  · exact ⟨by simp, by simp⟩
  · simp only [cond_true, insB_len]
    omega
theorem addB_inr {g : TGraph} (h : ∀ x ∈ g.Bars, InR g.Points x) (a b : Int) : ∀ x ∈ (addB g a b).Bars, InR g.Points x := by
  unfold addB
  cases hb : vG g && decide (0 ≤ a) && decide (0 ≤ b) && decide (a < g.Points) && decide (b < g.Points) && !(a == b) && decide (g.Bars.length < 24)
  · exact h
  · simp only [Bool.and_eq_true, decide_eq_true_eq] at hb
    intro x hx
    rcases List.mem_cons.1 ((insB_perm _ _).mem_iff.1 hx) with rfl | h1
    · unfold nrm InR
      simp only
      refine ⟨?_, ?_, ?_, ?_⟩ <;> split <;> omega
    · exact h x h1
theorem insB_inr {P : Int} {L : List TBar} {y : TBar} (h : ∀ x ∈ L, InR P x) (hy : InR P y) : ∀ x ∈ insB y L, InR P x := fun x hx => by
  rcases List.mem_cons.1 ((insB_perm _ _).mem_iff.1 hx) with rfl | h1
  · exact hy
  · exact h x h1
def remB (g : TGraph) (k : Int) : TGraph := bif vG g && decide (0 ≤ k) && decide (k < (g.Bars.length : Int)) then ⟨g.Points, g.Bars.take k.toNat ++ g.Bars.drop (k.toNat + 1)⟩ else g
theorem remS_ex (g : TGraph) (h : g.Bars.length ≤ 1048576) (k : Int) (hk : k ≤ 1048576) : Ex (m_spec_RemoveBar g k) fun r => r.1 = remB g k := by
  unfold m_spec_RemoveBar remB
  rw [isGraphS_eq g (by omega), l2Copy_eq g (by omega)]
  have e1 : decide (k < 0) = !decide (0 ≤ k) := by rw [← decide_not, decide_eq_decide]; omega
  have e2 : decide ((g.Bars.length : Int) ≤ k) = !decide (k < (g.Bars.length : Int)) := by rw [← decide_not, decide_eq_decide]; omega
  rw [e1, e2]
  cases vG g
  · exact Ex.ret rfl
  · cases h1 : decide (0 ≤ k)
    · exact Ex.ret rfl
    · cases h2 : decide (k < (g.Bars.length : Int))
      · exact Ex.ret rfl
      · rw [decide_eq_true_eq] at h1 h2
        have s1 : slc g.Bars 0 k = some ((g.Bars.take k.toNat).drop 0) := by unfold slc; rw [if_pos (by omega)]; rfl
        have ew : w64 (k + 1) = k + 1 := w64_small (by omega) (by omega)
        have s2 : slc g.Bars (k + 1) (g.Bars.length : Int) = some ((g.Bars.take g.Bars.length).drop (k + 1).toNat) := by unfold slc; rw [if_pos (by omega)]; rfl
        simp only [Option.bind_some, Bool.not_true, cond_false, s1, ew, s2]
        rw [lim_ok (by simp; omega), Option.bind_some, lim_ok (by simp; omega)]
        refine Ex.ret ?_
        simp only [Bool.and_self, cond_true, List.nil_append, List.drop_zero, List.take_length]
        rw [show (k + 1).toNat = k.toNat + 1 by omega]
theorem remB_ok (g : TGraph) (k : Int) : (remB g k).Points = g.Points ∧ (remB g k).Bars.length ≤ g.Bars.length ∧ (∀ x ∈ (remB g k).Bars, x ∈ g.Bars) := by
  unfold remB
  cases vG g && decide (0 ≤ k) && decide (k < (g.Bars.length : Int))
  · exact ⟨rfl, Nat.le_refl _, fun x hx => hx⟩
  · refine ⟨rfl, ?_, fun x hx => ?_⟩
    · simp only [cond_true, List.length_append, List.length_take, List.length_drop]
      omega
    · rcases List.mem_append.1 hx with h1 | h1
      · exact List.mem_of_mem_take h1
      · exact List.mem_of_mem_drop h1
theorem third_ex {c : Tl1Cur} (h : CO c) {n w : Int} (hn : 0 < n) (hw : 0 ≤ w ∧ w < n) (x : TBar) : Ex (m_spec_l6Third c n x w) fun r => CO r.2 ∧ 0 ≤ r.1 ∧ r.1 < n := by
  unfold m_spec_l6Third
  refine (below_ex h n).bind fun r hr => Ex.bind (Q := fun _ => True) (Ex.bif (fun _ => Ex.ret trivial) (fun _ => Ex.ret trivial)) fun j _ => Ex.bif (fun _ => Ex.ret ⟨hr.1, hw.1, hw.2⟩) (fun _ => Ex.ret ⟨hr.1, hr.2.1, hr.2.2 hn⟩)
theorem laman7_ex (s3 : Int × List Int × Int × Int × Int × List TBar) (r : Int × Tl1Cur) (x : TBar) : Ex (loopM (m_spec_l6Laman_L7 s3 r x) BIG 0) fun b => b.1 = s3.1 ∧ b.2.1 = r.1 ∧ 0 ≤ b.2.2.1 ∧ b.2.2.1 ≤ 2 ∧ b.2.2.2.1 = r.2.b ∧ b.2.2.2.2.1 = r.2.i ∧ b.2.2.2.2.2.1 = r.2.h ∧ b.2.2.2.2.2.2.1 = s3.2.2.2.2.1 ∧ b.2.2.2.2.2.2.2.1 = s3.2.2.2.2.2 ∧ b.2.2.2.2.2.2.2.2 = (x.A, x.B) := by
  refine loop_inv (fun k s => s = (k : Int) ∧ ∀ j : Nat, j < k → (j : Int) = x.A ∨ (j : Int) = x.B) _ 3 (by omega) ⟨rfl, fun j hj => by omega⟩ (fun k s hk hI => ?_) (fun s hI => ?_)
  · obtain ⟨rfl, hI⟩ := hI
    unfold m_spec_l6Laman_L7
    by_cases hA : (k : Int) = x.A ∨ (k : Int) = x.B
    · left
      refine ⟨((k + 1 : Nat) : Int), ?_, rfl, fun j hj => ?_⟩
      · have e : ((bif (k : Int) == x.A then some true else some ((k : Int) == x.B)) : Option Bool) = some true := by
          rcases hA with h | h
          · rw [h, beq_self_eq_true]; rfl
          · cases (k : Int) == x.A
            · rw [h, beq_self_eq_true]; rfl
            · rfl
        rw [e, Option.bind_some, cond_true, w64_succ (by omega)]
      · by_cases hjk : j = k
        · subst hjk; exact hA
        · exact hI j (by omega)
    · right
      have e : ((bif (k : Int) == x.A then some true else some ((k : Int) == x.B)) : Option Bool) = some false := by
        have h1 : ((k : Int) == x.A) = false := by simp; exact fun e => hA (.inl e)
        have h2 : ((k : Int) == x.B) = false := by simp; exact fun e => hA (.inr e)
        rw [h1, h2]; rfl
      rw [e, Option.bind_some, cond_false]
      exact ⟨_, rfl, rfl, rfl, by simp only; omega, by simp only; omega, rfl, rfl, rfl, rfl, rfl, rfl⟩
  · obtain ⟨rfl, hI⟩ := hI
    have h0 := hI 0 (by omega)
    have h1 := hI 1 (by omega)
    have h2 := hI 2 (by omega)
    omega
theorem laman_ex {c : Tl1Cur} (h : CO c) {n : Int} (n1 : 1 ≤ n) (n6 : n ≤ 6) : Ex (m_spec_l6Laman c n) fun r => CO r.2 ∧ GI r.1 ∧ r.1.Points = n := by
  unfold m_spec_l6Laman
  refine Ex.bif (fun hd => Ex.ret ⟨h, ⟨by simp only; omega, by simp only; omega, by simp, fun x hx => by cases hx⟩, rfl⟩) (fun hd => ?_)
  rw [decide_eq_false_iff_not] at hd
  rw [l2Put_eq ⟨n, []⟩ _ (by simp)]
  simp only [Option.bind_some]
  refine Ex.bind (Q := fun b => CO ⟨b.1, b.2.1, b.2.2.1⟩ ∧ b.2.2.2.1 = n ∧ b.2.2.2.2.length ≤ 100 ∧ ∀ x ∈ b.2.2.2.2, InR n x) ?_ fun b hb => Ex.ret ⟨hb.1, ⟨by simp only; rw [hb.2.1]; omega, by simp only; rw [hb.2.1]; omega, hb.2.2.1, by rw [hb.2.1]; exact hb.2.2.2⟩, hb.2.1⟩
  refine loop_inv (fun k s => s.1 = ((k + 2 : Nat) : Int) ∧ CO ⟨s.2.1, s.2.2.1, s.2.2.2.1⟩ ∧ s.2.2.2.2.1 = n ∧ 0 < s.2.2.2.2.2.length ∧ s.2.2.2.2.2.length ≤ 1 + 3 * k ∧ ∀ x ∈ s.2.2.2.2.2, InR n x) _ (n.toNat - 2) (by omega) ⟨rfl, h, rfl, by simp [insB], by simp [insB], fun x hx => by
    simp only [insB, List.mem_singleton] at hx
    subst hx
    exact ⟨by simp, by simp only; omega, by simp, by simp only; omega⟩⟩ (fun k s hk hI => ?_) (fun s hI => ?_)
  · obtain ⟨v, b, i, hh, p, l⟩ := s
    obtain ⟨rfl, hc, hp, hl0, hl, hin⟩ := hI
    change p = n at hp
    subst hp
    change 0 < l.length at hl0
    change l.length ≤ 1 + 3 * k at hl
    change ∀ x ∈ l, InR p x at hin
    left
    have key : Ex (m_spec_l6Laman_L5 p (((k + 2 : Nat) : Int), b, i, hh, p, l)) fun r => ∃ t, r = .inl t ∧ t.1 = ((k + 1 + 2 : Nat) : Int) ∧ CO ⟨t.2.1, t.2.2.1, t.2.2.2.1⟩ ∧ t.2.2.2.2.1 = p ∧ 0 < t.2.2.2.2.2.length ∧ t.2.2.2.2.2.length ≤ 1 + 3 * (k + 1) ∧ ∀ x ∈ t.2.2.2.2.2, InR p x := by
      unfold m_spec_l6Laman_L5
      rw [decide_eq_true (show ((k + 2 : Nat) : Int) < p by omega), cond_true]
      simp only
      refine (below_ex hc _).bind fun r1 h1 => ?_
      have a1 := h1.2.2 (by omega)
      refine (below_ex h1.1 _).bind fun r2 h2 => Ex.nz (by omega) ?_
      rw [w64_small (n := ((k + 2 : Nat) : Int) - 1) (by omega) (by omega)] at h2
      have a2 := h2.2.2 (by omega)
      have a3 := h1.2.1
      have a4 := h2.2.1
      refine Ex.bind (Q := fun j => CO ⟨j.2.1, j.2.2.1, j.2.2.2⟩ ∧ (j.1 = true → 2 < k + 2)) ?_ fun j hj => ?_
      · refine (once_ex h2.1 2).bind fun r3 h3 => Ex.bif (fun _ => Ex.ret ⟨h3, fun hd => ?_⟩) (fun _ => Ex.ret ⟨h3, fun hd => by cases hd⟩)
        rw [decide_eq_true_eq] at hd
        omega
      · refine Ex.bind (Q := fun t => t.1 = ((k + 2 : Nat) : Int) ∧ CO ⟨t.2.1, t.2.2.1, t.2.2.2.1⟩ ∧ t.2.2.2.2.1 = p ∧ 0 < t.2.2.2.2.2.length ∧ t.2.2.2.2.2.length ≤ 1 + 3 * (k + 1) ∧ ∀ x ∈ t.2.2.2.2.2, InR p x) (Ex.bif (fun hj1 => ?_) (fun hj1 => ?_)) fun t ht => Ex.ret ⟨_, rfl, ?_, ht.2⟩
        · have hk2 := hj.2 hj1
          refine (below_ex hj.1 _).bind fun r4 h4 => Ex.idx h4.2.1 (h4.2.2 (by omega)) fun x hx => (laman7_ex _ _ x).bind fun bb hb => ?_
          obtain ⟨w1, w2, w3, w4, w5, w6, w7, w8, w9, w10⟩ := hb
          obtain ⟨e1, e2, e3, e4, e5, e6, e7, e8, e9⟩ := bb
          obtain ⟨e9, e10⟩ := e9
          simp only [Prod.mk.injEq] at w1 w2 w3 w4 w5 w6 w7 w8 w9 w10
          obtain ⟨rfl, rfl⟩ := w10
          subst w1 w2 w5 w6 w7 w8 w9
          have hxi := hin x hx
          have h4' := h4.2.2 (by omega)
          refine (third_ex h4.1 (n := ((k + 2 : Nat) : Int)) (by omega) ⟨w3, by omega⟩ x).bind fun r5 h5 => (remS_ex ⟨e7, e8⟩ (by simp only; omega) r4.1 (by omega)).bind fun r6 h6 => ?_
          obtain ⟨q1, q2, q3⟩ := remB_ok ⟨e7, e8⟩ r4.1
          rw [← h6] at q1 q2 q3
          simp only at q1 q2 q3
          have p1 : InR e7 ⟨x.A, ((k + 2 : Nat) : Int)⟩ := ⟨hxi.1, hxi.2.1, by simp only; omega, by simp only; omega⟩
          have p2 : InR e7 ⟨x.B, ((k + 2 : Nat) : Int)⟩ := ⟨hxi.2.2.1, hxi.2.2.2, by simp only; omega, by simp only; omega⟩
          have p3 : InR e7 ⟨r5.1, ((k + 2 : Nat) : Int)⟩ := ⟨h5.2.1, by have := h5.2.2; simp only; omega, by simp only; omega, by simp only; omega⟩
          have hin6 : ∀ y ∈ r6.1.Bars, InR e7 y := fun y hy => hin y (q3 y hy)
          rw [l2Put_eq r6.1 _ (by omega)]
          simp only [Option.bind_some]
          rw [l2Put_eq _ _ (by simp only [insB_len]; omega)]
          simp only [Option.bind_some]
          rw [l2Put_eq _ _ (by simp only [insB_len]; omega)]
          refine Ex.ret ⟨rfl, h5.1, q1, ?_, ?_, insB_inr (insB_inr (insB_inr hin6 p1) p2) p3⟩
          · simp only [insB_len]; omega
          · simp only [insB_len]; omega
        · have hm := tmod_rng (x := r1.1 + 1 + r2.1) (n := ((k + 2 : Nat) : Int)) (by omega) (by omega)
          rw [w64_small (n := r1.1 + 1) (by omega) (by omega), w64_small (n := r1.1 + 1 + r2.1) (by omega) (by omega)]
          rw [l2Put_eq ⟨p, l⟩ _ (by simp only; omega)]
          simp only [Option.bind_some]
          rw [l2Put_eq _ _ (by simp only [insB_len]; omega)]
          refine Ex.ret ⟨rfl, hj.1, rfl, ?_, ?_, insB_inr (insB_inr hin ⟨h1.2.1, by simp only; omega, by simp only; omega, by simp only; omega⟩) ⟨hm.1, by have := hm.2; simp only; omega, by simp only; omega, by simp only; omega⟩⟩
          · simp only [insB_len]; omega
          · simp only [insB_len]; omega
        · simp only
          rw [ht.1, w64_succ (by omega)]
    obtain ⟨r, e, t, rfl, ht⟩ := key
    exact ⟨t, e, ht⟩
  · obtain ⟨v, b, i, hh, p, l⟩ := s
    obtain ⟨rfl, hc, hp, hl0, hl, hin⟩ := hI
    change p = n at hp
    subst hp
    refine ⟨(b, i, hh, p, l), ?_, hc, rfl, ?_, hin⟩
    · unfold m_spec_l6Laman_L5
      rw [decide_eq_false (by simp only; omega)]
      rfl
    · simp only at hl ⊢
      omega
end Go.Proofs.Ytghofbijdnenoaa
end
section
set_option linter.unusedVariables false
set_option linter.unusedSimpArgs false
set_option linter.unnecessarySimpa false
open Go Go.Fw
namespace Go.Proofs.Ytghofbijdnenoaa
def listed (S : List Bool) : List Int := pieces (fun k => bif (S[k]?).getD false then [(k : Int)] else []) S.length
end Go.Proofs.Ytghofbijdnenoaa
end
section
set_option linter.unusedVariables false
set_option linter.unusedSimpArgs false
set_option linter.unnecessarySimpa false
open Go Go.Fw
namespace Go.Proofs.Ytghofbijdnenoaa
theorem Ex.if {α : Type} {b : Prop} [Decidable b] {x y : Option α} {Q : α → Prop} (h1 : b → Ex x Q) (h2 : ¬ b → Ex y Q) : Ex (if b then x else y) Q := by
  split
  · exact h1 ‹_›
  · exact h2 ‹_›
structure FS (f : TFramework) : Prop where
  b : f.Graph.Bars.length ≤ 200
  p : f.Places.length ≤ 8
theorem of_ex {c : Tl1Cur} (h : CO c) {g : TGraph} (hg : GI g) : Ex (m_spec_l10Of c g) fun r => CO r.2 ∧ FS r.1 ∧ (r.1.Places.length : Int) = g.Points ∧ r.1.Graph.Points = g.Points := by
  have p0 := hg.p0
  have p8 := hg.p8
  have hl := hg.len
  unfold m_spec_l10Of
  refine Ex.bind (Q := fun b => CO ⟨b.1, b.2.1, b.2.2.1⟩ ∧ (b.2.2.2.length : Int) = g.Points) ?_ fun b hb => ?_
  · refine loop_inv (fun k s => s.1 = (k : Int) ∧ CO ⟨s.2.1, s.2.2.1, s.2.2.2.1⟩ ∧ s.2.2.2.2.length = k) _ g.Points.toNat (by omega) ⟨rfl, h, rfl⟩ (fun k s hk hI => ?_) (fun s hI => ?_)
    · obtain ⟨i, b, ci, hh, l⟩ := s
      obtain ⟨rfl, hc, hll⟩ := hI
      change l.length = k at hll
      obtain ⟨u, hu1, hu2⟩ := below_ex hc 5
      obtain ⟨v, hv1, hv2⟩ := below_ex hu2.1 5
      left
      unfold m_spec_l10Of_L1
      rw [decide_eq_true (by simp only; omega), cond_true]
      simp only [hu1, hv1, Option.bind_some]
      rw [lim_ok (by simp; omega), Option.bind_some]
      exact ⟨_, rfl, w64_succ (by omega), hv2.1, by simp [hll]⟩
    · obtain ⟨i, b, ci, hh, l⟩ := s
      obtain ⟨rfl, hc, hll⟩ := hI
      change l.length = _ at hll
      refine ⟨(b, ci, hh, l), ?_, hc, by simp only; omega⟩
      unfold m_spec_l10Of_L1
      rw [decide_eq_false (by simp only; omega)]
      rfl
  · refine Ex.bind (Q := fun r => r.1 = b.1 ∧ r.2.1 = b.2.1 ∧ r.2.2.1 = b.2.2.1 ∧ r.2.2.2.1.length ≤ 100 ∧ r.2.2.2.2 = b.2.2.2) ?_ fun r hr => Ex.ret ⟨by rw [hr.1, hr.2.1, hr.2.2.1]; exact hb.1, ⟨by have := hr.2.2.2.1; show r.2.2.2.1.length ≤ 200; omega, by show r.2.2.2.2.length ≤ 8; rw [hr.2.2.2.2]; omega⟩, by show ((r.2.2.2.2).length : Int) = _; rw [hr.2.2.2.2]; exact hb.2, rfl⟩
    refine loop_inv (fun k s => s.1 = (k : Int) ∧ s.2.length ≤ k) _ g.Bars.length (by omega) ⟨rfl, by simp⟩ (fun k s hk hI => ?_) (fun s hI => ?_)
    · obtain ⟨i, o⟩ := s
      obtain ⟨rfl, ho⟩ := hI
      change o.length ≤ k at ho
      have hx := List.getElem?_eq_getElem hk
      obtain ⟨a0, a1, b0, b1⟩ := hg.inr _ (List.getElem_mem hk)
      have key : Ex (m_spec_l10Of_L2 g b ((k : Int), o)) fun r => ∃ t, r = .inl t ∧ t.1 = ((k + 1 : Nat) : Int) ∧ t.2.length ≤ k + 1 := by
        unfold m_spec_l10Of_L2
        rw [decide_eq_true (by simp only; omega), cond_true]
        simp only [idx_of hx, Option.bind_some]
        refine Ex.bind (Q := fun _ => True) (Ex.idx a0 (by omega) fun u _ => Ex.idx b0 (by omega) fun v _ => Ex.bif (fun _ => Ex.bif (fun _ => Ex.ret trivial) (fun hk0 => ?_)) (fun _ => Ex.ret trivial)) fun j _ => ?_
        · have hk0' : k ≠ 0 := fun e => by subst e; simp at hk0
          refine Ex.idx ?_ ?_ fun w _ => Ex.ret trivial
          · rw [w64_small (by omega) (by omega)]; omega
          · rw [w64_small (by omega) (by omega)]; omega
        · refine Ex.bind (Q := fun l => l.length ≤ k + 1) (Ex.bif (fun _ => Ex.lim (by simp; omega) (Ex.ret (by simp; omega))) (fun _ => Ex.ret (by omega))) fun l hl => Ex.ret ⟨_, rfl, ?_, hl⟩
          simp only
          rw [w64_succ (by omega)]
      obtain ⟨r, e, t, rfl, ht⟩ := key
      exact .inl ⟨t, e, ht⟩
    · obtain ⟨i, o⟩ := s
      obtain ⟨rfl, ho⟩ := hI
      change o.length ≤ _ at ho
      refine ⟨(b.1, b.2.1, b.2.2.1, o, b.2.2.2), ?_, rfl, rfl, rfl, by simp only; omega, rfl⟩
      unfold m_spec_l10Of_L2
      rw [decide_eq_false (by simp only; omega)]
      rfl
theorem addB_GI {g : TGraph} (hg : GI g) (hl : g.Bars.length ≤ 99) (a b : Int) : GI (addB g a b) := by
  have h1 := addB_pts g a b
  have h2 := addB_len g a b
  refine ⟨by rw [h1]; exact hg.p0, by rw [h1]; exact hg.p8, by omega, ?_⟩
  rw [h1]
  exact addB_inr hg.inr a b
theorem framework_ex {c : Tl1Cur} (h : CO c) : Ex (m_spec_l10Framework c) fun r => CO r.2 ∧ FS r.1 ∧ 2 ≤ r.1.Places.length := by
  unfold m_spec_l10Framework
  refine (below_ex h 3).bind fun r1 h1 => Ex.bif (fun _ => ?_) (fun _ => Ex.bif (fun _ => ?_) (fun _ => ?_))
  · refine (below_ex h1.1 5).bind fun r2 h2 => ?_
    have a := h2.2.2 (by omega)
    have a0 := h2.2.1
    rw [w64_small (by omega) (by omega)]
    refine (simple_ex h2.1 (by omega) (by omega) _).bind fun r3 h3 => (of_ex h3.1 h3.2.1).bind fun r4 h4 => Ex.ret ⟨h4.1, h4.2.1, ?_⟩
    have := h4.2.2.1
    have := h3.2.2.1
    simp only
    omega
  · refine (below_ex h1.1 4).bind fun r2 h2 => ?_
    have a := h2.2.2 (by omega)
    have a0 := h2.2.1
    rw [w64_small (by omega) (by omega)]
    refine (laman_ex h2.1 (by omega) (by omega)).bind fun r3 h3 => (below_ex h3.1 _).bind fun r4 h4 => (below_ex h4.1 _).bind fun r5 h5 => ?_
    have hl := h3.2.1.len
    rw [addS_eq r3.1 (by omega)]
    have hgi : GI (addB r3.1 r4.1 r5.1) := by
      by_cases h99 : r3.1.Bars.length ≤ 99
      · exact addB_GI h3.2.1 h99 _ _
      · have : addB r3.1 r4.1 r5.1 = r3.1 := by
          unfold addB
          rw [decide_eq_false (show ¬ r3.1.Bars.length < 24 by omega), Bool.and_false]
          rfl
        rw [this]
        exact h3.2.1
    simp only [Option.bind_some]
    refine (of_ex h5.1 hgi).bind fun r6 h6 => Ex.ret ⟨h6.1, h6.2.1, ?_⟩
    have := h6.2.2.1
    have e := addB_pts r3.1 r4.1 r5.1
    have := h3.2.2
    simp only
    omega
  · refine (below_ex h1.1 5).bind fun r2 h2 => ?_
    have a := h2.2.2 (by omega)
    have a0 := h2.2.1
    rw [w64_small (by omega) (by omega)]
    refine (laman_ex h2.1 (by omega) (by omega)).bind fun r3 h3 => (of_ex h3.1 h3.2.1).bind fun r4 h4 => Ex.ret ⟨h4.1, h4.2.1, ?_⟩
    have := h4.2.2.1
    have := h3.2.2
    simp only
    omega
theorem any10_ex {c : Tl1Cur} (h : CO c) : Ex (m_spec_l10Any c) fun r => CO r.2 ∧ FS r.1 := by
  unfold m_spec_l10Any
  refine (framework_ex h).bind fun r1 h1 => (below_ex h1.1 14).bind fun r2 h2 => ?_
  have hp := h1.2.1.p
  have h2p := h1.2.2
  refine Ex.bind (Q := fun j => CO ⟨j.1, j.2.1, j.2.2.1⟩ ∧ j.2.2.2.length ≤ 8) (Ex.bif (fun _ => ?_) (fun _ => Ex.bif (fun _ => ?_) (fun _ => ?_))) fun j hj => Ex.ret ⟨hj.1, h1.2.1.b, hj.2⟩
  · exact (pick_ex h2.1 _ (by simp)).bind fun r3 h3 => Ex.idx (by omega) (by omega) fun v _ => Ex.ret ⟨h3.1, by simp; omega⟩
  · have s : slc r1.1.Places 1 (r1.1.Places.length : Int) = some ((r1.1.Places.take r1.1.Places.length).drop 1) := by
      unfold slc
      rw [if_pos (by omega)]
      rfl
    rw [s]
    exact Ex.ret ⟨h2.1, by simp; omega⟩
  · exact Ex.ret ⟨h2.1, hp⟩
theorem countS_ex (g : TGraph) (h : g.Bars.length ≤ 1048576) (a b : Int) : Ex (m_spec_CountBar g a b) fun _ => True := by
  unfold m_spec_CountBar
  refine Ex.bind (Q := fun _ => True) ?_ fun r _ => Ex.ret trivial
  refine loop_inv (fun k s => s.2 = (k : Int)) _ g.Bars.length (by omega) rfl (fun k s hk hI => ?_) (fun s hI => ?_)
  · obtain ⟨n, i⟩ := s
    change i = (k : Int) at hI
    subst hI
    have hx := List.getElem?_eq_getElem hk
    have key : Ex (m_spec_CountBar_L1 g a b (n, (k : Int))) fun r => ∃ t, r = .inl t ∧ t.2 = ((k + 1 : Nat) : Int) := by
      unfold m_spec_CountBar_L1
      rw [decide_eq_true (by simp only; omega), cond_true]
      simp only [idx_of hx, Option.bind_some]
      refine Ex.bind (Q := fun _ => True) (Ex.bif (fun _ => Ex.bif (fun _ => Ex.ret trivial) (fun _ => Ex.bif (fun _ => Ex.ret trivial) (fun _ => Ex.ret trivial))) (fun _ => Ex.bif (fun _ => Ex.ret trivial) (fun _ => Ex.ret trivial))) fun j _ => Ex.bind (Q := fun _ => True) (Ex.bif (fun _ => Ex.ret trivial) (fun _ => Ex.ret trivial)) fun j2 _ => Ex.ret ⟨_, rfl, ?_⟩
      simp only
      rw [w64_succ (by omega)]
    obtain ⟨r, e, t, rfl, ht⟩ := key
    exact .inl ⟨t, e, ht⟩
  · obtain ⟨n, i⟩ := s
    change i = _ at hI
    subst hI
    refine ⟨n, ?_, trivial⟩
    unfold m_spec_CountBar_L1
    rw [decide_eq_false (by simp only; omega)]
    rfl
end Go.Proofs.Ytghofbijdnenoaa
end
section
set_option linter.unusedVariables false
set_option linter.unusedSimpArgs false
set_option linter.unnecessarySimpa false
open Go Go.Fw
namespace Go.Proofs.Ytghofbijdnenoaa
theorem sameInts_refl (l : List Int) (h : l.length ≤ 100000) : m_laws_sameInts l l = some true := by
  unfold m_laws_sameInts
  rw [bne_self_eq_false, cond_false]
  have := any_loop0 (b := m_laws_sameInts_L1 l l) (fun _ => false) false l.length (by omega) (fun k hk => by
    unfold m_laws_sameInts_L1
    rw [decide_eq_true (by omega), cond_true, idx_at hk, Option.bind_some, Option.bind_some, bne_self_eq_false]) (by simp [m_laws_sameInts_L1])
  rw [this, any_range_false.2 fun _ _ _ => rfl]
  rfl
theorem sameSets_refl (l : List (List Int)) (h : l.length ≤ 100000) (hr : ∀ r ∈ l, r.length ≤ 100000) : m_laws_sameSets l l = some true := by
  unfold m_laws_sameSets
  rw [bne_self_eq_false, cond_false]
  have := any_loop0 (b := m_laws_sameSets_L1 l l) (fun _ => false) false l.length (by omega) (fun k hk => by
    unfold m_laws_sameSets_L1
    rw [decide_eq_true (by omega), cond_true, idx_at hk, Option.bind_some, Option.bind_some, sameInts_refl _ (hr _ (List.getElem_mem hk))]
    rfl) (by simp [m_laws_sameSets_L1])
  rw [this, any_range_false.2 fun _ _ _ => rfl]
  rfl
end Go.Proofs.Ytghofbijdnenoaa
end
section
set_option linter.unusedVariables false
set_option linter.unusedSimpArgs false
set_option linter.unnecessarySimpa false
open Go Go.Fw
namespace Go.Proofs.Ytghofbijdnenoaa
theorem eqI_two {a b c d : Int} : eqI [a, b] [c, d] = true ↔ a = c ∧ b = d := by
  rw [eqI_eq, decide_eq_true_eq]
  simp
end Go.Proofs.Ytghofbijdnenoaa
end
section
set_option linter.unusedVariables false
set_option linter.unusedSimpArgs false
set_option linter.unnecessarySimpa false
open Go Go.Fw Go.Mx
namespace Go.Proofs.Ytghofbijdnenoaa
theorem frank_bas {f : TFramework} (hv : vF f = true) : ∃ V, Bas (nC f) (rigM f) (frank f).toNat V ∧ frank f = ((frank f).toNat : Int) := by
  have h := vF_VF hv
  obtain ⟨V, hV⟩ := bas_of (rigRows h)
  have e : frank f = ((bred (nC f) (rigM f) (nC f)).piv.length : Int) := by unfold frank; rw [hv]; rfl
  refine ⟨V, ?_, by rw [e]; omega⟩
  rw [e, Int.toNat_natCast]
  exact hV
theorem dot_three {n p q e : Nat} {y w : List Int} (hy : y.length = n) (hw : w.length = n) (hp : p < n) (hq : q < n) (he : e < n) (hpq : p ≠ q) (hpe : p ≠ e) (hqe : q ≠ e) (h0 : ∀ k : Nat, k ≠ p → k ≠ q → k ≠ e → y.getD k 0 = 0) : dot y w = y.getD p 0 * w.getD p 0 + y.getD q 0 * w.getD q 0 + y.getD e 0 * w.getD e 0 := by
  have e1 := dot_set y w p 0 (by omega) (by omega)
  have e2 := dot_set (y.set p 0) w q 0 (by simp; omega) (by simp; omega)
  have e3 := dot_set ((y.set p 0).set q 0) w e 0 (by simp; omega) (by simp; omega)
  have g : ∀ (l : List Int) (i j : Nat), i ≠ j → (l.set i 0).getD j 0 = l.getD j 0 := fun l i j hij => by
    rw [List.getD_eq_getElem?_getD, List.getD_eq_getElem?_getD, List.getElem?_set, if_neg hij]
  have z : ((y.set p 0).set q 0).set e 0 = List.replicate n 0 := vec_ext (n := n) (by simp [hy]) (by simp) fun k hk => by
    have r : (List.replicate n (0 : Int)).getD k 0 = 0 := by rw [List.getD_eq_getElem?_getD, List.getElem?_replicate, if_pos hk]; rfl
    have s : ∀ (l : List Int), l.length = n → (l.set k 0).getD k 0 = 0 := fun l hl => by
      rw [List.getD_eq_getElem?_getD, List.getElem?_set, if_pos rfl, if_pos (by omega)]; rfl
    rw [r]
    by_cases c3 : k = e
    · subst c3; exact s _ (by simp [hy])
    · rw [g _ _ _ (fun h => c3 h.symm)]
      by_cases c2 : k = q
      · subst c2; exact s _ (by simp [hy])
      · rw [g _ _ _ (fun h => c2 h.symm)]
        by_cases c1 : k = p
        · subst c1; exact s _ hy
        · rw [g _ _ _ (fun h => c1 h.symm)]
          exact h0 k c1 c2 c3
  rw [z, dot_zero, g _ _ _ hqe, g _ _ _ hpe] at e3
  rw [g _ _ _ hpq] at e2
  have h1 : y.getD p 0 * w.getD p 0 = -((0 - y.getD p 0) * w.getD p 0) := by grind
  have h2 : y.getD q 0 * w.getD q 0 = -((0 - y.getD q 0) * w.getD q 0) := by grind
  have h3 : y.getD e 0 * w.getD e 0 = -((0 - y.getD e 0) * w.getD e 0) := by grind
  rw [h1, h2, h3]
  omega
theorem yv_len (N : Nat) (X Y : Nat → Int) (a b g : Int) : (yv N X Y a b g).length = N := vec_len ..
theorem yv_val {N : Nat} {X Y : Nat → Int} {a b g : Int} {k : Nat} (hk : k < N) : (yv N X Y a b g).getD k 0 = if k % 2 = 0 then a - g * Y (k / 2) else b + g * X (k / 2) := vec_get _ hk
theorem rank_top {f : TFramework} (hv : vF f = true) : 0 ≤ frank f ∧ frank f ≤ 2 * f.Graph.Points - (bif apart f then 3 else 2) := by
  have h := vF_VF hv
  obtain ⟨V, hB, hr⟩ := frank_bas hv
  have p1 := h.g.p1
  have hR := rigB h
  refine ⟨by omega, ?_⟩
  have hn : (nC f : Int) = 2 * f.Graph.Points := by unfold nC; omega
  cases ha : apart f with
  | false =>
    have hno : f.Graph.Bars = [] := by
      cases hb : f.Graph.Bars with
      | nil => rfl
      | cons b l =>
        have hx : f.Graph.Bars[0]? = some b := by rw [hb]; rfl
        have a0 := h.g.a0 hx
        have ab := h.g.ab hx
        have bp := h.g.bp hx
        have hd := h.dif hx
        unfold apart at ha
        rw [any_range_false] at ha
        have hpl := h.pls
        have hA := ha b.A.toNat (by omega) (by omega)
        have hBB := ha b.B.toNat (by omega) (by omega)
        simp only [Bool.not_eq_false'] at hA hBB
        unfold here at hA hBB
        rw [show ((b.A.toNat : Nat) : Int) = b.A by omega] at hA
        rw [show ((b.B.toNat : Nat) : Int) = b.B by omega] at hBB
        obtain ⟨e1, e2⟩ := eqI_two.1 hA
        obtain ⟨e3, e4⟩ := eqI_two.1 hBB
        have := eqI_two.2 ⟨e1.trans e3.symm, e2.trans e4.symm⟩
        rw [this] at hd
        cases hd
    have hV : V = [] := by
      cases hV : V with
      | nil => rfl
      | cons v l =>
        have := hB.mem v (by rw [hV]; exact List.mem_cons_self)
        unfold rigM at this
        rw [hno] at this
        cases this
    have := hB.len
    rw [hV] at this
    simp only [List.length_nil] at this
    simp only [cond_false]
    omega
  | true =>
    simp only [cond_true]
    unfold apart at ha
    rw [List.any_eq_true] at ha
    obtain ⟨i, hi, hh⟩ := ha
    have hi := List.mem_range'_1.1 hi
    have hpl := h.pls
    have hi0 : i ≠ 0 := fun e => by rw [e, here0] at hh; cases hh
    have hdiff : (plAt f (i : Int)).X ≠ (plAt f 0).X ∨ (plAt f (i : Int)).Y ≠ (plAt f 0).Y := by
      apply Classical.byContradiction
      intro hn
      have e1 : (plAt f (i : Int)).X = (plAt f 0).X := Classical.byContradiction fun h => hn (.inl h)
      have e2 : (plAt f (i : Int)).Y = (plAt f 0).Y := Classical.byContradiction fun h => hn (.inr h)
      unfold here at hh
      rw [eqI_two.2 ⟨e1, e2⟩] at hh
      cases hh
    have key : ∀ e : Nat, e = 2 * i ∨ e = 2 * i + 1 → (∀ y : List Int, y.length = nC f → (∀ a b g, dot y (yv (nC f) (fun k => (plAt f (k : Int)).X) (fun k => (plAt f (k : Int)).Y) a b g) = 0) → (∀ k : Nat, k ≠ 0 → k ≠ 1 → k ≠ e → y.getD k 0 = 0) → y.getD 0 0 = 0 ∧ y.getD 1 0 = 0 ∧ y.getD e 0 = 0) → frank f ≤ 2 * f.Graph.Points - 3 := by
      intro e he hdet
      apply Classical.byContradiction
      intro hgt
      refine hB.ind (om_zero ((List.range (nC f)).filter fun k => decide (k ≠ 0 ∧ k ≠ 1 ∧ k ≠ e)) (fun y => y.length = nC f ∧ ∀ a b g, dot y (yv (nC f) (fun k => (plAt f (k : Int)).X) (fun k => (plAt f (k : Int)).Y) a b g) = 0) (fun y hy => hy.1) (fun u v y a b hu hv hy e => ⟨hy, fun a' b' g' => by
        rw [dot_lin a b u v y _ (by omega) (by omega) e, hu.2, hv.2]; omega⟩) (fun y hy hc k => ?_) V (fun v hv => ⟨hB.all v hv, fun a b g => hR.kill v (hB.mem v hv) a b g⟩) ?_)
      · have hz : ∀ k : Nat, k ≠ 0 → k ≠ 1 → k ≠ e → y.getD k 0 = 0 := fun k h0 h1 h2 => by
          by_cases hk : k < nC f
          · exact hc k (List.mem_filter.2 ⟨List.mem_range.2 hk, by simp [h0, h1, h2]⟩)
          · exact getD_out (by rw [hy.1]; omega)
        obtain ⟨d0, d1, d2⟩ := hdet y hy.1 hy.2 hz
        by_cases c0 : k = 0
        · rw [c0]; exact d0
        · by_cases c1 : k = 1
          · rw [c1]; exact d1
          · by_cases c2 : k = e
            · rw [c2]; exact d2
            · exact hz k c0 c1 c2
      · have hnd : (0 :: 1 :: e :: (List.range (nC f)).filter fun k => decide (k ≠ 0 ∧ k ≠ 1 ∧ k ≠ e)).Nodup := by
          refine List.nodup_cons.2 ⟨?_, List.nodup_cons.2 ⟨?_, List.nodup_cons.2 ⟨?_, List.nodup_range.filter _⟩⟩⟩
          · simp; omega
          · simp; omega
          · simp
        have := nodup_le (nC f) _ hnd fun x hx => by
          simp only [List.mem_cons, List.mem_filter, List.mem_range] at hx
          rcases hx with rfl | rfl | rfl | hx
          · omega
          · omega
          · omega
          · exact hx.1
        simp only [List.length_cons] at this
        rw [hB.len]
        omega
    have three : ∀ e : Nat, e = 2 * i ∨ e = 2 * i + 1 → ∀ y : List Int, y.length = nC f → (∀ k : Nat, k ≠ 0 → k ≠ 1 → k ≠ e → y.getD k 0 = 0) → ∀ a b g, dot y (yv (nC f) (fun k => (plAt f (k : Int)).X) (fun k => (plAt f (k : Int)).Y) a b g) = y.getD 0 0 * (a - g * (plAt f 0).Y) + y.getD 1 0 * (b + g * (plAt f 0).X) + y.getD e 0 * (if e % 2 = 0 then a - g * (plAt f (i : Int)).Y else b + g * (plAt f (i : Int)).X) := fun e he y hy hz a b g => by
      rw [dot_three hy (yv_len ..) (show 0 < nC f by omega) (show 1 < nC f by omega) (show e < nC f by omega) (by omega) (by omega) (by omega) hz, yv_val (by omega), yv_val (by omega), yv_val (by omega), if_pos (by omega), if_neg (by omega), show e / 2 = i by omega]
      rfl
    rcases hdiff with hX | hY
    · refine key (2 * i + 1) (.inr rfl) fun y hy hk hz => ?_
      have t := three (2 * i + 1) (.inr rfl) y hy hz
      have t1 := t 1 0 0
      have t2 := t 0 1 0
      have t3 := t 0 0 1
      rw [hk, if_neg (by omega)] at t1 t2 t3
      have e0 : y.getD 0 0 = 0 := by omega
      have e1 : y.getD 1 0 = - y.getD (2 * i + 1) 0 := by omega
      rw [e0, e1] at t3
      have e2 : y.getD (2 * i + 1) 0 * ((plAt f (i : Int)).X - (plAt f 0).X) = 0 := by grind
      have e3 : y.getD (2 * i + 1) 0 = 0 := by
        rcases Int.mul_eq_zero.1 e2 with h | h
        · exact h
        · omega
      exact ⟨e0, by omega, e3⟩
    · refine key (2 * i) (.inl rfl) fun y hy hk hz => ?_
      have t := three (2 * i) (.inl rfl) y hy hz
      have t1 := t 1 0 0
      have t2 := t 0 1 0
      have t3 := t 0 0 1
      rw [hk, if_pos (by omega)] at t1 t2 t3
      have e1 : y.getD 1 0 = 0 := by omega
      have e0 : y.getD 0 0 = - y.getD (2 * i) 0 := by omega
      rw [e0, e1] at t3
      have e2 : y.getD (2 * i) 0 * ((plAt f 0).Y - (plAt f (i : Int)).Y) = 0 := by grind
      have e3 : y.getD (2 * i) 0 = 0 := by
        rcases Int.mul_eq_zero.1 e2 with h | h
        · exact h
        · omega
      exact ⟨by omega, e1, e3⟩
theorem fdom_nonneg {f : TFramework} (hv : vF f = true) : 0 ≤ fdom f := by
  have := (rank_top hv).2
  unfold fdom
  rw [hv, cond_true]
  omega
theorem rank_add {f : TFramework} (hv : vF f = true) {x : TBar} (hv2 : vF ⟨⟨f.Graph.Points, insB x f.Graph.Bars⟩, f.Places⟩ = true) : frank ⟨⟨f.Graph.Points, insB x f.Graph.Bars⟩, f.Places⟩ = frank f ∨ frank ⟨⟨f.Graph.Points, insB x f.Graph.Bars⟩, f.Places⟩ = frank f + 1 := by
  obtain ⟨V, hB, hr⟩ := frank_bas hv
  obtain ⟨V2, hB2, hr2⟩ := frank_bas hv2
  have hrows := rigRows (vF_VF hv2)
  have hin : ∀ b, b ∈ insB x f.Graph.Bars ↔ b = x ∨ b ∈ f.Graph.Bars := fun b => by rw [(insB_perm x f.Graph.Bars).mem_iff, List.mem_cons]
  have := Bas.ins hB hB2 (x := rowOf f x) (rrow_len ..) (fun v hv => by
    obtain ⟨b, hb, rfl⟩ := List.mem_map.1 hv
    exact List.mem_map.2 ⟨b, (hin b).2 (.inr hb), rfl⟩) (fun v hv => by
    obtain ⟨b, hb, rfl⟩ := List.mem_map.1 hv
    rcases (hin b).1 hb with rfl | hb
    · exact .inr rfl
    · exact .inl (List.mem_map.2 ⟨b, hb, rfl⟩))
  omega
def indep (f : TFramework) : Bool := vF f && (frank f == (f.Graph.Bars.length : Int))
theorem indepI_eq {f : TFramework} (h0 : SM f.Graph.Bars.length) (h1 : SM f.Places.length) : m_impl_IsIndependentFramework f = some (indep f) := by
  unfold m_impl_IsIndependentFramework indep
  simp only [isFI_eq f h0 h1, Option.bind_some, frankI_eq f h0 h1]
  cases vF f <;> rfl
theorem indepS_eq {f : TFramework} (h0 : SM f.Graph.Bars.length) (h1 : SM f.Places.length) : m_spec_IsIndependentFramework f = some (indep f) := by
  unfold m_spec_IsIndependentFramework indep
  simp only [isFS_eq f h0 h1, Option.bind_some, frankS_eq f h0 h1]
  cases vF f <;> rfl
theorem countI_eq {f : TFramework} (h0 : SM f.Graph.Bars.length) (h1 : SM f.Places.length) : m_impl_CountStresses f = some (bif vF f then w64 ((f.Graph.Bars.length : Int) - frank f) else -1) := by
  unfold m_impl_CountStresses
  simp only [isFI_eq f h0 h1, Option.bind_some, frankI_eq f h0 h1]
  cases vF f <;> rfl
theorem indep_count {f : TFramework} (hv : vF f = true) : indep f = (w64 ((f.Graph.Bars.length : Int) - frank f) == 0) := by
  have h := vF_VF hv
  have hl := h.len
  have hr := frank_rng f
  unfold indep
  rw [hv, Bool.true_and, w64_small (by omega) (by omega)]
  by_cases e : frank f = (f.Graph.Bars.length : Int)
  · rw [beq_iff_eq.2 e, beq_iff_eq.2 (by omega)]
  · rw [beq_eq_false_iff_ne.2 e, beq_eq_false_iff_ne.2 (by omega)]
def col (a b c : TPlace) : Bool := (onGrid a && (onGrid b && onGrid c)) && (w64 (w64 (b.X - a.X) * w64 (c.Y - a.Y)) == w64 (w64 (c.X - a.X) * w64 (b.Y - a.Y)))
theorem colI_eq (a b c : TPlace) : m_impl_AreCollinear a b c = some (col a b c) := by
  unfold m_impl_AreCollinear col
  simp only [isPlace_eq, Option.bind_some]
  cases onGrid a <;> cases onGrid b <;> cases onGrid c <;> rfl
theorem onS_eq (p : TPlace) : m_spec_l10On p = some (onGrid p) := by
  unfold m_spec_l10On onGrid
  simp only [l1In_eq, Option.bind_some]
  cases decide (0 ≤ p.X) && decide (p.X ≤ 4) <;> rfl
theorem colS_eq (a b c : TPlace) : m_spec_AreCollinear a b c = some (col a b c) := by
  unfold m_spec_AreCollinear col
  simp only [onS_eq, Option.bind_some, Int.mul_comm (w64 (b.Y - a.Y))]
  cases onGrid a <;> cases onGrid b <;> cases onGrid c <;> rfl
def flatC (f : TFramework) (a b : Nat) : List (List Int) := pieces (fun j => bif col (plAt f (a : Int)) (plAt f (b : Int)) (plAt f ((b + 1 + j : Nat) : Int)) then [[(a : Int), (b : Int), ((b + 1 + j : Nat) : Int)]] else []) (f.Places.length - (b + 1))
def flatB (f : TFramework) (a : Nat) : List (List Int) := pieces (fun j => flatC f a (a + 1 + j)) (f.Places.length - (a + 1))
def flat (f : TFramework) : List (List Int) := pieces (flatB f) f.Places.length
theorem flatC_len {f : TFramework} (h : f.Places.length ≤ 8) (a b : Nat) : (flatC f a b).length ≤ 8 := by
  have := pieces_len (f := fun j => bif col (plAt f (a : Int)) (plAt f (b : Int)) (plAt f ((b + 1 + j : Nat) : Int)) then [[(a : Int), (b : Int), ((b + 1 + j : Nat) : Int)]] else []) (c := 1) (f.Places.length - (b + 1)) (fun j _ => by cases col (plAt f (a : Int)) (plAt f (b : Int)) (plAt f ((b + 1 + j : Nat) : Int)) <;> simp)
  unfold flatC
  omega
theorem flatB_len {f : TFramework} (h : f.Places.length ≤ 8) (a : Nat) : (flatB f a).length ≤ 64 := by
  have := pieces_len (f := fun j => flatC f a (a + 1 + j)) (c := 8) (f.Places.length - (a + 1)) (fun j _ => flatC_len h _ _)
  unfold flatB
  omega
theorem flat_len {f : TFramework} (h : f.Places.length ≤ 8) : (flat f).length ≤ 512 := by
  have := pieces_len (f := flatB f) (c := 64) f.Places.length (fun j _ => flatB_len h _)
  unfold flat
  omega
theorem pieces_forall {α : Type} {f : Nat → List α} {Q : α → Prop} : ∀ n, (∀ k, k < n → ∀ x ∈ f k, Q x) → ∀ x ∈ pieces f n, Q x
  | 0, _, x, hx => by cases hx
  | n + 1, h, x, hx => by
    rcases List.mem_append.1 hx with hx | hx
    · exact pieces_forall n (fun k hk => h k (by omega)) x hx
    · exact h n (by omega) x hx
theorem flat_row (f : TFramework) : ∀ r ∈ flat f, r.length ≤ 100000 := by
  unfold flat
  refine pieces_forall _ fun a _ => ?_
  unfold flatB
  refine pieces_forall _ fun j _ => ?_
  unfold flatC
  refine pieces_forall _ fun c _ r hr => ?_
  cases hc : col (plAt f (a : Int)) (plAt f ((a + 1 + j : Nat) : Int)) (plAt f ((a + 1 + j + 1 + c : Nat) : Int)) with
  | false => rw [hc] at hr; cases hr
  | true => rw [hc] at hr; rw [List.mem_singleton.1 hr]; simp
theorem flatI_eq {f : TFramework} (hv : vF f = true) : m_impl_FlatSets f = some (flat f) := by
  have H := vF_VF hv
  have h8 : f.Places.length ≤ 8 := by have := H.pls; have := H.p6; omega
  have := app_loop (b := m_impl_FlatSets_L7 f) (s := (0, [])) (fun k out => ((k : Int), out)) (flatB f) id 64 f.Places.length [] (by omega) rfl (fun k _ => flatB_len h8 k) (fun a out ha ho => by
    simp only [List.length_nil, Nat.zero_add] at ho
    have e := app_loop (b := m_impl_FlatSets_L10 f) (s := ((a : Int), w64 ((a : Int) + 1), (a : Int), out)) (fun k o => ((a : Int), ((a + 1 + k : Nat) : Int), (a : Int), o)) (fun j => flatC f a (a + 1 + j)) (fun o => ((a : Int), o)) 8 (f.Places.length - (a + 1)) out (by omega) (by rw [w64_succ (by omega)]) (fun j _ => flatC_len h8 _ _) (fun k o hk hol => by
      have e2 := app_loop (b := m_impl_FlatSets_L11 f ((a : Int), ((a + 1 + k : Nat) : Int), (a : Int), o)) (s := (w64 (((a + 1 + k : Nat) : Int) + 1), o)) (fun j q => (((a + 1 + k + 1 + j : Nat) : Int), q)) (fun j => bif col (plAt f (a : Int)) (plAt f ((a + 1 + k : Nat) : Int)) (plAt f ((a + 1 + k + 1 + j : Nat) : Int)) then [[(a : Int), ((a + 1 + k : Nat) : Int), ((a + 1 + k + 1 + j : Nat) : Int)]] else []) (fun q => ((a : Int), ((a + 1 + k : Nat) : Int), (a : Int), q)) 1 (f.Places.length - (a + 1 + k + 1)) o (by omega) (by rw [w64_succ (by omega)]) (fun j _ => by cases col (plAt f (a : Int)) (plAt f ((a + 1 + k : Nat) : Int)) (plAt f ((a + 1 + k + 1 + j : Nat) : Int)) <;> simp) (fun j q hj hq => by
        unfold m_impl_FlatSets_L11
        simp only [placeD (show a < f.Places.length by omega), placeD (show a + 1 + k < f.Places.length by omega), placeD (show a + 1 + k + 1 + j < f.Places.length by omega), Option.bind_some, colI_eq, lim_ok (show q.length + 1 ≤ 2147483648 by omega), w64_succ (show a + 1 + k + 1 + j ≤ 1099511627776 by omega)]
        rw [decide_eq_true (by omega), cond_true]
        cases col (plAt f (a : Int)) (plAt f ((a + 1 + k : Nat) : Int)) (plAt f ((a + 1 + k + 1 + j : Nat) : Int)) <;> simp <;> rfl) (fun q => by
        unfold m_impl_FlatSets_L11
        simp only
        rw [decide_eq_false (by omega)]
        rfl)
      unfold m_impl_FlatSets_L10
      simp only
      rw [decide_eq_true (by omega), cond_true, e2, Option.bind_some]
      simp only [w64_succ (show a + 1 + k ≤ 1099511627776 by omega)]
      rfl) (fun o => by
      unfold m_impl_FlatSets_L10
      simp only
      rw [decide_eq_false (by omega)]
      rfl)
    unfold m_impl_FlatSets_L7
    simp only
    rw [decide_eq_true (by omega), cond_true, e, Option.bind_some]
    simp only [w64_succ (show a ≤ 1099511627776 by omega)]
    rfl) (fun o => by
    unfold m_impl_FlatSets_L7
    simp only
    rw [decide_eq_false (by omega)]
    rfl)
  have h0 : SM f.Graph.Bars.length := by have := H.len; show _ ≤ _; omega
  have h1 : SM f.Places.length := by show _ ≤ _; omega
  unfold m_impl_FlatSets
  rw [isFI_eq f h0 h1, hv, this]
  rfl
theorem flatS_eq {f : TFramework} (hv : vF f = true) : m_spec_FlatSets f = some (flat f) := by
  have H := vF_VF hv
  have h8 : f.Places.length ≤ 8 := by have := H.pls; have := H.p6; omega
  have h0 : SM f.Graph.Bars.length := by have := H.len; show _ ≤ _; omega
  have h1 : SM f.Places.length := by show _ ≤ _; omega
  have := app_loop (b := m_spec_FlatSets_L7 f) (s := (0, [])) (fun k out => ((k : Int), out)) (flatB f) id 64 f.Places.length [] (by omega) rfl (fun k _ => flatB_len h8 k) (fun a out ha ho => by
    simp only [List.length_nil, Nat.zero_add] at ho
    have e := app_loop (b := m_spec_FlatSets_L10 f) (s := ((a : Int), w64 ((a : Int) + 1), out)) (fun k o => ((a : Int), ((a + 1 + k : Nat) : Int), o)) (fun j => flatC f a (a + 1 + j)) (fun o => ((a : Int), o)) 8 (f.Places.length - (a + 1)) out (by omega) (by rw [w64_succ (by omega)]) (fun j _ => flatC_len h8 _ _) (fun k o hk hol => by
      have e2 := app_loop (b := m_spec_FlatSets_L11 f ((a : Int), ((a + 1 + k : Nat) : Int), o)) (s := (w64 (((a + 1 + k : Nat) : Int) + 1), o)) (fun j q => (((a + 1 + k + 1 + j : Nat) : Int), q)) (fun j => bif col (plAt f (a : Int)) (plAt f ((a + 1 + k : Nat) : Int)) (plAt f ((a + 1 + k + 1 + j : Nat) : Int)) then [[(a : Int), ((a + 1 + k : Nat) : Int), ((a + 1 + k + 1 + j : Nat) : Int)]] else []) (fun q => ((a : Int), ((a + 1 + k : Nat) : Int), q)) 1 (f.Places.length - (a + 1 + k + 1)) o (by omega) (by rw [w64_succ (by omega)]) (fun j _ => by cases col (plAt f (a : Int)) (plAt f ((a + 1 + k : Nat) : Int)) (plAt f ((a + 1 + k + 1 + j : Nat) : Int)) <;> simp) (fun j q hj hq => by
        unfold m_spec_FlatSets_L11
        simp only [placeD (show a < f.Places.length by omega), placeD (show a + 1 + k < f.Places.length by omega), placeD (show a + 1 + k + 1 + j < f.Places.length by omega), Option.bind_some, colS_eq, lim_ok (show q.length + [([(a : Int), ((a + 1 + k : Nat) : Int), ((a + 1 + k + 1 + j : Nat) : Int)] : List Int)].length ≤ 2147483648 by simp; omega), w64_succ (show a + 1 + k + 1 + j ≤ 1099511627776 by omega)]
        rw [decide_eq_true (by omega), cond_true]
        cases col (plAt f (a : Int)) (plAt f ((a + 1 + k : Nat) : Int)) (plAt f ((a + 1 + k + 1 + j : Nat) : Int)) <;> simp <;> rfl) (fun q => by
        unfold m_spec_FlatSets_L11
        simp only
        rw [decide_eq_false (by omega)]
        rfl)
      unfold m_spec_FlatSets_L10
      simp only
      rw [decide_eq_true (by omega), cond_true, e2, Option.bind_some]
      simp only [w64_succ (show a + 1 + k ≤ 1099511627776 by omega)]
      rfl) (fun o => by
      unfold m_spec_FlatSets_L10
      simp only
      rw [decide_eq_false (by omega)]
      rfl)
    unfold m_spec_FlatSets_L7
    simp only [isFS_eq f h0 h1, hv, Option.bind_some]
    rw [decide_eq_true (by omega)]
    simp only [cond_true, Option.bind_some]
    rw [e, Option.bind_some]
    simp only [w64_succ (show a ≤ 1099511627776 by omega)]
    rfl) (fun o => by
    unfold m_spec_FlatSets_L7
    simp only
    rw [decide_eq_false (by omega)]
    rfl)
  unfold m_spec_FlatSets
  rw [this]
  rfl
theorem flat_no {f : TFramework} (h0 : SM f.Graph.Bars.length) (h1 : SM f.Places.length) (hv : vF f = false) : m_impl_FlatSets f = some [] ∧ m_spec_FlatSets f = some [] := by
  refine ⟨by unfold m_impl_FlatSets; rw [isFI_eq f h0 h1, hv]; rfl, ?_⟩
  have : loopM (m_spec_FlatSets_L7 f) BIG (0, []) = some [] := by
    refine loopM_run (fun _ => ((0 : Int), ([] : List (List Int)))) 0 (by omega) rfl (fun k hk => by omega) ?_
    unfold m_spec_FlatSets_L7
    simp only [isFS_eq f h0 h1, hv, Option.bind_some]
    cases decide ((0 : Int) < (f.Places.length : Int)) <;> rfl
  unfold m_spec_FlatSets
  rw [this]
  rfl
theorem missS_ex {g : TGraph} (hv : vG g = true) : Ex (m_spec_MissingBars g) fun l => l.length ≤ 1000 := by
  have H := vG_VG hv
  have hl := H.len
  have p1 := H.p1
  have p8 := H.p8
  unfold m_spec_MissingBars
  refine Ex.bind (Q := fun l => l.length ≤ 1000) ?_ fun l hl => Ex.ret hl
  refine loop_inv (fun k s => s.1 = (k : Int) ∧ s.2.length ≤ 16 * k) _ g.Points.toNat (by omega) ⟨rfl, by simp⟩ (fun k s hk hI => ?_) (fun s hI => ?_)
  · obtain ⟨a, l⟩ := s
    obtain ⟨ha, hll⟩ := hI
    change a = (k : Int) at ha
    subst ha
    change l.length ≤ 16 * k at hll
    have inside : Ex (loopM (m_spec_MissingBars_L4 g ((k : Int), l)) BIG (w64 ((k : Int) + 1), l)) fun r => r.1 = (k : Int) ∧ r.2.length ≤ 16 * (k + 1) := by
      refine loop_inv (fun j s => s.1 = ((k + 1 + j : Nat) : Int) ∧ s.2.length ≤ 16 * k + j) _ (g.Points.toNat - (k + 1)) (by omega) ⟨by rw [w64_succ (by omega)], hll⟩ (fun j s hj hJ => ?_) (fun s hJ => ?_)
      · obtain ⟨b, q⟩ := s
        obtain ⟨hb, hq⟩ := hJ
        change b = ((k + 1 + j : Nat) : Int) at hb
        subst hb
        change q.length ≤ 16 * k + j at hq
        have key : Ex (m_spec_MissingBars_L4 g ((k : Int), l) (((k + 1 + j : Nat) : Int), q)) fun r => ∃ t, r = .inl t ∧ t.1 = ((k + 1 + (j + 1) : Nat) : Int) ∧ t.2.length ≤ 16 * k + (j + 1) := by
          unfold m_spec_MissingBars_L4
          rw [decide_eq_true (by simp only; omega), cond_true]
          refine (countS_ex g (by omega) _ _).bind fun c _ => Ex.bind (Q := fun o => o.length ≤ 16 * k + (j + 1)) (Ex.bif (fun _ => Ex.lim (by simp; omega) (Ex.ret (by simp; omega))) (fun _ => Ex.ret (by simp only; omega))) fun o ho => Ex.ret ⟨_, rfl, ?_, ho⟩
          simp only
          rw [w64_succ (by omega)]
          rfl
        obtain ⟨r, e, t, rfl, ht⟩ := key
        exact .inl ⟨t, e, ht⟩
      · obtain ⟨b, q⟩ := s
        obtain ⟨hb, hq⟩ := hJ
        change b = _ at hb
        change q.length ≤ _ at hq
        refine ⟨((k : Int), q), ?_, rfl, by simp only; omega⟩
        unfold m_spec_MissingBars_L4
        rw [decide_eq_false (by simp only; omega)]
        rfl
    obtain ⟨r, e, r1, r2⟩ := inside
    refine .inl ⟨(((k + 1 : Nat) : Int), r.2), ?_, rfl, r2⟩
    unfold m_spec_MissingBars_L3
    simp only [isGraphS_eq g H.sm, hv, Option.bind_some, e, r1]
    rw [decide_eq_true (by omega), w64_succ (by omega)]
    rfl
  · obtain ⟨a, l⟩ := s
    obtain ⟨ha, hll⟩ := hI
    change a = _ at ha
    change l.length ≤ _ at hll
    refine ⟨l, ?_, by omega⟩
    unfold m_spec_MissingBars_L3
    simp only
    rw [decide_eq_false (by omega)]
    rfl
theorem at_ex {code : List Int} (h : code.length ≤ 1048576) (hb : ∀ x ∈ code, 0 ≤ x ∧ x ≤ 255) : Ex (m_laws_at code 4) fun v => 0 ≤ v := by
  unfold m_laws_at
  refine Ex.bif (fun hd => ?_) (fun _ => Ex.ret ?_)
  · refine Ex.idx (by omega) (of_decide_eq_true hd) fun v hv => Ex.ret ?_
    obtain ⟨h0, h1⟩ := hb v hv
    rw [w64_small (by omega) (by omega)]
    exact h0
  · rw [w64_small (n := 4 * 37) (by omega) (by omega), w64_small (n := (code.length : Int) * 11) (by omega) (by omega), w64_small (by omega) (by omega)]
    exact Int.tmod_nonneg _ (by omega)
theorem law_FnRigidity (code : List Int) (hb : ∀ x ∈ code, 0 ≤ x ∧ x ≤ 255) : m_laws_FnRigidity code = some true := by
  unfold m_laws_FnRigidity m_laws_big
  rw [Option.bind_some]
  by_cases hbig : (1048576 : Int) < (code.length : Int)
  · rw [decide_eq_true hbig]
    rfl
  · rw [decide_eq_false hbig, cond_false]
    have draw : Ex (m_spec_DrawFrameworkFreedom code) FS := by
      unfold m_spec_DrawFrameworkFreedom
      exact (new_ex (code := code) (by omega)).bind fun c hc => (any10_ex hc).bind fun r hr => Ex.ret hr.2
    obtain ⟨f, hf, hFS⟩ := draw
    have hb' := hFS.b
    have hp' := hFS.p
    have h0 : SM f.Graph.Bars.length := by show _ ≤ _; omega
    have h1 : SM f.Places.length := by show _ ≤ _; omega
    cases hv : vF f with
    | false =>
      obtain ⟨e1, e2⟩ := flat_no h0 h1 hv
      have hd : fdom f = -1 := by unfold fdom; rw [hv]; rfl
      have hs : m_laws_sameSets ([] : List (List Int)) [] = some true := sameSets_refl [] (by simp) (fun r hr => by cases hr)
      simp only [hf, Option.bind_some, fdomI_eq f h0 h1, fdomS_eq f h0 h1, rigI_eq h0 h1, rigS_eq h0 h1, hv, cond_false, bne_self_eq_false, hs, Bool.not_true, stiffI_eq f h0 h1, stiff, indepI_eq h0 h1, indepS_eq h0 h1, genI_eq f h0 h1, genS_eq f h0 h1, e1, e2, isFS_eq f h0 h1, Bool.not_false, cond_true, hd]
      rfl
    | true =>
      have H := vF_VF hv
      have hn12 := nC_le H
      have hlen := H.len
      have hrig : m_laws_sameSets (rigM f) (rigM f) = some true := sameSets_refl _ (by rw [rigM_len]; omega) (fun r hr => by have := (rigB H).len r hr; omega)
      have hflat : m_laws_sameSets (flat f) (flat f) = some true := sameSets_refl _ (by have := flat_len (f := f) hp'; omega) (flat_row f)
      obtain ⟨l, hl, hll⟩ := missS_ex (g := f.Graph) (by
        have := H.g
        unfold vF at hv
        simp only [Bool.and_eq_true] at hv
        exact hv.1.1.1.1.1)
      have hdn : decide (fdom f < 0) = false := decide_eq_false (by have := fdom_nonneg hv; omega)
      obtain ⟨r65, h65, hr65⟩ := at_ex (code := code) (by omega) hb
      simp only [hf, Option.bind_some, fdomI_eq f h0 h1, fdomS_eq f h0 h1, rigI_eq h0 h1, rigS_eq h0 h1, hv, cond_false, bne_self_eq_false, hrig, Bool.not_true, stiffI_eq f h0 h1, stiff, indepI_eq h0 h1, indepS_eq h0 h1, genI_eq f h0 h1, genS_eq f h0 h1, flatI_eq hv, flatS_eq hv, hflat, isFS_eq f h0 h1, cond_true, hdn, countI_eq h0 h1, ← indep_count hv, hl, frankS_eq f h0 h1]
      by_cases h0l : (0 : Int) < (l.length : Int)
      · rw [decide_eq_true h0l, cond_true, h65, Option.bind_some, show Fw.nz (l.length : Int) = some () from by unfold Fw.nz; rw [if_pos (by omega)], Option.bind_some]
        have t0 : 0 ≤ Int.tmod r65 (l.length : Int) := Int.tmod_nonneg _ hr65
        have t1 : Int.tmod r65 (l.length : Int) < (l.length : Int) := Int.tmod_lt_of_pos _ h0l
        obtain ⟨x, hx⟩ : ∃ x, Fw.idx l (Int.tmod r65 (l.length : Int)) = some x := by
          unfold Fw.idx
          rw [if_pos t0]
          exact ⟨_, List.getElem?_eq_getElem (by omega)⟩
        rw [hx, Option.bind_some, addS_eq f.Graph (by omega), Option.bind_some]
        have hal := addB_len f.Graph x.A x.B
        have hl2 : (addB f.Graph x.A x.B).Bars.length ≤ 1000 := by omega
        have g0 : SM (TFramework.mk (addB f.Graph x.A x.B) f.Places).Graph.Bars.length := by show (addB f.Graph x.A x.B).Bars.length ≤ _; omega
        rw [isFS_eq ⟨addB f.Graph x.A x.B, f.Places⟩ g0 h1, Option.bind_some]
        cases hv2 : vF ⟨addB f.Graph x.A x.B, f.Places⟩ with
        | false => rfl
        | true =>
          rw [cond_true, frankI_eq _ g0 h1, Option.bind_some]
          have hcase : frank ⟨addB f.Graph x.A x.B, f.Places⟩ = frank f ∨ frank ⟨addB f.Graph x.A x.B, f.Places⟩ = frank f + 1 := by
            unfold addB at hv2 ⊢
            cases hc : vG f.Graph && decide (0 ≤ x.A) && decide (0 ≤ x.B) && decide (x.A < f.Graph.Points) && decide (x.B < f.Graph.Points) && !(x.A == x.B) && decide (f.Graph.Bars.length < 24) with
            | false => exact .inl rfl
            | true =>
              rw [hc] at hv2
              exact rank_add hv hv2
          have hr := frank_rng f
          rcases hcase with e | e
          · rw [e, show w64 (frank f - frank f) = 0 from by rw [w64_small (by omega) (by omega)]; omega]
            rfl
          · rw [e, show w64 (frank f + 1 - frank f) = 1 from by rw [w64_small (by omega) (by omega)]; omega]
            rfl
      · rw [decide_eq_false h0l]
        rfl
end Go.Proofs.Ytghofbijdnenoaa
end
section
set_option linter.unusedVariables false
set_option linter.unusedSimpArgs false
set_option linter.unnecessarySimpa false
set_option maxRecDepth 100000
set_option maxHeartbeats 8000000
open Go Go.Fw
namespace Go.Proofs.Ytghofbijdnenoaa
theorem Q {α : Type} {a : α} : a = a := rfl
theorem J : True := trivial
theorem K {n m : Nat} (h : n.ble m = true) : n ≤ m := Nat.le_of_ble_eq_true h
def gdv (ops : Array Oper) (σ : Slots) (o : Oper) : Option (Bool × Bool) := match o.guard with
  | none => none
  | some (j, want) => ((ops[j]?).bind (·.dst)).bind fun d => match lk σ d with
    | some (.s (.c (.pv (.sc (.bool c))))) => some (c, want)
    | some (.tup []) => some (!want, want)
    | _ => none
theorem gH {ops : Array Oper} {σ : Slots} {o : Oper} {c c0 want b : Bool} (hc : c = c0) (h : gdv ops σ o = some (c, want)) (hb : b = (c0 == want)) : GuardIs ops σ o b := by
  subst hc hb
  unfold gdv at h
  unfold GuardIs
  cases hg : o.guard with
  | none => rw [hg] at h; cases h
  | some p =>
    obtain ⟨j, wt⟩ := p
    rw [hg] at h
    dsimp only at h
    cases hd : (ops[j]?).bind (·.dst) with
    | none => rw [hd] at h; cases h
    | some d =>
      rw [hd] at h
      refine ⟨d, hd, ?_⟩
      simp only [Option.bind_some] at h
      split at h
      · rename_i cc hl; injection h with h; injection h with h1 h2; subst h1 h2; exact .inl ⟨cc, hl, rfl⟩
      · rename_i hl; injection h with h; injection h with h1 h2; subst h1 h2; exact .inr ⟨hl, by cases wt <;> rfl⟩
      · cases h
theorem gS {ops : Array Oper} {σ : Slots} {o : Oper} {c want b : Bool} (h : gdv ops σ o = some (c, want)) (hb : b = (c == want)) : GuardIs ops σ o b := gH rfl h hb
theorem z1 {α0 : Type} {a0 : α0} : a0 = a0 ∧ True := ⟨rfl, trivial⟩
theorem z2 {α0 α1 : Type} {a0 : α0} {a1 : α1} : a0 = a0 ∧ a1 = a1 ∧ True := ⟨rfl, rfl, trivial⟩
theorem y2 {α0 α1 : Type} {a0 : α0} {a1 : α1} : a0 = a0 ∧ a1 = a1 := ⟨rfl, rfl⟩
theorem z3 {α0 α1 α2 : Type} {a0 : α0} {a1 : α1} {a2 : α2} : a0 = a0 ∧ a1 = a1 ∧ a2 = a2 ∧ True := ⟨rfl, rfl, rfl, trivial⟩
theorem y3 {α0 α1 α2 : Type} {a0 : α0} {a1 : α1} {a2 : α2} : a0 = a0 ∧ a1 = a1 ∧ a2 = a2 := ⟨rfl, rfl, rfl⟩
theorem z4 {α0 α1 α2 α3 : Type} {a0 : α0} {a1 : α1} {a2 : α2} {a3 : α3} : a0 = a0 ∧ a1 = a1 ∧ a2 = a2 ∧ a3 = a3 ∧ True := ⟨rfl, rfl, rfl, rfl, trivial⟩
theorem y4 {α0 α1 α2 α3 : Type} {a0 : α0} {a1 : α1} {a2 : α2} {a3 : α3} : a0 = a0 ∧ a1 = a1 ∧ a2 = a2 ∧ a3 = a3 := ⟨rfl, rfl, rfl, rfl⟩
theorem z5 {α0 α1 α2 α3 α4 : Type} {a0 : α0} {a1 : α1} {a2 : α2} {a3 : α3} {a4 : α4} : a0 = a0 ∧ a1 = a1 ∧ a2 = a2 ∧ a3 = a3 ∧ a4 = a4 ∧ True := ⟨rfl, rfl, rfl, rfl, rfl, trivial⟩
theorem z6 {α0 α1 α2 α3 α4 α5 : Type} {a0 : α0} {a1 : α1} {a2 : α2} {a3 : α3} {a4 : α4} {a5 : α5} : a0 = a0 ∧ a1 = a1 ∧ a2 = a2 ∧ a3 = a3 ∧ a4 = a4 ∧ a5 = a5 ∧ True := ⟨rfl, rfl, rfl, rfl, rfl, rfl, trivial⟩
theorem z7 {α0 α1 α2 α3 α4 α5 α6 : Type} {a0 : α0} {a1 : α1} {a2 : α2} {a3 : α3} {a4 : α4} {a5 : α5} {a6 : α6} : a0 = a0 ∧ a1 = a1 ∧ a2 = a2 ∧ a3 = a3 ∧ a4 = a4 ∧ a5 = a5 ∧ a6 = a6 ∧ True := ⟨rfl, rfl, rfl, rfl, rfl, rfl, rfl, trivial⟩
theorem z8 {α0 α1 α2 α3 α4 α5 α6 α7 : Type} {a0 : α0} {a1 : α1} {a2 : α2} {a3 : α3} {a4 : α4} {a5 : α5} {a6 : α6} {a7 : α7} : a0 = a0 ∧ a1 = a1 ∧ a2 = a2 ∧ a3 = a3 ∧ a4 = a4 ∧ a5 = a5 ∧ a6 = a6 ∧ a7 = a7 ∧ True := ⟨rfl, rfl, rfl, rfl, rfl, rfl, rfl, rfl, trivial⟩
theorem z9 {α0 α1 α2 α3 α4 α5 α6 α7 α8 : Type} {a0 : α0} {a1 : α1} {a2 : α2} {a3 : α3} {a4 : α4} {a5 : α5} {a6 : α6} {a7 : α7} {a8 : α8} : a0 = a0 ∧ a1 = a1 ∧ a2 = a2 ∧ a3 = a3 ∧ a4 = a4 ∧ a5 = a5 ∧ a6 = a6 ∧ a7 = a7 ∧ a8 = a8 ∧ True := ⟨rfl, rfl, rfl, rfl, rfl, rfl, rfl, rfl, rfl, trivial⟩
theorem z10 {α0 α1 α2 α3 α4 α5 α6 α7 α8 α9 : Type} {a0 : α0} {a1 : α1} {a2 : α2} {a3 : α3} {a4 : α4} {a5 : α5} {a6 : α6} {a7 : α7} {a8 : α8} {a9 : α9} : a0 = a0 ∧ a1 = a1 ∧ a2 = a2 ∧ a3 = a3 ∧ a4 = a4 ∧ a5 = a5 ∧ a6 = a6 ∧ a7 = a7 ∧ a8 = a8 ∧ a9 = a9 ∧ True := ⟨rfl, rfl, rfl, rfl, rfl, rfl, rfl, rfl, rfl, rfl, trivial⟩
theorem z11 {α0 α1 α2 α3 α4 α5 α6 α7 α8 α9 α10 : Type} {a0 : α0} {a1 : α1} {a2 : α2} {a3 : α3} {a4 : α4} {a5 : α5} {a6 : α6} {a7 : α7} {a8 : α8} {a9 : α9} {a10 : α10} : a0 = a0 ∧ a1 = a1 ∧ a2 = a2 ∧ a3 = a3 ∧ a4 = a4 ∧ a5 = a5 ∧ a6 = a6 ∧ a7 = a7 ∧ a8 = a8 ∧ a9 = a9 ∧ a10 = a10 ∧ True := ⟨rfl, rfl, rfl, rfl, rfl, rfl, rfl, rfl, rfl, rfl, rfl, trivial⟩
theorem z12 {α0 α1 α2 α3 α4 α5 α6 α7 α8 α9 α10 α11 : Type} {a0 : α0} {a1 : α1} {a2 : α2} {a3 : α3} {a4 : α4} {a5 : α5} {a6 : α6} {a7 : α7} {a8 : α8} {a9 : α9} {a10 : α10} {a11 : α11} : a0 = a0 ∧ a1 = a1 ∧ a2 = a2 ∧ a3 = a3 ∧ a4 = a4 ∧ a5 = a5 ∧ a6 = a6 ∧ a7 = a7 ∧ a8 = a8 ∧ a9 = a9 ∧ a10 = a10 ∧ a11 = a11 ∧ True := ⟨rfl, rfl, rfl, rfl, rfl, rfl, rfl, rfl, rfl, rfl, rfl, rfl, trivial⟩
theorem z13 {α0 α1 α2 α3 α4 α5 α6 α7 α8 α9 α10 α11 α12 : Type} {a0 : α0} {a1 : α1} {a2 : α2} {a3 : α3} {a4 : α4} {a5 : α5} {a6 : α6} {a7 : α7} {a8 : α8} {a9 : α9} {a10 : α10} {a11 : α11} {a12 : α12} : a0 = a0 ∧ a1 = a1 ∧ a2 = a2 ∧ a3 = a3 ∧ a4 = a4 ∧ a5 = a5 ∧ a6 = a6 ∧ a7 = a7 ∧ a8 = a8 ∧ a9 = a9 ∧ a10 = a10 ∧ a11 = a11 ∧ a12 = a12 ∧ True := ⟨rfl, rfl, rfl, rfl, rfl, rfl, rfl, rfl, rfl, rfl, rfl, rfl, rfl, trivial⟩
theorem ag165 : agB Try.prog 165 = some true := by kernel_rfl
theorem ag22 : agB Try.prog 22 = some false := by kernel_rfl
theorem ag24 : agB Try.prog 24 = some false := by kernel_rfl
theorem ag26 : agB Try.prog 26 = some true := by kernel_rfl
theorem ag27 : agB Try.prog 27 = some false := by kernel_rfl
theorem ag29 : agB Try.prog 29 = some true := by kernel_rfl
theorem ag3 : agB Try.prog 3 = some false := by kernel_rfl
theorem ag37 : agB Try.prog 37 = some false := by kernel_rfl
theorem ag4 : agB Try.prog 4 = some false := by kernel_rfl
theorem ag5 : agB Try.prog 5 = some false := by kernel_rfl
theorem ag62 : agB Try.prog 62 = some true := by kernel_rfl
theorem ag94 : agB Try.prog 94 = some true := by kernel_rfl
theorem cb10 : callB Try.prog 10 = true := by kernel_rfl
theorem cb100 : callB Try.prog 100 = true := by kernel_rfl
theorem cb101 : callB Try.prog 101 = true := by kernel_rfl
theorem cb103 : callB Try.prog 103 = true := by kernel_rfl
theorem cb104 : callB Try.prog 104 = true := by kernel_rfl
theorem cb109 : callB Try.prog 109 = true := by kernel_rfl
theorem cb110 : callB Try.prog 110 = true := by kernel_rfl
theorem cb114 : callB Try.prog 114 = true := by kernel_rfl
theorem cb120 : callB Try.prog 120 = true := by kernel_rfl
theorem cb123 : callB Try.prog 123 = true := by kernel_rfl
theorem cb128 : callB Try.prog 128 = true := by kernel_rfl
theorem cb13 : callB Try.prog 13 = true := by kernel_rfl
theorem cb137 : callB Try.prog 137 = true := by kernel_rfl
theorem cb138 : callB Try.prog 138 = true := by kernel_rfl
theorem cb139 : callB Try.prog 139 = true := by kernel_rfl
theorem cb140 : callB Try.prog 140 = true := by kernel_rfl
theorem cb141 : callB Try.prog 141 = true := by kernel_rfl
theorem cb142 : callB Try.prog 142 = true := by kernel_rfl
theorem cb143 : callB Try.prog 143 = true := by kernel_rfl
theorem cb144 : callB Try.prog 144 = true := by kernel_rfl
theorem cb15 : callB Try.prog 15 = true := by kernel_rfl
theorem cb16 : callB Try.prog 16 = true := by kernel_rfl
theorem cb161 : callB Try.prog 161 = true := by kernel_rfl
theorem cb173 : callB Try.prog 173 = true := by kernel_rfl
theorem cb174 : callB Try.prog 174 = true := by kernel_rfl
theorem cb185 : callB Try.prog 185 = true := by kernel_rfl
theorem cb193 : callB Try.prog 193 = true := by kernel_rfl
theorem cb194 : callB Try.prog 194 = true := by kernel_rfl
theorem cb195 : callB Try.prog 195 = true := by kernel_rfl
theorem cb199 : callB Try.prog 199 = true := by kernel_rfl
theorem cb201 : callB Try.prog 201 = true := by kernel_rfl
theorem cb202 : callB Try.prog 202 = true := by kernel_rfl
theorem cb205 : callB Try.prog 205 = true := by kernel_rfl
theorem cb206 : callB Try.prog 206 = true := by kernel_rfl
theorem cb207 : callB Try.prog 207 = true := by kernel_rfl
theorem cb215 : callB Try.prog 215 = true := by kernel_rfl
theorem cb216 : callB Try.prog 216 = true := by kernel_rfl
theorem cb217 : callB Try.prog 217 = true := by kernel_rfl
theorem cb218 : callB Try.prog 218 = true := by kernel_rfl
theorem cb22 : callB Try.prog 22 = true := by kernel_rfl
theorem cb227 : callB Try.prog 227 = true := by kernel_rfl
theorem cb229 : callB Try.prog 229 = true := by kernel_rfl
theorem cb232 : callB Try.prog 232 = true := by kernel_rfl
theorem cb233 : callB Try.prog 233 = true := by kernel_rfl
theorem cb234 : callB Try.prog 234 = true := by kernel_rfl
theorem cb237 : callB Try.prog 237 = true := by kernel_rfl
theorem cb238 : callB Try.prog 238 = true := by kernel_rfl
theorem cb239 : callB Try.prog 239 = true := by kernel_rfl
theorem cb240 : callB Try.prog 240 = true := by kernel_rfl
theorem cb241 : callB Try.prog 241 = true := by kernel_rfl
theorem cb248 : callB Try.prog 248 = true := by kernel_rfl
theorem cb249 : callB Try.prog 249 = true := by kernel_rfl
theorem cb250 : callB Try.prog 250 = true := by kernel_rfl
theorem cb251 : callB Try.prog 251 = true := by kernel_rfl
theorem cb252 : callB Try.prog 252 = true := by kernel_rfl
theorem cb253 : callB Try.prog 253 = true := by kernel_rfl
theorem cb254 : callB Try.prog 254 = true := by kernel_rfl
theorem cb255 : callB Try.prog 255 = true := by kernel_rfl
theorem cb256 : callB Try.prog 256 = true := by kernel_rfl
theorem cb257 : callB Try.prog 257 = true := by kernel_rfl
theorem cb258 : callB Try.prog 258 = true := by kernel_rfl
theorem cb259 : callB Try.prog 259 = true := by kernel_rfl
theorem cb42 : callB Try.prog 42 = true := by kernel_rfl
theorem cb43 : callB Try.prog 43 = true := by kernel_rfl
theorem cb44 : callB Try.prog 44 = true := by kernel_rfl
theorem cb45 : callB Try.prog 45 = true := by kernel_rfl
theorem cb46 : callB Try.prog 46 = true := by kernel_rfl
theorem cb47 : callB Try.prog 47 = true := by kernel_rfl
theorem cb48 : callB Try.prog 48 = true := by kernel_rfl
theorem cb49 : callB Try.prog 49 = true := by kernel_rfl
theorem cb50 : callB Try.prog 50 = true := by kernel_rfl
theorem cb51 : callB Try.prog 51 = true := by kernel_rfl
theorem cb52 : callB Try.prog 52 = true := by kernel_rfl
theorem cb53 : callB Try.prog 53 = true := by kernel_rfl
theorem cb54 : callB Try.prog 54 = true := by kernel_rfl
theorem cb55 : callB Try.prog 55 = true := by kernel_rfl
theorem cb56 : callB Try.prog 56 = true := by kernel_rfl
theorem cb57 : callB Try.prog 57 = true := by kernel_rfl
theorem cb58 : callB Try.prog 58 = true := by kernel_rfl
theorem cb80 : callB Try.prog 80 = true := by kernel_rfl
theorem el193 : elB Try.prog 193 = some 4 := by kernel_rfl
theorem el22 : elB Try.prog 22 = some 5 := by kernel_rfl
theorem el24 : elB Try.prog 24 = some 62 := by kernel_rfl
theorem el27 : elB Try.prog 27 = some 94 := by kernel_rfl
theorem el31 : elB Try.prog 31 = some 37 := by kernel_rfl
theorem el37 : elB Try.prog 37 = some 3 := by kernel_rfl
theorem fo155_0 : foB Try.prog 155 0 = some 0 := by kernel_rfl
theorem fo155_1 : foB Try.prog 155 1 = some 1 := by kernel_rfl
theorem fo155_2 : foB Try.prog 155 2 = some 2 := by kernel_rfl
theorem fo165_0 : foB Try.prog 165 0 = some 0 := by kernel_rfl
theorem fo165_1 : foB Try.prog 165 1 = some 1 := by kernel_rfl
theorem fo165_2 : foB Try.prog 165 2 = some 2 := by kernel_rfl
theorem fo26_0 : foB Try.prog 26 0 = some 0 := by kernel_rfl
theorem fo26_1 : foB Try.prog 26 1 = some 1 := by kernel_rfl
theorem fo29_0 : foB Try.prog 29 0 = some 0 := by kernel_rfl
theorem fo29_1 : foB Try.prog 29 1 = some 2 := by kernel_rfl
theorem fo62_0 : foB Try.prog 62 0 = some 0 := by kernel_rfl
theorem fo62_1 : foB Try.prog 62 1 = some 1 := by kernel_rfl
theorem fo94_0 : foB Try.prog 94 0 = some 0 := by kernel_rfl
theorem fo94_1 : foB Try.prog 94 1 = some 1 := by kernel_rfl
theorem inf165 : (Try.prog.info? 165).isSome = true := by kernel_rfl
theorem inf24 : (Try.prog.info? 24).isSome = true := by kernel_rfl
theorem inf26 : (Try.prog.info? 26).isSome = true := by kernel_rfl
theorem inf27 : (Try.prog.info? 27).isSome = true := by kernel_rfl
theorem inf29 : (Try.prog.info? 29).isSome = true := by kernel_rfl
theorem inf3 : (Try.prog.info? 3).isSome = true := by kernel_rfl
theorem inf37 : (Try.prog.info? 37).isSome = true := by kernel_rfl
theorem inf4 : (Try.prog.info? 4).isSome = true := by kernel_rfl
theorem inf62 : (Try.prog.info? 62).isSome = true := by kernel_rfl
theorem inf94 : (Try.prog.info? 94).isSome = true := by kernel_rfl
theorem ist62 : istB Try.prog 62 = some 2 := by kernel_rfl
theorem ist94 : istB Try.prog 94 = some 2 := by kernel_rfl
theorem map195 : mapB Try.prog 195 = some (3, 3) := by kernel_rfl
theorem mixed : Try.prog.follows .mixedOrders = true := by kernel_rfl
theorem pl155 : plB Try.prog 155 = some [(0, 1), (1, 1), (2, 1)] := by kernel_rfl
theorem pl165 : plB Try.prog 165 = some [(0, 1), (1, 1), (2, 1)] := by kernel_rfl
theorem pl26 : plB Try.prog 26 = some [(0, 1), (1, 1)] := by kernel_rfl
theorem pl29 : plB Try.prog 29 = some [(0, 2), (2, 1)] := by kernel_rfl
theorem pl62 : plB Try.prog 62 = some [(0, 1), (1, 1)] := by kernel_rfl
theorem pl94 : plB Try.prog 94 = some [(0, 1), (1, 1)] := by kernel_rfl
theorem sz155 : szP Try.prog 155 = 3 := by kernel_rfl
theorem sz165 : szP Try.prog 165 = 3 := by kernel_rfl
theorem sz24 : szP Try.prog 24 = 1 := by kernel_rfl
theorem sz26 : szP Try.prog 26 = 2 := by kernel_rfl
theorem sz27 : szP Try.prog 27 = 1 := by kernel_rfl
theorem sz29 : szP Try.prog 29 = 3 := by kernel_rfl
theorem sz3 : szP Try.prog 3 = 1 := by kernel_rfl
theorem sz37 : szP Try.prog 37 = 1 := by kernel_rfl
theorem sz4 : szP Try.prog 4 = 1 := by kernel_rfl
theorem sz5 : szP Try.prog 5 = 1 := by kernel_rfl
theorem sz62 : szP Try.prog 62 = 2 := by kernel_rfl
theorem sz94 : szP Try.prog 94 = 2 := by kernel_rfl
theorem ti155 : TI Try.prog 155 (.agg #[(.slice none 0 0), (.int .i64 0), (.int .i64 0)]) 3 40 := by unfold TI; kernel_rfl
theorem ti165 : TI Try.prog 165 (.agg #[(.slice none 0 0), (.slice none 0 0), (.slice none 0 0)]) 3 72 := by unfold TI; kernel_rfl
theorem ti26 : TI Try.prog 26 (.agg #[(.int .i64 0), (.slice none 0 0)]) 2 32 := by unfold TI; kernel_rfl
theorem ti29 : TI Try.prog 29 (.agg #[(.int .i64 0), (.slice none 0 0), (.slice none 0 0)]) 3 56 := by unfold TI; kernel_rfl
theorem ti3 : TI Try.prog 3 (.int .i64 0) 1 8 := by unfold TI; kernel_rfl
theorem ti37 : TI Try.prog 37 (.slice none 0 0) 1 24 := by unfold TI; kernel_rfl
theorem ti4 : TI Try.prog 4 (.bool false) 1 1 := by unfold TI; kernel_rfl
theorem ti62 : TI Try.prog 62 (.agg #[(.int .i64 0), (.int .i64 0)]) 2 16 := by unfold TI; kernel_rfl
theorem ti94 : TI Try.prog 94 (.agg #[(.int .i64 0), (.int .i64 0)]) 2 16 := by unfold TI; kernel_rfl
theorem und193 : Try.prog.underlying 193 = some (.slice 4) := by kernel_rfl
theorem und22 : Try.prog.underlying 22 = some (.slice 5) := by kernel_rfl
theorem und24 : Try.prog.underlying 24 = some (.slice 62) := by kernel_rfl
theorem und27 : Try.prog.underlying 27 = some (.slice 94) := by kernel_rfl
theorem und3 : Try.prog.underlying 3 = some (.int .i64) := by kernel_rfl
theorem und31 : Try.prog.underlying 31 = some (.slice 37) := by kernel_rfl
theorem und37 : Try.prog.underlying 37 = some (.slice 3) := by kernel_rfl
theorem und4 : Try.prog.underlying 4 = some .bool := by kernel_rfl
theorem undS5 : (Try.prog.underlying 5).isSome = true := by kernel_rfl
end Go.Proofs.Ytghofbijdnenoaa
end
section
set_option linter.unusedVariables false
set_option linter.unusedSimpArgs false
set_option linter.unnecessarySimpa false
set_option maxRecDepth 100000
set_option maxHeartbeats 8000000
open Go Go.Fw
namespace Go.Proofs.Ytghofbijdnenoaa
theorem w_spec_l2After (a : TBar) (b : TBar) : ∀ t,m_spec_l2After a b = some t → Fw.Fn Try.prog 207 [(.agg [(iC a.A),(iC a.B)]),(.agg [(iC b.A),(iC b.B)])] [] (.s (.c (bC t))) [] [] [] := by
 refine Fw.Fn.of (P := Try.prog) (X := []) (pn := []) (rs := (fun (t : Bool) => [(.c (bC t))])) (dfs := (fun (t : Bool) => [])) Try.func207 Q Try.ntmps207 (K Q) Q ?_
 intro w0 U0 R0 g0
 unfold m_spec_l2After
 refine Ws (Wr ?_)
 refine Os10 (LT.box (n := 21) (v := (.agg [(iC a.A),(iC a.B)])) Q sz62 (by exact Q)) Q Q Q (Os10 (LT.box (n := 22) (v := (.agg [(iC b.A),(iC b.B)])) Q sz62 (by exact Q)) Q Q Q (asg (Bv false) Q y2 Q Q (On (Ws ?_))))
 refine AWR.joinK (fun j3 => ([(4,(Bv j3))],[])) ?_ (fun j3 _ => ?_)
 ·refine Wr (Op10 (LT.fieldPl Q fo62_0) Q Q Q (Op11 (LT.bload1 (c := (iC a.A)) Q ag3 (by exact Q)) Q Q Q Q (Op10 (LT.fieldPl Q fo62_0) Q Q Q (Op11 (LT.bload1 (c := (iC b.A)) Q ag3 (by exact Q)) Q Q Q Q (Op20 (LT.lss Q) Q Q Q Q (mv (Bv (decide (a.A < b.A))) Q Q Q Q (AOR.split (fun hb4 => ?_) (fun hb4 => ?_))))))))
  ·refine Ok Q Q Q (by rw [hb4]; rfl) Q (Ok Q Q Q (by rw [hb4]; rfl) Q (Ok Q Q Q (by rw [hb4]; rfl) Q (Ok Q Q Q (by rw [hb4]; rfl) Q (Ok Q Q Q (by rw [hb4]; rfl) Q (Ok Q Q Q (by rw [hb4]; rfl) Q (Oj Q Q Q Q (Oj Q Q Q Q (Oj Q Q Q Q (Oj Q Q Q Q (Oj Q Q Q Q (Ok Q Q Q (by rw [hb4]; rfl) Q ?_)))))))))))
   refine Op20 (LT.pickT (v := (Bv true)) Q hb4) Q y2 Q Q (asg (Bv true) Q Q Q Q (On (AWR.nil ⟨Q,Ent.of z1 J⟩)))
  ·refine Op10 (LT.fieldPl Q fo62_0) Q (gH hb4 Q Q) Q (Op11 (LT.bload1 (c := (iC a.A)) Q ag3 (by exact Q)) Q Q (gH hb4 Q Q) Q (Op10 (LT.fieldPl Q fo62_0) Q (gH hb4 Q Q) Q (Op11 (LT.bload1 (c := (iC b.A)) Q ag3 (by exact Q)) Q Q (gH hb4 Q Q) Q (Op20 (LT.eql Q) Q Q (gH hb4 Q Q) Q (mv (Bv (a.A == b.A)) Q Q (gH hb4 Q Q) Q (AOR.split (fun hb5 => ?_) (fun hb5 => ?_)))))))
   ·refine Op10 (LT.fieldPl Q fo62_1) Q (gH hb5 Q Q) Q (Op11 (LT.bload1 (c := (iC a.B)) Q ag3 (by exact Q)) Q Q (gH hb5 Q Q) Q (Op10 (LT.fieldPl Q fo62_1) Q (gH hb5 Q Q) Q (Op11 (LT.bload1 (c := (iC b.B)) Q ag3 (by exact Q)) Q Q (gH hb5 Q Q) Q (Op20 (LT.leq Q) Q Q (gH hb5 Q Q) Q (Op20 (LT.pickT (v := (Bv (decide (a.B ≤ b.B)))) Q hb5) Q Q (gH hb4 Q Q) Q (Op20 (LT.pickF (v := (Bv (decide (a.B ≤ b.B)))) Q hb4) Q Q Q Q (asg (Bv (decide (a.B ≤ b.B))) Q Q Q Q (On (AWR.nil ⟨Q,Ent.of z1 J⟩)))))))))
   ·refine Ok Q Q Q (by rw [hb5]; rfl) Q (Ok Q Q Q (by rw [hb5]; rfl) Q (Ok Q Q Q (by rw [hb5]; rfl) Q (Ok Q Q Q (by rw [hb5]; rfl) Q (Ok Q Q Q (by rw [hb5]; rfl) Q (Op20 (LT.pickF (v := (Bv false)) Q hb5) Q y2 (gH hb4 Q Q) Q (Op20 (LT.pickF (v := (Bv false)) Q hb4) Q Q Q Q (asg (Bv false) Q Q Q Q (On (AWR.nil ⟨Q,Ent.of z1 J⟩)))))))))
 ·refine AWR.ret (FPost.mk (.inr Q) z1 J Q ⟨PermP.sc,J⟩ J)
theorem w_spec_l1In (x : Int) (low : Int) (high : Int) : ∀ t,m_spec_l1In x low high = some t → Fw.Fn Try.prog 110 [(.c (iC x)),(.c (iC low)),(.c (iC high))] [] (.s (.c (bC t))) [] [] [] := by
 refine Fw.Fn.of (P := Try.prog) (X := []) (pn := []) (rs := (fun (t : Bool) => [(.c (bC t))])) (dfs := (fun (t : Bool) => [])) Try.func110 Q Try.ntmps110 (K Q) Q ?_
 intro w0 U0 R0 g0
 unfold m_spec_l1In
 refine Ws (Wr ?_)
 refine asg (Bv false) Q y2 Q Q (On (Ws ?_))
 refine AWR.joinK (fun j2 => ([(6,(Bv j2))],[])) ?_ (fun j2 _ => ?_)
 ·refine Wr (mv (Iv x) Q Q Q Q (mv (Iv low) Q Q Q Q (Op20 (LT.geq Q) Q Q Q Q (mv (Bv (decide (low ≤ x))) Q Q Q Q (AOR.split (fun hb3 => ?_) (fun hb3 => ?_))))))
  ·refine mv (Iv x) Q Q (gH hb3 Q Q) Q (mv (Iv high) Q Q (gH hb3 Q Q) Q (Op20 (LT.leq Q) Q Q (gH hb3 Q Q) Q (Op20 (LT.pickT (v := (Bv (decide (x ≤ high)))) Q hb3) Q Q Q Q (asg (Bv (decide (x ≤ high))) Q Q Q Q (On (AWR.nil ⟨Q,Ent.of z1 J⟩))))))
  ·refine Ok Q Q Q (by rw [hb3]; rfl) Q (Ok Q Q Q (by rw [hb3]; rfl) Q (Ok Q Q Q (by rw [hb3]; rfl) Q (Op20 (LT.pickF (v := (Bv false)) Q hb3) Q y2 Q Q (asg (Bv false) Q Q Q Q (On (AWR.nil ⟨Q,Ent.of z1 J⟩))))))
 ·refine AWR.ret (FPost.mk (.inr Q) z1 J Q ⟨PermP.sc,J⟩ J)
theorem w_spec_IsGraph (g : TGraph) : ∀ t,m_spec_IsGraph g = some t → Fw.Fn Try.prog 109 [(.agg [(iC g.Points),(xF encTBar g.Bars)])] [] (.s (.c (bC t))) [] [] [] := by
 refine Fw.Fn.of (P := Try.prog) (X := []) (pn := []) (rs := (fun (t : Bool) => [(.c (bC t))])) (dfs := (fun (t : Bool) => [])) Try.func109 Q Try.ntmps109 (K Q) Q ?_
 intro w0 U0 R0 g0
 unfold m_spec_IsGraph
 refine Ws (Wr ?_)
 refine Os10 (LT.box (n := 21) (v := (.agg [(iC g.Points),(xF encTBar g.Bars)])) Q sz26 (by exact Q)) Q Q Q (asg (Bv false) Q y2 Q Q (On (Ws (Ws ?_))))
 refine AWR.joinK (fun j3 => ([(1,(Cc (.pl 21 0))),(14,(Bv j3))],[(21,(.row 26 [[(iC g.Points),(xF encTBar g.Bars)]]))])) ?_ (fun j3 _ => ?_)
 ·refine Wr (Op10 (LT.fieldPl Q fo26_0) Q Q Q (Op11 (LT.bload1 (c := (iC g.Points)) Q ag3 (by exact Q)) Q Q Q Q (Ob' fun r4 hr4 => (AOR.pure (@LT.callF Try.prog _ _ 110 _ _ [(.c (iC g.Points)),(.c (iC 1)),(.c (iC 8))] _ _ [] _ _ _ _ (w_spec_l1In g.Points 1 8 r4 hr4) Q cb110 (.cons (.c (.same Q)) (.cons (.c (.same Q)) (.cons (.c (.same Q)) .nil))) Q Q J) ⟨Q,Q,y2,y2,J⟩ J Q Q (Op10 (LT.not Q) Q Q Q (mv (Bv (!r4)) Q Q Q Q (AOR.split (fun hb5 => ?_) (fun hb5 => ?_))))))))
  ·refine Ok Q Q Q (by rw [hb5]; rfl) Q (Ok Q Q Q (by rw [hb5]; rfl) Q (Ok Q Q Q (by rw [hb5]; rfl) Q (Ok Q Q Q (by rw [hb5]; rfl) Q (Op20 (LT.pickT (v := (Bv true)) Q hb5) Q y2 Q Q (On (AWR.nil ⟨Q,Ent.of z2 z1⟩))))))
  ·refine Op10 (LT.fieldPl Q fo26_1) Q (gH hb5 Q Q) Q (Op11 (LT.bload1 (c := (xF encTBar g.Bars)) Q ag24 (by exact Q)) Q Q (gH hb5 Q Q) Q (Op10 (LT.tlenRO Q und24) Q (gH hb5 Q Q) Q (Op20 (LT.gtr Q) Q y2 (gH hb5 Q Q) Q (Op20 (LT.pickF (v := (Bv (decide (24 < (g.Bars.length : Int))))) Q hb5) Q Q Q Q (On (AWR.nil ⟨Q,Ent.of z2 z1⟩))))))
 ·refine AWR.cond Q (fun hc6 => ?_) (fun hc6 => ?_)
  ·refine Ws (Wr ?_)
   refine asg (Bv false) Q y2 Q Q (On (AWR.ret (FPost.mk (.inr Q) z1 J Q ⟨PermP.sc,J⟩ J)))
  ·refine AWR.skip (Ws (Ws (Wr ?_)))
   refine asg (Iv 0) Q y2 Q Q (On (AWR.block ?_))
   refine AWR.loopR (id := 0) (m_spec_IsGraph_L1 g) (fun s7 => ([(1,(Cc (.pl 21 0))),(3,(Iv s7))],[(21,(.row 26 [[(iC g.Points),(xF encTBar g.Bars)]]))])) (fun b40 => ([],[])) (FPost Try.prog Try.f109.results.toList [] [] (fun (t : Bool) => [(.c (bC t))]) (fun (t : Bool) => [])) ?_ (Ent.of z2 z1) Q (fun b40 _ => ?_) (by intro r t σ m ht hk; injection ht with ht; subst ht; exact hk)
   ·intro s7
    unfold m_spec_IsGraph_L1
    refine Ws (Ws (Wr ?_))
    refine mv (Iv s7) Q Q Q Q (Op10 (LT.fieldPl Q fo26_1) Q Q Q (Op11 (LT.bload1 (c := (xF encTBar g.Bars)) Q ag24 (by exact Q)) Q Q Q Q (Op10 (LT.tlenRO Q und24) Q Q Q (Op20 (LT.lss Q) Q Q Q Q (On (AWR.cond Q (fun hc41 => ?_) (fun hc41 => ?_)))))))
    ·refine AWR.skip (Ws (AWR.block (Ws (Wr ?_))))
     refine Op10 (LT.fieldPl Q fo26_1) Q Q Q (Op11 (LT.bload1 (c := (xF encTBar g.Bars)) Q ag24 (by exact Q)) Q Q Q Q (mv (Iv s7) Q Q Q Q (Ob' fun x42 hx42 => (Op20 (LT.tindexRO (enc := encTBar) Q el24 hx42 sz62) Q Q Q Q (Op10 (LT.loadPxN Q ag62 (infS inf62) (by exact sz62.symm)) Q Q Q (Os00 (LT.alloc (n := 23) (cells := [(iC 0),(iC 0)]) Q ti62 Q Q Q) Q Q (Os21 (LT.bstore (v := (.agg [(iC x42.A),(iC x42.B)])) (out := [(iC x42.A),(iC x42.B)]) Q Q (infS inf62) sz62 (by exact Q) (by exact K Q) (by exact Q)) Q Q Q Q Q (On (Ws ?_)))))))))
     refine AWR.joinK (fun j49 => ([(1,(Cc (.pl 21 0))),(3,(Iv s7)),(58,(Bv j49))],[(21,(.row 26 [[(iC g.Points),(xF encTBar g.Bars)]]))])) ?_ (fun j49 _ => ?_)
     ·refine en [(1,(Cc (.pl 21 0))),(3,(Iv s7)),(4,(Cc (.pl 23 0)))] [(21,(.row 26 [[(iC g.Points),(xF encTBar g.Bars)]])),(23,(.row 62 [[(iC x42.A),(iC x42.B)]]))] z3 z2 (AWR.draw mixed (Dp10 (LT.fieldPl Q fo62_0) Q Q Q (Dp11 (LT.bload1 (c := (iC x42.A)) Q ag3 (by exact Q)) Q Q Q Q (Dp20 (LT.lss Q) Q y2 Q Q (Dp10 (LT.move (v := (Bv (decide (x42.A < 0)))) Q) Q Q Q (AOD.split (fun hb50 => ?_) (fun hb50 => ?_)))))))
      ·refine AOD.skip (gH hb50 Q Q) Q (AOD.skip (gH hb50 Q Q) Q (AOD.skip (gH hb50 Q Q) Q (AOD.skip (gH hb50 Q Q) Q (AOD.skip (gH hb50 Q Q) Q (Dp20 (LT.pickT (v := (Bv true)) Q hb50) Q y2 Q Q (Dp10 (LT.move (v := (Bv true)) Q) Q Q Q (AOD.skip (gS Q Q) Q (AOD.skip (gS Q Q) Q (AOD.skip (gS Q Q) Q (AOD.skip (gS Q Q) Q (AOD.skip (gS Q Q) Q ?_)))))))))))
       refine Dp20 (LT.pickT (v := (Bv true)) Q Q) Q y2 Q Q (Dp10 (LT.move (v := (Bv true)) Q) Q Q Q (AOD.skip (gS Q Q) Q (AOD.skip (gS Q Q) Q (AOD.skip (gS Q Q) Q (AOD.skip (gS Q Q) Q (AOD.skip (gS Q Q) Q (AOD.skip (gS Q Q) Q (AOD.skip (gS Q Q) Q (AOD.skip (gS Q Q) Q (AOD.skip (gS Q Q) Q (AOD.skip (gS Q Q) Q ?_)))))))))))
       refine AOD.skip (gS Q Q) Q (AOD.skip (gS Q Q) Q (AOD.skip (gS Q Q) Q (Dp20 (LT.pickT (v := (Bv true)) Q Q) Q y2 Q Q (AOD.nil (by kernel_rfl) (AWR.nil ⟨Q,Ent.of z3 z1⟩)))))
      ·refine Dp10 (LT.fieldPl Q fo62_0) Q (gH hb50 Q Q) Q (Dp11 (LT.bload1 (c := (iC x42.A)) Q ag3 (by exact Q)) Q Q (gH hb50 Q Q) Q (Dp10 (LT.fieldPl Q fo62_1) Q (gH hb50 Q Q) Q (Dp11 (LT.bload1 (c := (iC x42.B)) Q ag3 (by exact Q)) Q Q (gH hb50 Q Q) Q (Dp20 (LT.geq Q) Q Q (gH hb50 Q Q) Q (Dp20 (LT.pickF (v := (Bv (decide (x42.B ≤ x42.A)))) Q hb50) Q Q Q Q (Dp10 (LT.move (v := (Bv (decide (x42.B ≤ x42.A)))) Q) Q Q Q (AOD.split (fun hb51 => ?_) (fun hb51 => ?_))))))))
       ·refine AOD.skip (gH hb51 Q Q) Q (AOD.skip (gH hb51 Q Q) Q (AOD.skip (gH hb51 Q Q) Q (AOD.skip (gH hb51 Q Q) Q (AOD.skip (gH hb51 Q Q) Q (Dp20 (LT.pickT (v := (Bv true)) Q hb51) Q y2 Q Q (Dp10 (LT.move (v := (Bv true)) Q) Q Q Q (AOD.skip (gS Q Q) Q (AOD.skip (gS Q Q) Q (AOD.skip (gS Q Q) Q (AOD.skip (gS Q Q) Q (AOD.skip (gS Q Q) Q ?_)))))))))))
        refine AOD.skip (gS Q Q) Q (AOD.skip (gS Q Q) Q (AOD.skip (gS Q Q) Q (AOD.skip (gS Q Q) Q (AOD.skip (gS Q Q) Q (AOD.skip (gS Q Q) Q (AOD.skip (gS Q Q) Q (AOD.skip (gS Q Q) Q (Dp20 (LT.pickT (v := (Bv true)) Q Q) Q y2 Q Q (AOD.nil (by kernel_rfl) (AWR.nil ⟨Q,Ent.of z3 z1⟩))))))))))
       ·refine Dp10 (LT.fieldPl Q fo62_1) Q (gH hb51 Q Q) Q (Dp11 (LT.bload1 (c := (iC x42.B)) Q ag3 (by exact Q)) Q Q (gH hb51 Q Q) Q (Dp10 (LT.fieldPl Q fo26_0) Q (gH hb51 Q Q) Q (Dp11 (LT.bload1 (c := (iC g.Points)) Q ag3 (by exact Q)) Q Q (gH hb51 Q Q) Q (Dp20 (LT.geq Q) Q Q (gH hb51 Q Q) Q (Dp20 (LT.pickF (v := (Bv (decide (g.Points ≤ x42.B)))) Q hb51) Q Q Q Q (Dp10 (LT.move (v := (Bv (decide (g.Points ≤ x42.B)))) Q) Q Q Q (AOD.split (fun hb52 => ?_) (fun hb52 => ?_))))))))
        ·refine AOD.skip (gH hb52 Q Q) Q (AOD.skip (gH hb52 Q Q) Q (AOD.skip (gH hb52 Q Q) Q (AOD.skip (gS Q Q) Q (AOD.skip (gS Q Q) Q (AOD.skip (gS Q Q) Q (AOD.skip (gS Q Q) Q (AOD.skip (gS Q Q) Q (AOD.skip (gS Q Q) Q (AOD.skip (gS Q Q) Q (AOD.skip (gS Q Q) Q (AOD.skip (gS Q Q) Q ?_)))))))))))
         refine AOD.skip (gH hb52 Q Q) Q (Dp20 (LT.pickT (v := (Bv true)) Q hb52) Q y2 Q Q (AOD.nil (by kernel_rfl) (AWR.nil ⟨Q,Ent.of z3 z1⟩)))
        ·refine Dp10 (LT.move (v := (Iv s7)) Q) Q (gH hb52 Q Q) Q (Dp20 (LT.gtr Q) Q y2 (gH hb52 Q Q) Q (Dp10 (LT.move (v := (Bv (decide (0 < s7)))) Q) Q (gH hb52 Q Q) Q (AOD.split (fun hb53 => ?_) (fun hb53 => ?_))))
         ·refine Dp10 (LT.fieldPl Q fo26_1) Q (gH hb53 Q Q) Q (Dp11 (LT.bload1 (c := (xF encTBar g.Bars)) Q ag24 (by exact Q)) Q Q (gH hb53 Q Q) Q (Dp10 (LT.move (v := (Iv s7)) Q) Q (gH hb53 Q Q) Q (Dp20 (LT.sub Q) Q y2 (gH hb53 Q Q) Q (AOD.bind fun x54 hx54 => (Dp20 (LT.tindexRO (enc := encTBar) Q el24 hx54 sz62) Q Q (gH hb53 Q Q) Q (Dp10 (LT.loadPxN Q ag62 (infS inf62) (by exact sz62.symm)) Q (gH hb53 Q Q) Q (Dp11 (LT.bloadN (out := [(iC x42.A),(iC x42.B)]) Q ag62 (infS inf62) sz62 (by exact Q) (by exact Q)) Q Q (gH hb53 Q Q) Q (AOD.bind fun r55 hr55 => (AOD.pure (@LT.callF Try.prog _ _ 207 _ _ [(.agg [(iC x54.A),(iC x54.B)]),(.agg [(iC x42.A),(iC x42.B)])] _ _ [] _ _ _ _ (w_spec_l2After x54 x42 r55 hr55) Q cb207 (.cons (.agg (.cons (.same Q) (.cons (.same Q) .nil))) (.cons (.agg (.cons (.same Q) (.cons (.same Q) .nil))) .nil)) Q Q J) z3 J (gH hb53 Q Q) Q (Dp10 (LT.not Q) Q (gH hb53 Q Q) Q (Dp20 (LT.pickT (v := (Bv (!r55))) Q hb53) Q Q (gH hb52 Q Q) Q ?_)))))))))))
          refine Dp20 (LT.pickF (v := (Bv (!r55))) Q hb52) Q Q Q Q (AOD.nil (by kernel_rfl) (AWR.nil ⟨Q,Ent.of z3 z1⟩))
         ·refine AOD.skip (gH hb53 Q Q) Q (AOD.skip (gH hb53 Q Q) Q (AOD.skip (gH hb53 Q Q) Q (AOD.skip (gH hb53 Q Q) Q (AOD.skip (gH hb53 Q Q) Q (AOD.skip (gH hb53 Q Q) Q (AOD.skip (gH hb53 Q Q) Q (AOD.skip (gH hb53 Q Q) Q (AOD.skip (gH hb53 Q Q) Q (Dp20 (LT.pickF (v := (Bv false)) Q hb53) Q y2 (gH hb52 Q Q) Q (Dp20 (LT.pickF (v := (Bv false)) Q hb52) Q Q Q Q (AOD.nil (by kernel_rfl) ?_)))))))))))
          refine AWR.nil ⟨Q,Ent.of z3 z1⟩
     ·refine AWR.cond Q (fun hc56 => ?_) (fun hc56 => ?_)
      ·refine Ws (Wr ?_)
       refine asg (Bv false) Q y2 Q Q (On (AWR.ret ⟨Q,FPost.mk (.inr Q) z1 J Q ⟨PermP.sc,J⟩ J⟩))
      ·refine AWR.skip (AWR.blk (Wr ?_))
       refine mv (Iv s7) Q Q Q Q (Op20 (LT.add Q) Q y2 Q Q (asg (Iv (w64 (s7 + 1))) Q Q Q Q (On (AWR.nil ⟨Q,Ent.of z2 z1⟩))))
    ·refine AWR.exit_end Q ⟨Q,Ent.of J J⟩
   ·refine Ws (Wr ?_)
    refine asg (Bv true) Q y2 Q Q (On (AWR.ret (FPost.mk (.inr Q) z1 J Q ⟨PermP.sc,J⟩ J)))
theorem w_impl_within (x : Int) (loV : Int) (hi : Int) : ∀ t,m_impl_within x loV hi = some t → Fw.Fn Try.prog 128 [(.c (iC x)),(.c (iC loV)),(.c (iC hi))] [] (.s (.c (bC t))) [] [] [] := by
 refine Fw.Fn.of (P := Try.prog) (X := []) (pn := []) (rs := (fun (t : Bool) => [(.c (bC t))])) (dfs := (fun (t : Bool) => [])) Try.func128 Q Try.ntmps128 (K Q) Q ?_
 intro w0 U0 R0 g0
 unfold m_impl_within
 refine Ws (Wr ?_)
 refine asg (Bv false) Q y2 Q Q (On (Ws ?_))
 refine AWR.joinK (fun j2 => ([(6,(Bv j2))],[])) ?_ (fun j2 _ => ?_)
 ·refine Wr (mv (Iv x) Q Q Q Q (mv (Iv loV) Q Q Q Q (Op20 (LT.geq Q) Q Q Q Q (mv (Bv (decide (loV ≤ x))) Q Q Q Q (AOR.split (fun hb3 => ?_) (fun hb3 => ?_))))))
  ·refine mv (Iv x) Q Q (gH hb3 Q Q) Q (mv (Iv hi) Q Q (gH hb3 Q Q) Q (Op20 (LT.leq Q) Q Q (gH hb3 Q Q) Q (Op20 (LT.pickT (v := (Bv (decide (x ≤ hi)))) Q hb3) Q Q Q Q (asg (Bv (decide (x ≤ hi))) Q Q Q Q (On (AWR.nil ⟨Q,Ent.of z1 J⟩))))))
  ·refine Ok Q Q Q (by rw [hb3]; rfl) Q (Ok Q Q Q (by rw [hb3]; rfl) Q (Ok Q Q Q (by rw [hb3]; rfl) Q (Op20 (LT.pickF (v := (Bv false)) Q hb3) Q y2 Q Q (asg (Bv false) Q Q Q Q (On (AWR.nil ⟨Q,Ent.of z1 J⟩))))))
 ·refine AWR.ret (FPost.mk (.inr Q) z1 J Q ⟨PermP.sc,J⟩ J)
theorem w_impl_compareInts (a : Int) (b : Int) : ∀ t,m_impl_compareInts a b = some t → Fw.Fn Try.prog 248 [(.c (iC a)),(.c (iC b))] [] (.s (.c (iC t))) [] [] [] := by
 refine Fw.Fn.of (P := Try.prog) (X := []) (pn := []) (rs := (fun (t : Int) => [(.c (iC t))])) (dfs := (fun (t : Int) => [])) Try.func248 Q Try.ntmps248 (K Q) Q ?_
 intro w0 U0 R0 g0
 unfold m_impl_compareInts
 refine Ws (Wr ?_)
 refine asg (Iv 0) Q y2 Q Q (On (Ws (AWR.block (Ws (Wr ?_)))))
 refine mv (Iv a) Q Q Q Q (mv (Iv b) Q Q Q Q (Op20 (LT.lss Q) Q Q Q Q (asg (Bv (decide (a < b))) Q Q Q Q (On (AWR.cond Q (fun hc1 => ?_) (fun hc1 => ?_))))))
 ·refine Ws (Wr ?_)
  refine asg (Iv (-1)) Q y2 Q Q (On (AWR.ret (FPost.mk (.inr Q) z1 J Q ⟨PermP.sc,J⟩ J)))
 ·refine Ws (Wr ?_)
  refine mv (Iv a) Q Q Q Q (mv (Iv b) Q Q Q Q (Op20 (LT.gtr Q) Q Q Q Q (asg (Bv (decide (b < a))) Q Q Q Q (On (AWR.cond Q (fun hc2 => ?_) (fun hc2 => ?_))))))
  ·refine Ws (Wr ?_)
   refine asg (Iv 1) Q y2 Q Q (On (AWR.ret (FPost.mk (.inr Q) z1 J Q ⟨PermP.sc,J⟩ J)))
  ·refine AWR.skip (AWR.blk (Ws (Wr ?_)))
   refine asg (Iv 0) Q y2 Q Q (On (AWR.ret (FPost.mk (.inr Q) z1 J Q ⟨PermP.sc,J⟩ J)))
theorem w_impl_compareBars (x : TBar) (y : TBar) : ∀ t,m_impl_compareBars x y = some t → Fw.Fn Try.prog 227 [(.agg [(iC x.A),(iC x.B)]),(.agg [(iC y.A),(iC y.B)])] [] (.s (.c (iC t))) [] [] [] := by
 refine Fw.Fn.of (P := Try.prog) (X := []) (pn := []) (rs := (fun (t : Int) => [(.c (iC t))])) (dfs := (fun (t : Int) => [])) Try.func227 Q Try.ntmps227 (K Q) Q ?_
 intro w0 U0 R0 g0
 unfold m_impl_compareBars
 refine Ws (Wr ?_)
 refine Os10 (LT.box (n := 21) (v := (.agg [(iC x.A),(iC x.B)])) Q sz62 (by exact Q)) Q Q Q (Os10 (LT.box (n := 22) (v := (.agg [(iC y.A),(iC y.B)])) Q sz62 (by exact Q)) Q Q Q (asg (Iv 0) Q y2 Q Q (On (Ws (Ws (Wr ?_))))))
 refine Op10 (LT.fieldPl Q fo62_0) Q Q Q (Op11 (LT.bload1 (c := (iC x.A)) Q ag3 (by exact Q)) Q Q Q Q (Op10 (LT.fieldPl Q fo62_0) Q Q Q (Op11 (LT.bload1 (c := (iC y.A)) Q ag3 (by exact Q)) Q Q Q Q (Ob' fun r1 hr1 => (AOR.pure (@LT.callF Try.prog _ _ 248 _ _ [(.c (iC x.A)),(.c (iC y.A))] _ _ [] _ _ _ _ (w_impl_compareInts x.A y.A r1 hr1) Q cb248 (.cons (.c (.same Q)) (.cons (.c (.same Q)) .nil)) Q Q J) z3 J Q Q (asg (Iv r1) Q Q Q Q (On (Ws ?_))))))))
 refine en [(2,(Cc (.pl 21 0))),(3,(Cc (.pl 22 0))),(5,(Iv r1))] [(21,(.row 62 [[(iC x.A),(iC x.B)]])),(22,(.row 62 [[(iC y.A),(iC y.B)]]))] z3 z2 (Wr (mv (Iv r1) Q Q Q Q (Op20 (LT.neq Q) Q y2 Q Q (On (AWR.cond Q (fun hc2 => ?_) (fun hc2 => ?_))))))
 ·refine Ws (Wr ?_)
  refine mv (Iv r1) Q Q Q Q (asg (Iv r1) Q Q Q Q (On (AWR.ret (FPost.mk (.inr Q) z1 J Q ⟨PermP.sc,J⟩ J))))
 ·refine AWR.skip (Ws (Wr ?_))
  refine Op10 (LT.fieldPl Q fo62_1) Q Q Q (Op11 (LT.bload1 (c := (iC x.B)) Q ag3 (by exact Q)) Q Q Q Q (Op10 (LT.fieldPl Q fo62_1) Q Q Q (Op11 (LT.bload1 (c := (iC y.B)) Q ag3 (by exact Q)) Q Q Q Q (Ob' fun r3 hr3 => (AOR.pure (@LT.callF Try.prog _ _ 248 _ _ [(.c (iC x.B)),(.c (iC y.B))] _ _ [] _ _ _ _ (w_impl_compareInts x.B y.B r3 hr3) Q cb248 (.cons (.c (.same Q)) (.cons (.c (.same Q)) .nil)) Q Q J) z3 J Q Q (asg (Iv r3) Q Q Q Q (On (AWR.ret (FPost.mk (.inr Q) z1 J Q ⟨PermP.sc,J⟩ J)))))))))
theorem w_impl_IsGraph (g : TGraph) : ∀ t,m_impl_IsGraph g = some t → Fw.Fn Try.prog 173 [(.agg [(iC g.Points),(xF encTBar g.Bars)])] [] (.s (.c (bC t))) [] [] [] := by
 refine Fw.Fn.of (P := Try.prog) (X := []) (pn := []) (rs := (fun (t : Bool) => [(.c (bC t))])) (dfs := (fun (t : Bool) => [])) Try.func173 Q Try.ntmps173 (K Q) Q ?_
 intro w0 U0 R0 g0
 unfold m_impl_IsGraph
 refine Ws (Wr ?_)
 refine Os10 (LT.box (n := 21) (v := (.agg [(iC g.Points),(xF encTBar g.Bars)])) Q sz26 (by exact Q)) Q Q Q (asg (Bv false) Q y2 Q Q (On (Ws (Ws ?_))))
 refine AWR.joinK (fun j3 => ([(1,(Cc (.pl 21 0))),(14,(Bv j3))],[(21,(.row 26 [[(iC g.Points),(xF encTBar g.Bars)]]))])) ?_ (fun j3 _ => ?_)
 ·refine Wr (Op10 (LT.fieldPl Q fo26_0) Q Q Q (Op11 (LT.bload1 (c := (iC g.Points)) Q ag3 (by exact Q)) Q Q Q Q (Ob' fun r4 hr4 => (AOR.pure (@LT.callF Try.prog _ _ 128 _ _ [(.c (iC g.Points)),(.c (iC 1)),(.c (iC 8))] _ _ [] _ _ _ _ (w_impl_within g.Points 1 8 r4 hr4) Q cb128 (.cons (.c (.same Q)) (.cons (.c (.same Q)) (.cons (.c (.same Q)) .nil))) Q Q J) ⟨Q,Q,y2,y2,J⟩ J Q Q (Op10 (LT.not Q) Q Q Q (mv (Bv (!r4)) Q Q Q Q (AOR.split (fun hb5 => ?_) (fun hb5 => ?_))))))))
  ·refine Ok Q Q Q (by rw [hb5]; rfl) Q (Ok Q Q Q (by rw [hb5]; rfl) Q (Ok Q Q Q (by rw [hb5]; rfl) Q (Ok Q Q Q (by rw [hb5]; rfl) Q (Op20 (LT.pickT (v := (Bv true)) Q hb5) Q y2 Q Q (On (AWR.nil ⟨Q,Ent.of z2 z1⟩))))))
  ·refine Op10 (LT.fieldPl Q fo26_1) Q (gH hb5 Q Q) Q (Op11 (LT.bload1 (c := (xF encTBar g.Bars)) Q ag24 (by exact Q)) Q Q (gH hb5 Q Q) Q (Op10 (LT.tlenRO Q und24) Q (gH hb5 Q Q) Q (Op20 (LT.gtr Q) Q y2 (gH hb5 Q Q) Q (Op20 (LT.pickF (v := (Bv (decide (24 < (g.Bars.length : Int))))) Q hb5) Q Q Q Q (On (AWR.nil ⟨Q,Ent.of z2 z1⟩))))))
 ·refine AWR.cond Q (fun hc6 => ?_) (fun hc6 => ?_)
  ·refine Ws (Wr ?_)
   refine asg (Bv false) Q y2 Q Q (On (AWR.ret (FPost.mk (.inr Q) z1 J Q ⟨PermP.sc,J⟩ J)))
  ·refine AWR.skip (Ws (Ws (Wr ?_)))
   refine Op10 (LT.fieldPl Q fo26_1) Q Q Q (Op11 (LT.bload1 (c := (xF encTBar g.Bars)) Q ag24 (by exact Q)) Q Q Q Q (Op10 (LT.tlenRO Q und24) Q Q Q (mv (Iv 0) Q y2 Q Q (On (AWR.block ?_)))))
   refine AWR.loopR (id := 0) (m_impl_IsGraph_L1 g) (fun s7 => ([(1,(Cc (.pl 21 0))),(16,(Cc (xF encTBar g.Bars))),(17,(Iv (g.Bars.length : Int))),(18,(Iv s7))],[(21,(.row 26 [[(iC g.Points),(xF encTBar g.Bars)]]))])) (fun b40 => ([],[])) (FPost Try.prog Try.f173.results.toList [] [] (fun (t : Bool) => [(.c (bC t))]) (fun (t : Bool) => [])) ?_ (Ent.of z4 z1) Q (fun b40 _ => ?_) (by intro r t σ m ht hk; injection ht with ht; subst ht; exact hk)
   ·intro s7
    unfold m_impl_IsGraph_L1
    refine Ws (Wr ?_)
    refine Op20 (LT.lss Q) Q Q Q Q (On (Ws ?_))
    refine AWR.cond Q (fun hc41 => ?_) (fun hc41 => ?_)
    ·refine AWR.skip (Ws (AWR.block (Ws (Wr ?_))))
     refine mv (Iv s7) Q Q Q Q (Ob' fun x42 hx42 => (Op20 (LT.tindexRO (enc := encTBar) Q el24 hx42 sz62) Q Q Q Q (Op10 (LT.loadPxN Q ag62 (infS inf62) (by exact sz62.symm)) Q Q Q (Os00 (LT.alloc (n := 23) (cells := [(iC 0),(iC 0)]) Q ti62 Q Q Q) Q Q (asg (Iv s7) Q Q Q Q (Os21 (LT.bstore (v := (.agg [(iC x42.A),(iC x42.B)])) (out := [(iC x42.A),(iC x42.B)]) Q Q (infS inf62) sz62 (by exact Q) (by exact K Q) (by exact Q)) Q Q Q Q Q (On (Ws ?_))))))))
     refine AWR.joinK (fun j49 => ([(1,(Cc (.pl 21 0))),(16,(Cc (xF encTBar g.Bars))),(17,(Iv (g.Bars.length : Int))),(18,(Iv s7)),(54,(Bv j49))],[(21,(.row 26 [[(iC g.Points),(xF encTBar g.Bars)]]))])) ?_ (fun j49 _ => ?_)
     ·refine en [(1,(Cc (.pl 21 0))),(3,(Iv s7)),(4,(Cc (.pl 23 0))),(16,(Cc (xF encTBar g.Bars))),(17,(Iv (g.Bars.length : Int))),(18,(Iv s7))] [(21,(.row 26 [[(iC g.Points),(xF encTBar g.Bars)]])),(23,(.row 62 [[(iC x42.A),(iC x42.B)]]))] z6 z2 (AWR.draw mixed (Dp10 (LT.fieldPl Q fo62_0) Q Q Q (Dp11 (LT.bload1 (c := (iC x42.A)) Q ag3 (by exact Q)) Q Q Q Q (Dp20 (LT.lss Q) Q y2 Q Q (Dp10 (LT.move (v := (Bv (decide (x42.A < 0)))) Q) Q Q Q (AOD.split (fun hb50 => ?_) (fun hb50 => ?_)))))))
      ·refine AOD.skip (gH hb50 Q Q) Q (AOD.skip (gH hb50 Q Q) Q (AOD.skip (gH hb50 Q Q) Q (AOD.skip (gH hb50 Q Q) Q (AOD.skip (gH hb50 Q Q) Q (Dp20 (LT.pickT (v := (Bv true)) Q hb50) Q y2 Q Q (Dp10 (LT.move (v := (Bv true)) Q) Q Q Q (AOD.skip (gS Q Q) Q (AOD.skip (gS Q Q) Q (AOD.skip (gS Q Q) Q (AOD.skip (gS Q Q) Q (AOD.skip (gS Q Q) Q ?_)))))))))))
       refine Dp20 (LT.pickT (v := (Bv true)) Q Q) Q y2 Q Q (Dp10 (LT.move (v := (Bv true)) Q) Q Q Q (AOD.skip (gS Q Q) Q (AOD.skip (gS Q Q) Q (AOD.skip (gS Q Q) Q (AOD.skip (gS Q Q) Q (AOD.skip (gS Q Q) Q (AOD.skip (gS Q Q) Q (AOD.skip (gS Q Q) Q (AOD.skip (gS Q Q) Q (AOD.skip (gS Q Q) Q (AOD.skip (gS Q Q) Q ?_)))))))))))
       refine AOD.skip (gS Q Q) Q (AOD.skip (gS Q Q) Q (AOD.skip (gS Q Q) Q (Dp20 (LT.pickT (v := (Bv true)) Q Q) Q y2 Q Q (AOD.nil (by kernel_rfl) (AWR.nil ⟨Q,Ent.of z5 z1⟩)))))
      ·refine Dp10 (LT.fieldPl Q fo62_0) Q (gH hb50 Q Q) Q (Dp11 (LT.bload1 (c := (iC x42.A)) Q ag3 (by exact Q)) Q Q (gH hb50 Q Q) Q (Dp10 (LT.fieldPl Q fo62_1) Q (gH hb50 Q Q) Q (Dp11 (LT.bload1 (c := (iC x42.B)) Q ag3 (by exact Q)) Q Q (gH hb50 Q Q) Q (Dp20 (LT.geq Q) Q Q (gH hb50 Q Q) Q (Dp20 (LT.pickF (v := (Bv (decide (x42.B ≤ x42.A)))) Q hb50) Q Q Q Q (Dp10 (LT.move (v := (Bv (decide (x42.B ≤ x42.A)))) Q) Q Q Q (AOD.split (fun hb51 => ?_) (fun hb51 => ?_))))))))
       ·refine AOD.skip (gH hb51 Q Q) Q (AOD.skip (gH hb51 Q Q) Q (AOD.skip (gH hb51 Q Q) Q (AOD.skip (gH hb51 Q Q) Q (AOD.skip (gH hb51 Q Q) Q (Dp20 (LT.pickT (v := (Bv true)) Q hb51) Q y2 Q Q (Dp10 (LT.move (v := (Bv true)) Q) Q Q Q (AOD.skip (gS Q Q) Q (AOD.skip (gS Q Q) Q (AOD.skip (gS Q Q) Q (AOD.skip (gS Q Q) Q (AOD.skip (gS Q Q) Q ?_)))))))))))
        refine AOD.skip (gS Q Q) Q (AOD.skip (gS Q Q) Q (AOD.skip (gS Q Q) Q (AOD.skip (gS Q Q) Q (AOD.skip (gS Q Q) Q (AOD.skip (gS Q Q) Q (AOD.skip (gS Q Q) Q (AOD.skip (gS Q Q) Q (Dp20 (LT.pickT (v := (Bv true)) Q Q) Q y2 Q Q (AOD.nil (by kernel_rfl) (AWR.nil ⟨Q,Ent.of z5 z1⟩))))))))))
       ·refine Dp10 (LT.fieldPl Q fo62_1) Q (gH hb51 Q Q) Q (Dp11 (LT.bload1 (c := (iC x42.B)) Q ag3 (by exact Q)) Q Q (gH hb51 Q Q) Q (Dp10 (LT.fieldPl Q fo26_0) Q (gH hb51 Q Q) Q (Dp11 (LT.bload1 (c := (iC g.Points)) Q ag3 (by exact Q)) Q Q (gH hb51 Q Q) Q (Dp20 (LT.geq Q) Q Q (gH hb51 Q Q) Q (Dp20 (LT.pickF (v := (Bv (decide (g.Points ≤ x42.B)))) Q hb51) Q Q Q Q (Dp10 (LT.move (v := (Bv (decide (g.Points ≤ x42.B)))) Q) Q Q Q (AOD.split (fun hb52 => ?_) (fun hb52 => ?_))))))))
        ·refine AOD.skip (gH hb52 Q Q) Q (AOD.skip (gH hb52 Q Q) Q (AOD.skip (gH hb52 Q Q) Q (AOD.skip (gS Q Q) Q (AOD.skip (gS Q Q) Q (AOD.skip (gS Q Q) Q (AOD.skip (gS Q Q) Q (AOD.skip (gS Q Q) Q (AOD.skip (gS Q Q) Q (AOD.skip (gS Q Q) Q (AOD.skip (gS Q Q) Q (AOD.skip (gS Q Q) Q ?_)))))))))))
         refine AOD.skip (gH hb52 Q Q) Q (Dp20 (LT.pickT (v := (Bv true)) Q hb52) Q y2 Q Q (AOD.nil (by kernel_rfl) (AWR.nil ⟨Q,Ent.of z5 z1⟩)))
        ·refine Dp10 (LT.move (v := (Iv s7)) Q) Q (gH hb52 Q Q) Q (Dp20 (LT.gtr Q) Q y2 (gH hb52 Q Q) Q (Dp10 (LT.move (v := (Bv (decide (0 < s7)))) Q) Q (gH hb52 Q Q) Q (AOD.split (fun hb53 => ?_) (fun hb53 => ?_))))
         ·refine Dp10 (LT.fieldPl Q fo26_1) Q (gH hb53 Q Q) Q (Dp11 (LT.bload1 (c := (xF encTBar g.Bars)) Q ag24 (by exact Q)) Q Q (gH hb53 Q Q) Q (Dp10 (LT.move (v := (Iv s7)) Q) Q (gH hb53 Q Q) Q (Dp20 (LT.sub Q) Q y2 (gH hb53 Q Q) Q (AOD.bind fun x54 hx54 => (Dp20 (LT.tindexRO (enc := encTBar) Q el24 hx54 sz62) Q Q (gH hb53 Q Q) Q (Dp10 (LT.loadPxN Q ag62 (infS inf62) (by exact sz62.symm)) Q (gH hb53 Q Q) Q (Dp11 (LT.bloadN (out := [(iC x42.A),(iC x42.B)]) Q ag62 (infS inf62) sz62 (by exact Q) (by exact Q)) Q Q (gH hb53 Q Q) Q (AOD.bind fun r55 hr55 => (AOD.pure (@LT.callF Try.prog _ _ 227 _ _ [(.agg [(iC x54.A),(iC x54.B)]),(.agg [(iC x42.A),(iC x42.B)])] _ _ [] _ _ _ _ (w_impl_compareBars x54 x42 r55 hr55) Q cb227 (.cons (.agg (.cons (.same Q) (.cons (.same Q) .nil))) (.cons (.agg (.cons (.same Q) (.cons (.same Q) .nil))) .nil)) Q Q J) z3 J (gH hb53 Q Q) Q (Dp20 (LT.gtr Q) Q y2 (gH hb53 Q Q) Q (Dp20 (LT.pickT (v := (Bv (decide (0 < r55)))) Q hb53) Q Q (gH hb52 Q Q) Q ?_)))))))))))
          refine Dp20 (LT.pickF (v := (Bv (decide (0 < r55)))) Q hb52) Q Q Q Q (AOD.nil (by kernel_rfl) (AWR.nil ⟨Q,Ent.of z5 z1⟩))
         ·refine AOD.skip (gH hb53 Q Q) Q (AOD.skip (gH hb53 Q Q) Q (AOD.skip (gH hb53 Q Q) Q (AOD.skip (gH hb53 Q Q) Q (AOD.skip (gH hb53 Q Q) Q (AOD.skip (gH hb53 Q Q) Q (AOD.skip (gH hb53 Q Q) Q (AOD.skip (gH hb53 Q Q) Q (AOD.skip (gH hb53 Q Q) Q (Dp20 (LT.pickF (v := (Bv false)) Q hb53) Q y2 (gH hb52 Q Q) Q (Dp20 (LT.pickF (v := (Bv false)) Q hb52) Q Q Q Q (AOD.nil (by kernel_rfl) ?_)))))))))))
          refine AWR.nil ⟨Q,Ent.of z5 z1⟩
     ·refine AWR.cond Q (fun hc56 => ?_) (fun hc56 => ?_)
      ·refine Ws (Wr ?_)
       refine asg (Bv false) Q y2 Q Q (On (AWR.ret ⟨Q,FPost.mk (.inr Q) z1 J Q ⟨PermP.sc,J⟩ J⟩))
      ·refine AWR.skip (AWR.blk (Wr ?_))
       refine Op20 (LT.add Q) Q y2 Q Q (mv (Iv (w64 (s7 + 1))) Q Q Q Q (On (AWR.nil ⟨Q,Ent.of z4 z1⟩)))
    ·refine AWR.exit_end Q ⟨Q,Ent.of J J⟩
   ·refine Ws (Wr ?_)
    refine asg (Bv true) Q y2 Q Q (On (AWR.ret (FPost.mk (.inr Q) z1 J Q ⟨PermP.sc,J⟩ J)))
theorem w_impl_isPlace (p : TPlace) : ∀ t,m_impl_isPlace p = some t → Fw.Fn Try.prog 174 [(.agg [(iC p.X),(iC p.Y)])] [] (.s (.c (bC t))) [] [] [] := by
 refine Fw.Fn.of (P := Try.prog) (X := []) (pn := []) (rs := (fun (t : Bool) => [(.c (bC t))])) (dfs := (fun (t : Bool) => [])) Try.func174 Q Try.ntmps174 (K Q) Q ?_
 intro w0 U0 R0 g0
 unfold m_impl_isPlace
 refine Ws (Wr ?_)
 refine Os10 (LT.box (n := 21) (v := (.agg [(iC p.X),(iC p.Y)])) Q sz94 (by exact Q)) Q Q Q (asg (Bv false) Q y2 Q Q (On (Ws ?_)))
 refine AWR.joinK (fun j4 => ([(2,(Bv j4))],[])) ?_ (fun j4 _ => ?_)
 ·refine Wr (Op10 (LT.fieldPl Q fo94_0) Q Q Q (Op11 (LT.bload1 (c := (iC p.X)) Q ag3 (by exact Q)) Q Q Q Q (Ob' fun r5 hr5 => (AOR.pure (@LT.callF Try.prog _ _ 128 _ _ [(.c (iC p.X)),(.c (iC 0)),(.c (iC 4))] _ _ [] _ _ _ _ (w_impl_within p.X 0 4 r5 hr5) Q cb128 (.cons (.c (.same Q)) (.cons (.c (.same Q)) (.cons (.c (.same Q)) .nil))) Q Q J) ⟨Q,Q,y2,y2,J⟩ J Q Q (mv (Bv r5) Q Q Q Q (AOR.split (fun hb6 => ?_) (fun hb6 => ?_)))))))
  ·refine Op10 (LT.fieldPl Q fo94_1) Q (gH hb6 Q Q) Q (Op11 (LT.bload1 (c := (iC p.Y)) Q ag3 (by exact Q)) Q Q (gH hb6 Q Q) Q (Ob' fun r7 hr7 => (AOR.pure (@LT.callF Try.prog _ _ 128 _ _ [(.c (iC p.Y)),(.c (iC 0)),(.c (iC 4))] _ _ [] _ _ _ _ (w_impl_within p.Y 0 4 r7 hr7) Q cb128 (.cons (.c (.same Q)) (.cons (.c (.same Q)) (.cons (.c (.same Q)) .nil))) Q Q J) ⟨Q,Q,y2,y2,J⟩ J (gH hb6 Q Q) Q (Op20 (LT.pickT (v := (Bv r7)) Q hb6) Q Q Q Q (asg (Bv r7) Q Q Q Q (On (AWR.nil ⟨Q,Ent.of z1 J⟩)))))))
  ·refine Ok Q Q Q (by rw [hb6]; rfl) Q (Ok Q Q Q (by rw [hb6]; rfl) Q (Ok Q Q Q (by rw [hb6]; rfl) Q (Op20 (LT.pickF (v := (Bv false)) Q hb6) Q y2 Q Q (asg (Bv false) Q Q Q Q (On (AWR.nil ⟨Q,Ent.of z1 J⟩))))))
 ·refine AWR.ret (FPost.mk (.inr Q) z1 J Q ⟨PermP.sc,J⟩ J)
end Go.Proofs.Ytghofbijdnenoaa
end
