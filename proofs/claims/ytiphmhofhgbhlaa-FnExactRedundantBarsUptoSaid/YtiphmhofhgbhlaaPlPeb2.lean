/- Plain: the pebble game, second part: searching, gathering, placing; the ranks of the program and of the reference agree. -/
import Derived.Test.YtiphmhofhgbhlaaPlPeb
set_option linter.unusedVariables false
set_option linter.unusedSimpArgs false
set_option linter.unnecessarySimpa false
open Go Go.Fw
namespace Go.Proofs.Ytiphmhofhgbhlaa
section
variable {P : Int} {bars : List TBar} {k : Int} {m : Nat} {p : TPebbles}

theorem l4Copy_eq (hg : GB P bars) (hp : PB P bars k m p) (hm : m ≤ 1000) : m_spec_l4Copy p = some p := by
  have h1 := hp.fl
  have h2 := hp.tl
  have h3 := hp.pl
  have h8 := hg.p8
  unfold m_spec_l4Copy
  rw [lim_ok (by simp; omega), lim_ok (by simp; omega), lim_ok (by simp; omega)]
  rfl
theorem copyPebbles_eq (hg : GB P bars) (hp : PB P bars k m p) (hm : m ≤ 1000) : m_impl_copyPebbles p = some p := by
  have h1 := hp.fl
  have h2 := hp.tl
  have h3 := hp.pl
  have h8 := hg.p8
  unfold m_impl_copyPebbles
  rw [copyInts_eq _ (by omega), copyInts_eq _ (by omega), copyInts_eq _ (by omega)]
  rfl
theorem PB.free_in (hp : PB P bars k m p) {v : Int} (v0 : 0 ≤ v) (v1 : v < P) : ∃ f, p.Free[v.toNat]? = some f ∧ idx p.Free v = some f ∧ 0 ≤ f ∧ f ≤ k := by
  have h1 := hp.fl
  have h2 : p.Free[v.toNat]? = some (p.Free[v.toNat]'(by omega)) := List.getElem?_eq_getElem (by omega)
  have h3 := hp.fr h2
  refine ⟨_, h2, ?_, h3.1, by omega⟩
  unfold idx
  rw [if_pos v0, h2]
/-- a pebble has come to a, and none from b -/
structure Moved (P : Int) (bars : List TBar) (k : Int) (m : Nat) (p : TPebbles) (a b : Int) (p' : TPebbles) : Prop where
  pb : PB P bars k m p'
  placed : p'.Placed = p.Placed
  fa : ∀ {f : Int}, p.Free[a.toNat]? = some f → p'.Free[a.toNat]? = some (f + 1)
  fb : p'.Free[b.toNat]? = p.Free[b.toNat]?

theorem fromInit {g : TGraph} (h0 : 0 ≤ g.Points) (h8 : g.Points ≤ 8) : loopM (m_spec_l4Find_L1 g) BIG (0, List.replicate g.Points.toNat 0) = some (List.replicate g.Points.toNat (-1)) := by
  refine loopM_run (fun n => ((n : Int), List.replicate n (-1) ++ List.replicate (g.Points.toNat - n) 0)) g.Points.toNat (by omega) (by simp) (fun n hn => ?_) ?_
  · have hs := set_repl (List.replicate n (-1 : Int)) 0 (-1) n g.Points.toNat (by simp) hn
    have hi : idx (List.replicate n (-1 : Int) ++ List.replicate (g.Points.toNat - n) 0) (n : Int) = some 0 := idx_of (by rw [List.getElem?_append_right (by simp), List.length_replicate, Nat.sub_self, List.getElem?_replicate, if_pos (by omega)])
    unfold m_spec_l4Find_L1
    simp only [hi, Option.bind_some, Int.toNat_natCast, hs, w64_succ (show n ≤ 1099511627776 by omega)]
    rw [decide_eq_true (by omega), cond_true, ← List.replicate_succ']
  · unfold m_spec_l4Find_L1
    simp only [Nat.sub_self, List.replicate_zero, List.append_nil]
    rw [decide_eq_false (by omega)]
    rfl

theorem shift_both (hg : GB P bars) (hp : PB P bars k m p) (hm : m ≤ 1000) {g : TGraph} (hgp : g.Points = P) (hgb : g.Bars = bars) {a b : Int} (a0 : 0 ≤ a) (a1 : a < P) {q : List Int} {M : List (Int × Int)} {F : List Int} {S : List Bool} {u : Int} {j : Nat} (s1 : Int × List (Int × Int) × List Int) (hM : mput s1.2.1 u s1.1 = M) (h : BF P bars p a q M F S) (hu : q[j]? = some u) (hua : u ≠ a) (hub : u ≠ b) (hab : a ≠ b) (b0 : 0 ≤ b)
    {fu : Int} (hfu : p.Free[u.toNat]? = some fu) (hpos : 0 < fu) :
    ∃ p' fa, idx p.Free a = some fa ∧ m_spec_l4Shift g p F a u = some p' ∧ loopM (m_impl_moveTo_L11 p a s1 u fu fa) BIG (u, p.Tails) = some (p'.Free, p'.Tails) ∧ p'.Placed = p.Placed ∧ Moved P bars k m p a b p' := by
  obtain ⟨u0, u1⟩ := h.rng hu
  obtain ⟨fa, hfa, hia, fa0, fak⟩ := hp.free_in a0 a1
  have k3 := hp.k3
  have hfk : fu ≤ k := by have := hp.fr hfu; omega
  have hiu : idx p.Free u = some fu := by unfold idx; rw [if_pos u0, hfu]
  obtain ⟨T, e1, e2, hT⟩ := turn_both hg hp hgp hgb h hu p fu fa s1 hM
  rw [w64_small (n := fu - 1) (by omega) (by omega), w64_small (n := fa + 1) (by omega) (by omega)] at e1 e2
  have hne : u.toNat ≠ a.toNat := by omega
  have hia2 : ∀ x : Int, idx (p.Free.set u.toNat x) a = some fa := fun x => by
    unfold idx
    rw [if_pos a0, List.getElem?_set, if_neg hne, hfa]
  refine ⟨⟨(p.Free.set u.toNat (fu - 1)).set a.toNat (fa + 1), T, p.Placed⟩, fa, hia, ?_, e2, rfl, ⟨hp.moved hg hT u0 a0 hua hfu hfa hpos, rfl, fun {f} hf => ?_, ?_⟩⟩
  · unfold m_spec_l4Shift
    rw [l4Copy_eq hg hp hm]
    simp only [hiu, Option.bind_some, hia2, e1, w64_small (n := fu - 1) (show -4611686018427387904 ≤ fu - 1 by omega) (by omega)]
  · rw [hfa] at hf
    injection hf with hf
    subst hf
    have hl := (List.getElem?_eq_some_iff.1 hfa).1
    rw [List.getElem?_set, if_pos rfl, if_pos (by simpa using hl)]
  · show ((p.Free.set u.toNat (fu - 1)).set a.toNat (fa + 1))[b.toNat]? = _
    rw [List.getElem?_set, if_neg (by omega), List.getElem?_set, if_neg (by omega)]

/-- the search, of both -/
theorem find_both (hg : GB P bars) (hp : PB P bars k m p) (hm : m ≤ 1000) {g : TGraph} (hgp : g.Points = P) (hgb : g.Bars = bars) {a b : Int} (a0 : 0 ≤ a) (a1 : a < P) (b0 : 0 ≤ b) (b1 : b < P) (hab : a ≠ b) :
    (m_spec_l4Find g p a b = some (p, false) ∧ m_impl_moveTo bars p a b = some (false, p)) ∨ ∃ p', m_spec_l4Find g p a b = some (p', true) ∧ m_impl_moveTo bars p a b = some (true, p') ∧ Moved P bars k m p a b p' := by
  have h8 := hg.p8
  have hp1 := hg.p1
  have hpl := hp.pl
  have hptl := hp.tl
  have hstart := BF.start (bars := bars) (p := p) hg a0 a1 (F := List.replicate P.toNat (-1)) (by simp; omega) (fun {v f} hv => by
    rw [List.getElem?_replicate] at hv
    split at hv
    · injection hv with hv; exact hv.symm
    · cases hv)
  -- what a round over the bars gives
  have roundB : ∀ (n : Nat) (v : Int) (q : List Int) (M : List (Int × Int)) (F : List Int) (S : List Bool), BF P bars p a q M F S → q[n]? = some v →
      ∃ r r', loopM (m_spec_l4Find_L5 g p a b ((n : Int), F, q, S) v) BIG (0, F, q, S) = some r ∧ loopM (m_impl_moveTo_L10 bars p a b ((n : Int), M, q)) BIG (0, M, q) = some r' ∧
        ((∃ q' M' F' S', r = .inl ((n : Int), F', q', S') ∧ r' = .inl ((n : Int), M', q') ∧ BF P bars p a q' M' F' S' ∧ n < q'.length) ∨ ∃ p', r = .inr (p', true) ∧ r' = .inr (true, p') ∧ Moved P bars k m p a b p') := by
    intro n v q M F S hB hv
    refine loop_inv2 (fun j s s' => ∃ q' M' F' S', s = ((j : Int), F', q', S') ∧ s' = ((j : Int), M', q') ∧ BF P bars p a q' M' F' S' ∧ q'[n]? = some v) _ p.Placed.length (by omega) ⟨q, M, F, S, rfl, rfl, hB, hv⟩ (fun j s s' hj hs => ?_) (fun s s' hs => ?_)
    · obtain ⟨q, M, F, S, rfl, rfl, hB, hv⟩ := hs
      obtain ⟨e, hpe, hbe, hbe2⟩ := hp.bar hg hj
      have hok := hp.pbar_ok hg hj
      have hpi : idx p.Placed (j : Int) = some e := idx_of hpe
      have hT : p.Tails[j]? = some (p.Tails[j]'(by omega)) := List.getElem?_eq_getElem (by omega)
      generalize p.Tails[j]'(by omega) = t at hT
      have hTi : idx p.Tails (j : Int) = some t := idx_of hT
      have hqi : idx q (n : Int) = some v := idx_of hv
      by_cases htv : t = v
      · subst htv
        have hends := hp.ends hT
        obtain ⟨u0, u1, une, _, _⟩ := other_ok hok hends
        have hoS := other_S (P := P) (pbar bars p j) t h8 hok hends
        have hoI := other_I (pbar bars p j) t
        generalize hu : otherE (pbar bars p j) t = u at u0 u1 une hoS hoI
        have hsl := hB.sl
        have hfl := hB.fl
        have hSu : S[u.toNat]? = some (S[u.toNat]'(by omega)) := List.getElem?_eq_getElem (by omega)
        generalize S[u.toNat]'(by omega) = su at hSu
        have hSi : idx S u = some su := by unfold idx; rw [if_pos u0, hSu]
        have hseen := hB.seen hSu
        rw [Int.toNat_of_nonneg u0] at hseen
        have hhas := hB.has u
        cases su with
        | true =>
          have hm1 : mhas M u = true := hhas.2 (hseen.1 rfl)
          refine .inl ⟨(((j + 1 : Nat) : Int), F, q, S), (((j + 1 : Nat) : Int), M, q), ?_, ?_, q, M, F, S, rfl, rfl, hB, hv⟩
          · unfold m_spec_l4Find_L5
            simp only [hTi, hpi, hgb, hbe, hoS, hSi, Option.bind_some, w64_succ (show j ≤ 1099511627776 by omega), bne_self_eq_false, cond_false, cond_true]
            rw [decide_eq_true (by omega), cond_true]
          · unfold m_impl_moveTo_L10
            simp only [hTi, hpi, hqi, hbe, hoI, hm1, Option.bind_some, w64_succ (show j ≤ 1099511627776 by omega), bne_self_eq_false, cond_false, cond_true]
            rw [decide_eq_true (by omega), cond_true]
        | false =>
          have hnq : u ∉ q := fun h => by have := hseen.2 h; cases this
          have hm1 : mhas M u = false := by
            cases hb : mhas M u with
            | false => rfl
            | true => exact absurd (hhas.1 hb) hnq
          have hB2 := hB.more hg hp hj hv hT hu hnq
          obtain ⟨fu, hfu, hiu, fu0, fuk⟩ := hp.free_in u0 u1
          have hua : u ≠ a := fun e => hnq (e ▸ List.mem_of_getElem? hB.first)
          have hFu : idx F u = some ((F[u.toNat]?).getD 0) := idx_in 0 u0 (by omega)
          have hlast : (q ++ [u])[q.length]? = some u := by rw [List.getElem?_append_right (Nat.le_refl _), Nat.sub_self]; rfl
          have hqn : (q ++ [u])[n]? = some t := by rw [List.getElem?_append_left (List.getElem?_eq_some_iff.1 hv).1]; exact hv
          have hql := hB2.len
          by_cases hfound : u ≠ b ∧ 0 < fu
          · obtain ⟨hub, hpos⟩ := hfound
            obtain ⟨p', fa, hia, es, ei, epl, hmv⟩ := shift_both hg hp hm hgp hgb a0 a1 ((j : Int), M, q) rfl hB2 hlast hua hub hab b0 hfu hpos
            have hne : u.toNat ≠ a.toNat := by omega
            have hia2 : ∀ x : Int, idx (p.Free.set u.toNat x) a = some fa := fun x => by
              unfold idx at hia ⊢
              rw [if_pos a0] at hia ⊢
              rw [List.getElem?_set, if_neg hne, hia]
            have k3 := hp.k3
            refine .inr ⟨.inr (p', true), .inr (true, p'), ?_, ?_, .inr ⟨p', rfl, rfl, hmv⟩⟩
            · unfold m_spec_l4Find_L5
              simp only [hTi, hpi, hgb, hbe, hoS, hSi, hFu, hiu, es, Option.bind_some, bne_self_eq_false, cond_false, show (u != b) = true by simp [hub], decide_eq_true hpos, cond_true]
              rw [decide_eq_true (by omega), cond_true]
            · unfold m_impl_moveTo_L10
              simp only [hTi, hpi, hqi, hbe, hoI, hm1, hiu, hia2, ei, Option.bind_some, bne_self_eq_false, cond_false, show (u == b) = false by simp [hub], show (fu == 0) = false by simp; omega]
              rw [decide_eq_true (by omega), cond_true, ← epl]
          · refine .inl ⟨(((j + 1 : Nat) : Int), F.set u.toNat j, q ++ [u], S.set u.toNat true), (((j + 1 : Nat) : Int), mput M u j, q ++ [u]), ?_, ?_, _, _, _, _, rfl, rfl, hB2, hqn⟩
            · unfold m_spec_l4Find_L5
              simp only [hTi, hpi, hgb, hbe, hoS, hSi, hFu, hiu, Option.bind_some, bne_self_eq_false, cond_false, w64_succ (show j ≤ 1099511627776 by omega), lim_ok (show q.length + ([u] : List Int).length ≤ 2147483648 by simp at hql ⊢; omega)]
              rw [decide_eq_true (by omega), cond_true]
              by_cases hub : u = b
              · rw [show (u != b) = false by simp [hub]]
                rfl
              · have : ¬ 0 < fu := fun h => hfound ⟨hub, h⟩
                rw [show (u != b) = true by simp [hub], decide_eq_false this]
                rfl
            · unfold m_impl_moveTo_L10
              simp only [hTi, hpi, hqi, hbe, hoI, hm1, hiu, Option.bind_some, bne_self_eq_false, cond_false, w64_succ (show j ≤ 1099511627776 by omega), lim_ok (show q.length + ([u] : List Int).length ≤ 2147483648 by simp at hql ⊢; omega)]
              rw [decide_eq_true (by omega), cond_true]
              by_cases hub : u = b
              · rw [show (u == b) = true by simp [hub]]
                rfl
              · have : ¬ 0 < fu := fun h => hfound ⟨hub, h⟩
                rw [show (u == b) = false by simp [hub], show (fu == 0) = true by simp; omega]
                rfl
      · have hne : (t != v) = true := by simp; exact htv
        refine .inl ⟨(((j + 1 : Nat) : Int), F, q, S), (((j + 1 : Nat) : Int), M, q), ?_, ?_, q, M, F, S, rfl, rfl, hB, hv⟩
        · unfold m_spec_l4Find_L5
          simp only [hTi, Option.bind_some, hne, cond_true, w64_succ (show j ≤ 1099511627776 by omega)]
          rw [decide_eq_true (by omega), cond_true]
        · unfold m_impl_moveTo_L10
          simp only [hTi, hpi, hqi, Option.bind_some, hne, cond_true, w64_succ (show j ≤ 1099511627776 by omega)]
          rw [decide_eq_true (by omega), cond_true]
    · obtain ⟨q, M, F, S, rfl, rfl, hB, hv⟩ := hs
      refine ⟨.inl ((n : Int), F, q, S), .inl ((n : Int), M, q), by simp [m_spec_l4Find_L5], by simp [m_impl_moveTo_L10], .inl ⟨q, M, F, S, rfl, rfl, hB, (List.getElem?_eq_some_iff.1 hv).1⟩⟩
  -- the rounds over the points met
  have outer : ∃ r r', loopM (m_spec_l4Find_L4 g p a b) BIG (0, List.replicate P.toNat (-1), [a], (List.replicate P.toNat false).set a.toNat true) = some r ∧ loopM (m_impl_moveTo_L7 bars p a b) BIG (0, mput [] a (-1), [a]) = some r' ∧
      ((r = .inl () ∧ r' = .inl ()) ∨ ∃ p', r = .inr (p', true) ∧ r' = .inr (true, p') ∧ Moved P bars k m p a b p') := by
    refine loop_inv2 (fun n s s' => ∃ q M F S, s = ((n : Int), F, q, S) ∧ s' = ((n : Int), M, q) ∧ BF P bars p a q M F S ∧ n ≤ q.length) _ (P.toNat + 1) (by omega) ⟨[a], _, _, _, rfl, rfl, hstart, Nat.zero_le _⟩ (fun n s s' hn hs => ?_) (fun s s' hs => ?_)
    · obtain ⟨q, M, F, S, rfl, rfl, hB, hnl⟩ := hs
      have hql := hB.len
      by_cases hlt : n < q.length
      · have hv := List.getElem?_eq_getElem hlt
        obtain ⟨r, r', e1, e2, hr⟩ := roundB n q[n] q M F S hB hv
        rcases hr with ⟨q', M', F', S', rfl, rfl, hB', hn'⟩ | ⟨p', rfl, rfl, hmv⟩
        · refine .inl ⟨(((n + 1 : Nat) : Int), F', q', S'), (((n + 1 : Nat) : Int), M', q'), ?_, ?_, q', M', F', S', rfl, rfl, hB', hn'⟩
          · unfold m_spec_l4Find_L4
            simp only [idx_of hv, e1, Option.bind_some, Sum.elim_inl, w64_succ (show n ≤ 1099511627776 by omega)]
            rw [decide_eq_true (by omega), cond_true]
          · unfold m_impl_moveTo_L7
            simp only [e2, Option.bind_some, Sum.elim_inl, w64_succ (show n ≤ 1099511627776 by omega)]
            rw [decide_eq_true (by omega), cond_true]
        · refine .inr ⟨.inr (p', true), .inr (true, p'), ?_, ?_, .inr ⟨p', rfl, rfl, hmv⟩⟩
          · unfold m_spec_l4Find_L4
            simp only [idx_of hv, e1, Option.bind_some, Sum.elim_inr]
            rw [decide_eq_true (by omega), cond_true]
          · unfold m_impl_moveTo_L7
            simp only [e2, Option.bind_some, Sum.elim_inr]
            rw [decide_eq_true (by omega), cond_true]
      · refine .inr ⟨.inl (), .inl (), ?_, ?_, .inl ⟨rfl, rfl⟩⟩
        · unfold m_spec_l4Find_L4
          simp only
          rw [decide_eq_false (by omega), cond_false]
        · unfold m_impl_moveTo_L7
          simp only
          rw [decide_eq_false (by omega), cond_false]
    · obtain ⟨q, M, F, S, rfl, rfl, hB, hnl⟩ := hs
      have hql := hB.len
      omega
  obtain ⟨r, r', e1, e2, hr⟩ := outer
  have hS : m_spec_l4Find g p a b = Sum.elim (fun _ => some (p, false)) (fun r => some r) r := by
    have hra : idx (List.replicate P.toNat false) a = some false := by
      unfold idx
      rw [if_pos a0, List.getElem?_replicate, if_pos (by omega)]
    have hfi := fromInit (g := g) (by omega) (by omega)
    rw [hgp] at hfi
    unfold m_spec_l4Find
    rw [hgp, lenOk_ok (by omega) (by omega), hfi, hra]
    simp only [Option.bind_some, e1]
  have hI : m_impl_moveTo bars p a b = Sum.elim (fun _ => some (false, p)) (fun r => some r) r' := by
    unfold m_impl_moveTo
    rw [e2]
    rfl
  rcases hr with ⟨rfl, rfl⟩ | ⟨p', rfl, rfl, hmv⟩
  · exact .inl ⟨hS, hI⟩
  · exact .inr ⟨p', hS, hI, hmv⟩

/-- how many pebbles two points have -/
def two (p : TPebbles) (a b : Int) : Int := (p.Free[a.toNat]?).getD 0 + (p.Free[b.toNat]?).getD 0
/-- the gathering, of both -/
theorem gather_both (hg : GB P bars) (hp : PB P bars k m p) (hm : m ≤ 1000) {g : TGraph} (hgp : g.Points = P) (hgb : g.Bars = bars) {a b : Int} (a0 : 0 ≤ a) (a1 : a < P) (b0 : 0 ≤ b) (b1 : b < P) (hab : a ≠ b) {want : Int} (hw : want ≤ 1000) :
    (∃ p', m_spec_l4Gather g p a b want = some (p', true) ∧ m_impl_gather bars p a b want = some (true, p') ∧ PB P bars k m p' ∧ p'.Placed = p.Placed ∧ want ≤ two p' a b) ∨ ∃ p' p'', m_spec_l4Gather g p a b want = some (p', false) ∧ m_impl_gather bars p a b want = some (false, p'') := by
  have hwv : ∀ x : Int, 0 ≤ x → x ≤ k → w64 x = x := fun x h1 h2 => by have := hp.k3; exact w64_small (by omega) (by omega)
  have main : ∃ r r', loopM (m_spec_l4Gather_L1 g a b want) BIG (p.Free, p.Tails, p.Placed) = some r ∧ loopM (m_impl_gather_L1 bars a b want) BIG (p.Free, p.Tails, p.Placed) = some r' ∧
      ((∃ p', r = .inl (p'.Free, p'.Tails, p'.Placed) ∧ r' = .inl (p'.Free, p'.Tails, p'.Placed) ∧ PB P bars k m p' ∧ p'.Placed = p.Placed ∧ want ≤ two p' a b) ∨ ∃ p' p'', r = .inr (p', false) ∧ r' = .inr (false, p'')) := by
    refine loop_inv2 (fun n s s' => ∃ p', s = (p'.Free, p'.Tails, p'.Placed) ∧ s' = (p'.Free, p'.Tails, p'.Placed) ∧ PB P bars k m p' ∧ p'.Placed = p.Placed ∧ (n : Int) ≤ two p' a b) _ 1001 (by omega) ⟨p, rfl, rfl, hp, rfl, ?_⟩ (fun n s s' hn hs => ?_) (fun s s' hs => ?_)
    · obtain ⟨fa, hfa, _, fa0, _⟩ := hp.free_in a0 a1
      obtain ⟨fb, hfb, _, fb0, _⟩ := hp.free_in b0 b1
      unfold two
      rw [hfa, hfb]
      simp only [Option.getD_some]
      omega
    · obtain ⟨p', rfl, rfl, hp', hpl, hn2⟩ := hs
      obtain ⟨fa, hfa, hia, fa0, fak⟩ := hp'.free_in a0 a1
      obtain ⟨fb, hfb, hib, fb0, fbk⟩ := hp'.free_in b0 b1
      have k3 := hp'.k3
      have htwo : two p' a b = fa + fb := by
        unfold two
        rw [hfa, hfb]
        rfl
      have hsum : w64 (fa + fb) = fa + fb := w64_small (by omega) (by omega)
      by_cases hlt : fa + fb < want
      · rcases find_both hg hp' hm hgp hgb a0 a1 b0 b1 hab with ⟨s1, i1⟩ | ⟨p2, s1, i1, hmv⟩
        · rcases find_both hg hp' hm hgp hgb b0 b1 a0 a1 (Ne.symm hab) with ⟨s2, i2⟩ | ⟨p2, s2, i2, hmv⟩
          · refine .inr ⟨.inr (p', false), .inr (false, p'), ?_, ?_, .inr ⟨p', p', rfl, rfl⟩⟩
            · unfold m_spec_l4Gather_L1
              simp only [hia, hib, Option.bind_some, hsum, decide_eq_true hlt, cond_true, s1, s2, cond_false, Bool.not_false]
            · unfold m_impl_gather_L1
              simp only [hia, hib, Option.bind_some, hsum, decide_eq_true hlt, cond_true, i1, i2, Bool.not_false]
          · refine .inl ⟨(p2.Free, p2.Tails, p2.Placed), (p2.Free, p2.Tails, p2.Placed), ?_, ?_, p2, rfl, rfl, hmv.pb, hmv.placed.trans hpl, ?_⟩
            · unfold m_spec_l4Gather_L1
              simp only [hia, hib, Option.bind_some, hsum, decide_eq_true hlt, cond_true, s1, s2, cond_false, Bool.not_false, Bool.not_true]
            · unfold m_impl_gather_L1
              simp only [hia, hib, Option.bind_some, hsum, decide_eq_true hlt, cond_true, i1, i2, Bool.not_false, Bool.not_true, cond_false]
            · have h1 := hmv.fa hfb
              have h2 := hmv.fb
              rw [hfa] at h2
              unfold two
              rw [h1, h2]
              simp only [Option.getD_some]
              omega
        · refine .inl ⟨(p2.Free, p2.Tails, p2.Placed), (p2.Free, p2.Tails, p2.Placed), ?_, ?_, p2, rfl, rfl, hmv.pb, hmv.placed.trans hpl, ?_⟩
          · unfold m_spec_l4Gather_L1
            simp only [hia, hib, Option.bind_some, hsum, decide_eq_true hlt, cond_true, s1, cond_false, Bool.not_true]
          · unfold m_impl_gather_L1
            simp only [hia, hib, Option.bind_some, hsum, decide_eq_true hlt, cond_true, i1, Bool.not_true, cond_false]
          · have h1 := hmv.fa hfa
            have h2 := hmv.fb
            rw [hfb] at h2
            unfold two
            rw [h1, h2]
            simp only [Option.getD_some]
            omega
      · refine .inr ⟨.inl (p'.Free, p'.Tails, p'.Placed), .inl (p'.Free, p'.Tails, p'.Placed), ?_, ?_, .inl ⟨p', rfl, rfl, hp', hpl, by omega⟩⟩
        · unfold m_spec_l4Gather_L1
          simp only [hia, hib, Option.bind_some, hsum, decide_eq_false hlt, cond_false]
        · unfold m_impl_gather_L1
          simp only [hia, hib, Option.bind_some, hsum, decide_eq_false hlt, cond_false]
    · obtain ⟨p', rfl, rfl, hp', hpl, hn2⟩ := hs
      obtain ⟨fa, hfa, hia, fa0, fak⟩ := hp'.free_in a0 a1
      obtain ⟨fb, hfb, hib, fb0, fbk⟩ := hp'.free_in b0 b1
      have k3 := hp'.k3
      unfold two at hn2
      rw [hfa, hfb] at hn2
      simp only [Option.getD_some] at hn2
      omega
  obtain ⟨r, r', e1, e2, hr⟩ := main
  have hS : m_spec_l4Gather g p a b want = Sum.elim (fun b27 => some (TPebbles.mk b27.1 b27.2.1 b27.2.2, true)) (fun r => some r) r := by
    unfold m_spec_l4Gather
    rw [l4Copy_eq hg hp hm]
    simp only [Option.bind_some, e1]
  have hI : m_impl_gather bars p a b want = Sum.elim (fun b24 => some (true, TPebbles.mk b24.1 b24.2.1 b24.2.2)) (fun r => some r) r' := by
    unfold m_impl_gather
    rw [e2]
    rfl
  rcases hr with ⟨p', rfl, rfl, h1, h2, h3⟩ | ⟨p', p'', rfl, rfl⟩
  · exact .inl ⟨p', hS, hI, h1, h2, h3⟩
  · exact .inr ⟨p', p'', hS, hI⟩
end
end Go.Proofs.Ytiphmhofhgbhlaa
