/- Plain: ranks, freedoms, bridges: RankOf and what leans on it alone agree in the program and in the reference. -/
import Derived.Test.YtiphmhofhgbhlaaPlPeb2
set_option linter.unusedVariables false
set_option linter.unusedSimpArgs false
set_option linter.unnecessarySimpa false
open Go Go.Fw
namespace Go.Proofs.Ytiphmhofhgbhlaa

theorem PB.weak {P : Int} {bars : List TBar} {k : Int} {m : Nat} {p : TPebbles} (h : PB P bars k m p) : PB P bars k (m + 1) p :=
  ⟨h.k1, h.k3, h.fl, h.tl, by have := h.pl; omega, fun hx => by have := h.pr hx; omega, h.inc, h.ends, h.fr⟩
theorem snoc_get {α : Type} {l : List α} {x y : α} {i : Nat} (h : (l ++ [x])[i]? = some y) : (i < l.length ∧ l[i]? = some y) ∨ (i = l.length ∧ y = x) := by
  rw [List.getElem?_append] at h
  split at h
  · exact .inl ⟨by assumption, h⟩
  · right
    have : i - l.length = 0 := by
      rcases Nat.eq_zero_or_pos (i - l.length) with h0 | h0
      · exact h0
      · rw [List.getElem?_eq_none (by simp; omega)] at h
        cases h
    rw [this] at h
    simp at h
    exact ⟨by omega, h.symm⟩
/-- one more bar is placed -/
theorem PB.place {P : Int} {bars : List TBar} {k : Int} {m : Nat} {p : TPebbles} (hg : GB P bars) (hp : PB P bars k m p) (hml : m < bars.length) {x : TBar} (hx : bars[m]? = some x) {t f : Int} (ht : t = x.A ∨ t = x.B) (hf : p.Free[t.toNat]? = some f) (hpos : 0 < f) :
    PB P bars k (m + 1) ⟨p.Free.set t.toNat (f - 1), p.Tails ++ [t], p.Placed ++ [(m : Int)]⟩ := by
  have hpl := hp.pl
  have htl := hp.tl
  have t0 : 0 ≤ t := by
    rcases ht with rfl | rfl
    · exact hg.a0 hx
    · exact hg.b0 hx
  have hlast : ∀ {i : Nat} {v : Int}, (p.Placed ++ [(m : Int)])[i]? = some v → (i < p.Placed.length ∧ p.Placed[i]? = some v) ∨ (i = p.Placed.length ∧ v = (m : Int)) := fun h => snoc_get h
  refine ⟨hp.k1, hp.k3, by simpa using hp.fl, by simp [htl], by simp; omega, fun {i e} he => ?_, fun {i e e'} he he' => ?_, fun {i v} hv => ?_, fun {v w} hv => ?_⟩
  · rcases hlast he with ⟨_, h⟩ | ⟨_, rfl⟩
    · have := hp.pr h
      omega
    · omega
  · rcases hlast he' with ⟨h1, h2⟩ | ⟨h1, rfl⟩
    · rcases hlast he with ⟨_, h3⟩ | ⟨h3, _⟩
      · exact hp.inc h3 h2
      · omega
    · rcases hlast he with ⟨_, h3⟩ | ⟨h3, _⟩
      · have := hp.pr h3
        omega
      · omega
  · change (p.Tails ++ [t])[i]? = some v at hv
    rcases snoc_get hv with ⟨h1, h2⟩ | ⟨h1, rfl⟩
    · have := hp.ends h2
      have e : pbar bars ⟨p.Free.set t.toNat (f - 1), p.Tails ++ [t], p.Placed ++ [(m : Int)]⟩ i = pbar bars p i := by
        unfold pbar
        simp only
        rw [List.getElem?_append_left (by omega)]
      rw [e]
      exact this
    · have e : pbar bars ⟨p.Free.set v.toNat (f - 1), p.Tails ++ [v], p.Placed ++ [(m : Int)]⟩ i = x := by
        unfold pbar
        simp only
        rw [List.getElem?_append_right (by omega), h1, htl, Nat.sub_self]
        simp [hx]
      rw [e]
      exact ht
  · change 0 ≤ w ∧ w + ((p.Tails ++ [t]).count (v : Int) : Int) = k
    rw [List.count_append]
    rcases set_get hv with ⟨h1, rfl⟩ | ⟨h1, h2⟩
    · have hvt : (v : Int) = t := by omega
      have := hp.fr hf
      rw [Int.toNat_of_nonneg t0] at this
      rw [hvt]
      simp
      omega
    · have := hp.fr h2
      have h3 : ([t] : List Int).count (v : Int) = 0 := by
        rw [List.count_eq_zero]
        simp
        omega
      rw [h3]
      omega

/-! ### playing -/
theorem isRangeI_eq (k l : Int) : m_impl_IsRange k l = some ((decide (1 ≤ k) && decide (k ≤ 3)) && (decide (0 ≤ l) && decide (l ≤ 2 * k - 1))) := by
  unfold m_impl_IsRange
  rw [within_eq, within_eq]
  cases h : decide (1 ≤ k) && decide (k ≤ 3)
  · rfl
  · simp only [Bool.and_eq_true, decide_eq_true_eq] at h
    rw [w64_small (n := 2 * k) (by omega) (by omega), w64_small (by omega) (by omega)]
    rfl
theorem isRangeS_eq (k l : Int) : m_spec_IsRange k l = some ((decide (1 ≤ k) && decide (k ≤ 3)) && (decide (0 ≤ l) && decide (l ≤ 2 * k - 1))) := by
  unfold m_spec_IsRange
  rw [l1In_eq]
  cases h : decide (1 ≤ k) && decide (k ≤ 3)
  · rfl
  · simp only [Bool.and_eq_true, decide_eq_true_eq] at h
    rw [w64_small (n := 2 * k) (by omega) (by omega)]
    have : decide (l < 2 * k) = decide (l ≤ 2 * k - 1) := by rw [decide_eq_decide]; omega
    rw [this]
    cases decide (0 ≤ l) <;> rfl
/-- the placing of the bar m, of the program -/
def placeI (bars : List TBar) (l : Int) (p : TPebbles) (m : Nat) : TPebbles := match m_impl_place bars l p (m : Int) with
  | some (true, q) => q
  | _ => p
theorem place_both {P : Int} {bars : List TBar} {k l : Int} {m : Nat} {p : TPebbles} (hg : GB P bars) (hp : PB P bars k m p) (hml : m < bars.length) (hl : 0 ≤ l ∧ l ≤ 2 * k - 1) {g : TGraph} (hgp : g.Points = P) (hgb : g.Bars = bars) :
    PB P bars k (m + 1) (placeI bars l p m) ∧ (∃ ok q, m_impl_place bars l p (m : Int) = some (ok, q) ∧ placeI bars l p m = bif ok then q else p) ∧
      (m_spec_IsPebbles g k p = some true → m_spec_PlaceBar g k l p (m : Int) = some (placeI bars l p m, true) ∨ m_spec_PlaceBar g k l p (m : Int) = some (placeI bars l p m, false)) := by
  have hlen := hg.len
  have k3 := hp.k3
  have k1 := hp.k1
  have hx := List.getElem?_eq_getElem hml
  have hxi := idx_of (k := m) hx
  generalize bars[m] = x at hx hxi
  have hw : w64 (l + 1) = l + 1 := w64_small (by omega) (by omega)
  have hpre : m_spec_IsPebbles g k p = some true → ∀ M : Option (TPebbles × Bool), (((m_spec_IsPebbles g k p).bind fun r10 => bif (!r10) then some true else (m_spec_IsRange k l).bind fun r12 => bif (!r12) then some true else bif decide ((m : Int) < 0) then some true else bif decide ((g.Bars.length : Int) ≤ (m : Int)) then some true
      else bif decide (0 < (p.Placed.length : Int)) then (idx p.Placed (w64 ((p.Placed.length : Int) - 1))).bind fun x17 => some (decide ((m : Int) ≤ x17)) else some false : Option Bool).bind fun j9 => bif j9 then (m_spec_l4Copy p).bind fun r19 => some (r19, false) else M) = M := by
    intro h M
    have hpl := hp.pl
    rw [h, isRangeS_eq, decide_eq_true k1, decide_eq_true k3, decide_eq_true hl.1, decide_eq_true hl.2, decide_eq_false (show ¬ (m : Int) < 0 by omega), hgb, decide_eq_false (show ¬ (bars.length : Int) ≤ (m : Int) by omega)]
    simp only [Option.bind_some, Bool.and_self, Bool.not_true, cond_false]
    by_cases h0 : 0 < p.Placed.length
    · have hi : p.Placed[p.Placed.length - 1]? = some (p.Placed[p.Placed.length - 1]'(by omega)) := List.getElem?_eq_getElem (by omega)
      have hlt := hp.pr hi
      have e : w64 ((p.Placed.length : Int) - 1) = ((p.Placed.length - 1 : Nat) : Int) := by rw [w64_small (by omega) (by omega)]; omega
      rw [decide_eq_true (show 0 < (p.Placed.length : Int) by omega), e, idx_of hi]
      simp only [Option.bind_some, cond_true]
      rw [decide_eq_false (by omega)]
      rfl
    · rw [decide_eq_false (show ¬ 0 < (p.Placed.length : Int) by omega)]
      rfl
  rcases gather_both hg hp (by omega) hgp hgb (hg.a0 hx) (hg.ap hx) (hg.b0 hx) (hg.bp hx) (hg.ab hx) (want := l + 1) (by omega) with ⟨p', s1, i1, hp', hpl, htwo⟩ | ⟨p', p'', s1, i1⟩
  · obtain ⟨fa, hfa, hia, fa0, fak⟩ := hp'.free_in (hg.a0 hx) (hg.ap hx)
    obtain ⟨fb, hfb, hib, fb0, fbk⟩ := hp'.free_in (hg.b0 hx) (hg.bp hx)
    unfold two at htwo
    rw [hfa, hfb] at htwo
    simp only [Option.getD_some] at htwo
    have hpll := hp'.pl
    have htl := hp'.tl
    -- the tail and its pebbles
    obtain ⟨t, f, hte, htf, hti, hpos, hfk, htail⟩ : ∃ t f, (t = x.A ∨ t = x.B) ∧ p'.Free[t.toNat]? = some f ∧ idx p'.Free t = some f ∧ 0 < f ∧ f ≤ k ∧ (bif fa == 0 then some x.B else some x.A : Option Int) = some t := by
      by_cases h0 : fa = 0
      · exact ⟨x.B, fb, .inr rfl, hfb, hib, by omega, fbk, by simp [h0]⟩
      · have : (fa == 0) = false := by simp [h0]
        exact ⟨x.A, fa, .inl rfl, hfa, hia, by omega, fak, by simp [this]⟩
    have hI : m_impl_place bars l p (m : Int) = some (true, ⟨p'.Free.set t.toNat (f - 1), p'.Tails ++ [t], p'.Placed ++ [(m : Int)]⟩) := by
      unfold m_impl_place
      simp only [hxi, hw, i1, hia, htail, hti, Option.bind_some, Bool.not_true, cond_false, lim_ok (show p'.Tails.length + ([t] : List Int).length ≤ 2147483648 by simp; omega), lim_ok (show p'.Placed.length + ([(m : Int)] : List Int).length ≤ 2147483648 by simp; omega), w64_small (n := f - 1) (show -4611686018427387904 ≤ f - 1 by omega) (by omega)]
    have hpI : placeI bars l p m = ⟨p'.Free.set t.toNat (f - 1), p'.Tails ++ [t], p'.Placed ++ [(m : Int)]⟩ := by
      unfold placeI
      rw [hI]
    refine ⟨by rw [hpI]; exact hp'.place hg hml hx hte htf hpos, ⟨true, _, hI, hpI⟩, fun h => .inl ?_⟩
    rw [hpI]
    unfold m_spec_PlaceBar
    rw [hpre h]
    simp only [hgb, hxi, hw, s1, hia, htail, hti, Option.bind_some, Bool.not_true, cond_false, lim_ok (show p'.Tails.length + ([t] : List Int).length ≤ 2147483648 by simp; omega), lim_ok (show p'.Placed.length + ([(m : Int)] : List Int).length ≤ 2147483648 by simp; omega), w64_small (n := f - 1) (show -4611686018427387904 ≤ f - 1 by omega) (by omega)]
  · have hI : m_impl_place bars l p (m : Int) = some (false, p'') := by
      unfold m_impl_place
      simp only [hxi, hw, i1, Option.bind_some, Bool.not_false, cond_true]
    have hpI : placeI bars l p m = p := by
      unfold placeI
      rw [hI]
    refine ⟨by rw [hpI]; exact hp.weak, ⟨false, _, hI, hpI⟩, fun h => .inr ?_⟩
    rw [hpI]
    unfold m_spec_PlaceBar
    rw [hpre h]
    simp only [hgb, hxi, hw, s1, Option.bind_some, Bool.not_false, cond_true, l4Copy_eq hg hp (by omega)]
/-- the game, of the program -/
def played (P : Int) (bars : List TBar) (k l : Int) (n : Nat) : TPebbles := iter (fun m p => placeI bars l p m) n ⟨List.replicate P.toNat k, [], []⟩
theorem played_PB {P : Int} {bars : List TBar} {k l : Int} (hg : GB P bars) (k1 : 1 ≤ k) (k3 : k ≤ 3) (hl : 0 ≤ l ∧ l ≤ 2 * k - 1) : ∀ n, n ≤ bars.length → PB P bars k n (played P bars k l n)
  | 0, _ => by
    have := hg.p1
    refine ⟨k1, k3, by show ((List.replicate P.toNat k).length : Int) = P; simp; omega, rfl, Nat.le_refl _, (fun h => by cases h), (fun h => by cases h), (fun h => by cases h), fun {v f} hv => ?_⟩
    change (List.replicate P.toNat k)[v]? = some f at hv
    rw [List.getElem?_replicate] at hv
    split at hv
    · injection hv with hv
      subst hv
      show 0 ≤ k ∧ k + ((([] : List Int).count (v : Int) : Nat) : Int) = k
      simp
      omega
    · cases hv
  | n + 1, h => (place_both hg (played_PB hg k1 k3 hl n (by omega)) (by omega) hl (g := ⟨P, bars⟩) rfl rfl).1
theorem play_eq {P : Int} {bars : List TBar} {k l : Int} (hg : GB P bars) (k1 : 1 ≤ k) (k3 : k ≤ 3) (hl : 0 ≤ l ∧ l ≤ 2 * k - 1) : m_impl_play P bars k l = some (played P bars k l bars.length) := by
  have h1 := hg.p1
  have h8 := hg.p8
  have hlen := hg.len
  have e1 : loopM (m_impl_play_L1 P k) BIG (0, []) = some (List.replicate P.toNat k) := by
    refine loopM_run (fun n => ((n : Int), List.replicate n k)) P.toNat (by omega) rfl (fun n hn => ?_) ?_
    · unfold m_impl_play_L1
      simp only [w64_succ (show n ≤ 1099511627776 by omega)]
      rw [decide_eq_true (by omega), cond_true, lim_ok (by simp; omega), Option.bind_some, ← List.replicate_succ']
    · unfold m_impl_play_L1
      simp only
      rw [decide_eq_false (by omega)]
      rfl
  have e2 := fold_loop (b := m_impl_play_L2 bars l) (s := (0, List.replicate P.toNat k, [], [])) (fun n (p : TPebbles) => ((n : Int), p.Free, p.Tails, p.Placed)) (fun m p => placeI bars l p m) (fun n p => n ≤ bars.length ∧ PB P bars k n p) (fun p => (p.Free, p.Tails, p.Placed)) bars.length ⟨List.replicate P.toNat k, [], []⟩ (by omega) rfl ⟨Nat.zero_le _, played_PB hg k1 k3 hl 0 (Nat.zero_le _)⟩ (fun n p hn hp => by
    obtain ⟨hpb, ⟨ok, q, hI, hpI⟩, _⟩ := place_both hg hp.2 hn hl (g := ⟨P, bars⟩) rfl rfl
    refine ⟨?_, by omega, hpb⟩
    unfold m_impl_play_L2
    simp only [copyPebbles_eq hg hp.2 (by omega), hI, Option.bind_some, w64_succ (show n ≤ 1099511627776 by omega)]
    rw [decide_eq_true (by omega), cond_true, hpI]
    cases ok <;> rfl) (fun p hp => by simp [m_impl_play_L2])
  unfold m_impl_play
  rw [e1, Option.bind_some, e2.1]
  rfl
theorem l4Tail_eq {P : Int} {bars : List TBar} {k : Int} {m : Nat} {p : TPebbles} (hg : GB P bars) (hp : PB P bars k m p) (hm : m ≤ 1000) (v : Int) : m_spec_l4Tail p v = some (p.Tails.count v : Int) := by
  have htl := hp.tl
  have hpl := hp.pl
  have := fold_loop (b := m_spec_l4Tail_L1 p v) (s := (0, 0)) (fun n (c : Int) => (c, (n : Int))) (fun n c => match p.Tails[n]? with | some t => bif t == v then c + 1 else c | none => c) (fun n c => c = ((p.Tails.take n).count v : Int)) id p.Tails.length 0 (by omega) rfl (by simp) (fun n c hn hc => by
    have ht := List.getElem?_eq_getElem hn
    have htk : p.Tails.take (n + 1) = p.Tails.take n ++ [p.Tails[n]] := by rw [List.take_add_one, ht]; rfl
    have hcl := List.count_le_length (a := v) (l := p.Tails.take n)
    have hlt : (p.Tails.take n).length = n := by simp; omega
    rw [ht]
    constructor
    · unfold m_spec_l4Tail_L1
      simp only [idx_of ht, Option.bind_some, w64_succ (show n ≤ 1099511627776 by omega)]
      rw [decide_eq_true (by omega), cond_true, w64_small (n := c + 1) (by omega) (by omega)]
      cases p.Tails[n] == v <;> rfl
    · show (bif p.Tails[n] == v then c + 1 else c) = _
      rw [htk, List.count_append, List.count_singleton]
      cases p.Tails[n] == v
      · simp [hc]
      · simp [hc]) (fun c hc => by simp [m_spec_l4Tail_L1])
  unfold m_spec_l4Tail
  rw [this.1, Option.bind_some]
  have h2 := this.2
  rw [List.take_length] at h2
  rw [← h2]
  rfl
theorem isPebbles_eq {g : TGraph} {k : Int} {m : Nat} {p : TPebbles} (hv : vG g = true) (hp : PB g.Points g.Bars k m p) (hm : m ≤ 1000) : m_spec_IsPebbles g k p = some true := by
  have hV := vG_VG hv
  have hg := hV.gb
  have k1 := hp.k1
  have k3 := hp.k3
  have hfl := hp.fl
  have htl := hp.tl
  have hpl := hp.pl
  have h1 := hV.p1
  have h8 := hV.p8
  have e1 : loopM (m_spec_IsPebbles_L1 g p) BIG 0 = some (.inl ()) := by
    refine count_loop p.Placed.length (by omega) (fun i hi => ?_) (by simp [m_spec_IsPebbles_L1])
    obtain ⟨e, hpe, hbe, _⟩ := hp.bar hg hi
    obtain ⟨e0, e1, _⟩ := hp.pr hpe
    have hT : p.Tails[i]? = some (p.Tails[i]'(by omega)) := List.getElem?_eq_getElem (by omega)
    have hends := hp.ends hT
    generalize p.Tails[i]'(by omega) = t at hT hends
    unfold m_spec_IsPebbles_L1
    simp only [idx_of hpe, idx_of hT, hbe, Option.bind_some]
    rw [decide_eq_true (show (i : Int) < (p.Placed.length : Int) by omega), decide_eq_false (show ¬ e < 0 by omega), decide_eq_false (show ¬ (g.Bars.length : Int) ≤ e by omega)]
    have hne : ((bif t != (pbar g.Bars p i).A then some (t != (pbar g.Bars p i).B) else some false) : Option Bool) = some false := by
      rcases hends with h | h
      · rw [h]; simp
      · by_cases h2 : t = (pbar g.Bars p i).A
        · rw [h2]; simp
        · have : (t != (pbar g.Bars p i).A) = true := by simp [h2]
          rw [this, ← h]
          simp
    by_cases h0 : 0 < i
    · have hpe' : p.Placed[i - 1]? = some (p.Placed[i - 1]'(by omega)) := List.getElem?_eq_getElem (by omega)
      have hinc := hp.inc hpe' (by rw [Nat.sub_add_cancel h0]; exact hpe)
      have ew : w64 ((i : Int) - 1) = ((i - 1 : Nat) : Int) := by rw [w64_small (by omega) (by omega)]; omega
      rw [decide_eq_true (show (0 : Int) < (i : Int) by omega), ew, idx_of hpe']
      simp only [Option.bind_some, cond_true, cond_false]
      rw [decide_eq_false (show ¬ e ≤ p.Placed[i - 1]'(by omega) by omega), cond_false, hne]
      rfl
    · rw [decide_eq_false (show ¬ (0 : Int) < (i : Int) by omega)]
      simp only [Option.bind_some, cond_true, cond_false]
      rw [hne]
      rfl
  have e2 : loopM (m_spec_IsPebbles_L2 g k p) BIG 0 = some (.inl ()) := by
    refine count_loop g.Points.toNat (by omega) (fun i hi => ?_) (by
      unfold m_spec_IsPebbles_L2
      rw [decide_eq_false (by omega)]
      rfl)
    obtain ⟨f, hf, hif, f0, fk⟩ := hp.free_in (v := (i : Int)) (by omega) (by omega)
    rw [Int.toNat_natCast] at hf
    have hfr := hp.fr hf
    unfold m_spec_IsPebbles_L2
    simp only [hif, l4Tail_eq hg hp hm, Option.bind_some]
    rw [decide_eq_true (show (i : Int) < g.Points by omega), decide_eq_false (show ¬ f < 0 by omega), w64_small (by omega) (by omega), hfr.2]
    simp
  unfold m_spec_IsPebbles
  rw [isGraphS_eq g hV.sm, hv, l1In_eq, decide_eq_true k1, decide_eq_true k3, e1, e2]
  have q1 : ((p.Free.length : Int) != g.Points) = false := by simp [hfl]
  have q2 : ((p.Tails.length : Int) != (p.Placed.length : Int)) = false := by simp [htl]
  rw [q1, q2]
  rfl
/-- the run of the game -/
def runP (g : TGraph) (k l : Int) : TPebbles × Bool := bif vG g && ((decide (1 ≤ k) && decide (k ≤ 3)) && (decide (0 ≤ l) && decide (l ≤ 2 * k - 1))) then (played g.Points g.Bars k l g.Bars.length, true) else (⟨[], [], []⟩, false)
theorem runI_eq (g : TGraph) (h : SM g.Bars.length) (k l : Int) : m_impl_RunPebbles g k l = some (runP g k l) := by
  unfold m_impl_RunPebbles runP
  rw [isGraphI_eq g h, isRangeI_eq]
  cases hv : vG g
  · rfl
  · cases hr : (decide (1 ≤ k) && decide (k ≤ 3)) && (decide (0 ≤ l) && decide (l ≤ 2 * k - 1))
    · rfl
    · simp only [Bool.and_eq_true, decide_eq_true_eq] at hr
      simp only [Option.bind_some, Bool.not_true, cond_false, Bool.and_self, cond_true, play_eq (vG_VG hv).gb hr.1.1 hr.1.2 hr.2]
theorem newS_eq (g : TGraph) (h : SM g.Bars.length) (k : Int) : m_spec_NewPebbles g k = some (bif vG g && (decide (1 ≤ k) && decide (k ≤ 3)) then (⟨List.replicate g.Points.toNat k, [], []⟩, true) else (⟨[], [], []⟩, false)) := by
  unfold m_spec_NewPebbles
  rw [isGraphS_eq g h, l1In_eq]
  cases hv : vG g
  · rfl
  · cases hr : decide (1 ≤ k) && decide (k ≤ 3)
    · rfl
    · have h1 := (vG_VG hv).p1
      have h8 := (vG_VG hv).p8
      have e1 : loopM (m_spec_NewPebbles_L1 g k) BIG (0, []) = some (List.replicate g.Points.toNat k) := by
        refine loopM_run (fun n => ((n : Int), List.replicate n k)) g.Points.toNat (by omega) rfl (fun n hn => ?_) ?_
        · unfold m_spec_NewPebbles_L1
          simp only [w64_succ (show n ≤ 1099511627776 by omega)]
          rw [decide_eq_true (by omega), cond_true, lim_ok (by simp; omega), Option.bind_some, ← List.replicate_succ']
        · unfold m_spec_NewPebbles_L1
          simp only
          rw [decide_eq_false (by omega)]
          rfl
      rw [e1]
      rfl
theorem runS_eq (g : TGraph) (h : SM g.Bars.length) (k l : Int) : m_spec_RunPebbles g k l = some (runP g k l) := by
  unfold m_spec_RunPebbles runP
  rw [newS_eq g h, isRangeS_eq]
  cases hv : vG g
  · rfl
  · have hV := vG_VG hv
    have hg := hV.gb
    have hlen := hg.len
    cases hk : decide (1 ≤ k) && decide (k ≤ 3)
    · rfl
    · cases hl : decide (0 ≤ l) && decide (l ≤ 2 * k - 1)
      · rfl
      · simp only [Bool.and_eq_true, decide_eq_true_eq] at hk hl
        have e2 := fold_loop (b := m_spec_RunPebbles_L1 g k l) (s := (0, List.replicate g.Points.toNat k, [], [])) (fun n (p : TPebbles) => ((n : Int), p.Free, p.Tails, p.Placed)) (fun m p => placeI g.Bars l p m) (fun n p => n ≤ g.Bars.length ∧ PB g.Points g.Bars k n p) (fun p => (p.Free, p.Tails, p.Placed)) g.Bars.length ⟨List.replicate g.Points.toNat k, [], []⟩ (by omega) rfl ⟨Nat.zero_le _, played_PB hg hk.1 hk.2 hl 0 (Nat.zero_le _)⟩ (fun n p hn hp => by
          obtain ⟨hpb, _, hS⟩ := place_both hg hp.2 hn hl (g := g) rfl rfl
          refine ⟨?_, by omega, hpb⟩
          have hS := hS (isPebbles_eq hv hp.2 (by omega))
          unfold m_spec_RunPebbles_L1
          rw [decide_eq_true (show ((n : Int), p.Free, p.Tails, p.Placed).1 < (g.Bars.length : Int) by simp only; omega), cond_true]
          simp only [w64_succ (show n ≤ 1099511627776 by omega)]
          rcases hS with hS | hS
          · rw [show TPebbles.mk p.Free p.Tails p.Placed = p from rfl, hS]
            rfl
          · rw [show TPebbles.mk p.Free p.Tails p.Placed = p from rfl, hS]
            rfl) (fun p hp => by simp [m_spec_RunPebbles_L1])
        simp only [Option.bind_some, Bool.and_self, Bool.not_true, cond_false, cond_true, e2.1]
        rfl

/-! ### ranks -/
def rk (g : TGraph) (k l : Int) : Int := bif (runP g k l).2 then ((runP g k l).1.Placed.length : Int) else -1
theorem rk_rng (g : TGraph) (k l : Int) : -1 ≤ rk g k l ∧ rk g k l ≤ 1000 := by
  unfold rk
  cases h : (runP g k l).2
  · exact ⟨by simp, by simp⟩
  · unfold runP at h ⊢
    cases hc : vG g && ((decide (1 ≤ k) && decide (k ≤ 3)) && (decide (0 ≤ l) && decide (l ≤ 2 * k - 1)))
    · rw [hc] at h; cases h
    · simp only [Bool.and_eq_true, decide_eq_true_eq] at hc
      have hg := (vG_VG hc.1).gb
      have := (played_PB hg hc.2.1.1 hc.2.1.2 hc.2.2 g.Bars.length (Nat.le_refl _)).pl
      have := hg.len
      simp only [cond_true]
      omega
theorem rankI_eq (g : TGraph) (h : SM g.Bars.length) (k l : Int) : m_impl_RankOf g k l = some (rk g k l) := by
  unfold m_impl_RankOf rk
  rw [runI_eq g h]
  simp only [Option.bind_some]
  cases (runP g k l).2 <;> rfl
theorem rankS_eq (g : TGraph) (h : SM g.Bars.length) (k l : Int) : m_spec_RankOf g k l = some (rk g k l) := by
  unfold m_spec_RankOf rk
  rw [runS_eq g h]
  simp only [Option.bind_some]
  cases (runP g k l).2 <;> rfl

/-! ### bodies -/
def bodyFr (g : TGraph) : Int := bif vG g then w64 (w64 (w64 (3 * g.Points) - 3) - rk g 3 3) else -1
def hinged (g : TGraph) : List TBar := pieces (fun k => match g.Bars[k]? with | some x => [x, x] | none => []) g.Bars.length
theorem hinged_len (g : TGraph) : (hinged g).length ≤ 2 * g.Bars.length := pieces_len _ fun k hk => by
  simp only [List.getElem?_eq_getElem hk]
  exact Nat.le_refl _
def hingeG (g : TGraph) : TGraph × Bool := bif vG g && !decide (24 < w64 (2 * (g.Bars.length : Int))) then (⟨g.Points, hinged g⟩, true) else (⟨0, []⟩, false)
theorem hingeG_sm (g : TGraph) (h : g.Bars.length ≤ 1048576) : SM (hingeG g).1.Bars.length := by
  have := hinged_len g
  unfold hingeG
  cases vG g && !decide (24 < w64 (2 * (g.Bars.length : Int)))
  · exact Nat.zero_le _
  · show SM (hinged g).length
    omega
/-! ### bridges -/
def dropBar (g : TGraph) (k : Nat) : TGraph := ⟨g.Points, g.Bars.take k ++ g.Bars.drop (k + 1)⟩
theorem dropBar_sm {g : TGraph} (h : SM g.Bars.length) (k : Nat) : SM (dropBar g k).Bars.length := by
  unfold dropBar
  simp only [List.length_append, List.length_take, List.length_drop]
  omega
theorem removeI_eq {g : TGraph} (hv : vG g = true) {k : Nat} (hk : k < g.Bars.length) : m_impl_RemoveBar g (k : Int) = some (dropBar g k, true) := by
  have hV := vG_VG hv
  have hl := hV.len
  have e1 : w64 ((k : Int) + 1) = ((k + 1 : Nat) : Int) := w64_succ (by omega)
  have s1 : slc g.Bars 0 (k : Int) = some ((g.Bars.take k).drop 0) := by unfold slc; rw [if_pos (by omega)]; rfl
  have s2 : slc g.Bars ((k + 1 : Nat) : Int) (g.Bars.length : Int) = some ((g.Bars.take g.Bars.length).drop (k + 1)) := by unfold slc; rw [if_pos (by omega)]; rfl
  unfold m_impl_RemoveBar
  rw [copyGraph_eq g hV.sm, isGraphI_eq g hV.sm, hv, within_eq, w64_small (n := (g.Bars.length : Int) - 1) (by omega) (by omega), decide_eq_true (show (0 : Int) ≤ (k : Int) by omega), decide_eq_true (show (k : Int) ≤ (g.Bars.length : Int) - 1 by omega)]
  simp only [Option.bind_some, Bool.not_true, Bool.and_self, cond_false, e1, s1, s2, Int.toNat_natCast]
  rw [lim_ok (by omega), same_ok (by omega), same_ok (by omega)]
  simp only [Option.bind_some, dropBar]
  rw [Nat.sub_zero, List.take_of_length_le (l := g.Bars.drop (k + 1)) (by simp)]
theorem removeS_eq {g : TGraph} (hv : vG g = true) {k : Nat} (hk : k < g.Bars.length) : m_spec_RemoveBar g (k : Int) = some (dropBar g k, true) := by
  have hV := vG_VG hv
  have hl := hV.len
  have e1 : w64 ((k : Int) + 1) = ((k + 1 : Nat) : Int) := w64_succ (by omega)
  have s1 : slc g.Bars 0 (k : Int) = some ((g.Bars.take k).drop 0) := by unfold slc; rw [if_pos (by omega)]; rfl
  have s2 : slc g.Bars ((k + 1 : Nat) : Int) (g.Bars.length : Int) = some ((g.Bars.take g.Bars.length).drop (k + 1)) := by unfold slc; rw [if_pos (by omega)]; rfl
  unfold m_spec_RemoveBar
  rw [isGraphS_eq g hV.sm, hv, decide_eq_false (show ¬ (k : Int) < 0 by omega), decide_eq_false (show ¬ (g.Bars.length : Int) ≤ (k : Int) by omega)]
  simp only [Option.bind_some, Bool.not_true, cond_false, e1, s1, s2, Int.toNat_natCast]
  rw [lim_ok (by simp; omega), Option.bind_some, lim_ok (by simp; omega)]
  simp only [Option.bind_some, dropBar, List.nil_append, List.drop_zero, List.take_length]
theorem rk_neg {g : TGraph} {k l : Int} (h : vG g = false) : rk g k l = -1 := by
  unfold rk runP
  rw [h]
  rfl
def bridges (g : TGraph) (k l : Int) : List Int := bif decide (rk g k l < 0) then [] else pieces (fun e => bif decide (rk (dropBar g e) k l < rk g k l) then [(e : Int)] else []) g.Bars.length
theorem bridgesI_eq (g : TGraph) (h : SM g.Bars.length) (k l : Int) : m_impl_BridgesOf g k l = some (bridges g k l) := by
  unfold m_impl_BridgesOf bridges
  rw [rankI_eq g h]
  simp only [Option.bind_some]
  cases hr : decide (rk g k l < 0)
  · have hv : vG g = true := by
      cases hv : vG g
      · rw [rk_neg hv] at hr; cases hr
      · rfl
    have hl := (vG_VG hv).len
    have := app_loop (b := m_impl_BridgesOf_L1 g k l (rk g k l)) (s := (0, [])) (fun n out => ((n : Int), out)) (fun e => bif decide (rk (dropBar g e) k l < rk g k l) then [(e : Int)] else []) id 1 g.Bars.length [] (by omega) rfl (fun e he => by cases decide (rk (dropBar g e) k l < rk g k l) <;> simp) (fun e out he ho => by
      simp only [List.length_nil, Nat.zero_add, Nat.one_mul] at ho
      unfold m_impl_BridgesOf_L1
      simp only [removeI_eq hv he, rankI_eq _ (dropBar_sm h e), Option.bind_some, w64_succ (show e ≤ 1099511627776 by omega), lim_ok (show out.length + ([(e : Int)] : List Int).length ≤ 2147483648 by simp; omega)]
      rw [decide_eq_true (by omega), cond_true]
      cases decide (rk (dropBar g e) k l < rk g k l) <;> simp) (fun out => by simp [m_impl_BridgesOf_L1])
    rw [cond_false, this]
    rfl
  · rfl
theorem bridgesS_eq (g : TGraph) (h : SM g.Bars.length) (k l : Int) : m_spec_BridgesOf g k l = some (bridges g k l) := by
  unfold m_spec_BridgesOf bridges
  rw [rankS_eq g h]
  simp only [Option.bind_some]
  cases hr : decide (rk g k l < 0)
  · have hv : vG g = true := by
      cases hv : vG g
      · rw [rk_neg hv] at hr; cases hr
      · rfl
    have hl := (vG_VG hv).len
    have hr2 : decide (0 ≤ rk g k l) = true := by
      rw [decide_eq_false_iff_not] at hr
      rw [decide_eq_true_eq]
      omega
    have := app_loop (b := m_spec_BridgesOf_L1 g k l (rk g k l)) (s := (0, [])) (fun n out => ((n : Int), out)) (fun e => bif decide (rk (dropBar g e) k l < rk g k l) then [(e : Int)] else []) id 1 g.Bars.length [] (by omega) rfl (fun e he => by cases decide (rk (dropBar g e) k l < rk g k l) <;> simp) (fun e out he ho => by
      simp only [List.length_nil, Nat.zero_add, Nat.one_mul] at ho
      unfold m_spec_BridgesOf_L1
      simp only [removeS_eq hv he, rankS_eq _ (dropBar_sm h e), Option.bind_some, w64_succ (show e ≤ 1099511627776 by omega), lim_ok (show out.length + ([(e : Int)] : List Int).length ≤ 2147483648 by simp; omega), hr2]
      rw [decide_eq_true (by omega), cond_true]
      cases decide (rk (dropBar g e) k l < rk g k l) <;> simp) (fun out => by simp [m_spec_BridgesOf_L1])
    rw [this]
    rfl
  · have hr2 : decide (0 ≤ rk g k l) = false := by
      rw [decide_eq_true_eq] at hr
      rw [decide_eq_false_iff_not]
      omega
    have e : loopM (m_spec_BridgesOf_L1 g k l (rk g k l)) BIG (0, []) = some [] := loopM_run (fun _ => (0, [])) 0 (by omega) rfl (fun k hk => by omega) (by
      unfold m_spec_BridgesOf_L1
      rw [hr2]
      cases decide ((0 : Int) < (g.Bars.length : Int)) <;> rfl)
    rw [e]
    rfl
theorem bridges_len (g : TGraph) (k l : Int) : (bridges g k l).length ≤ g.Bars.length := by
  unfold bridges
  cases decide (rk g k l < 0)
  · have := pieces_len (f := fun e => bif decide (rk (dropBar g e) k l < rk g k l) then [(e : Int)] else []) (c := 1) g.Bars.length (fun e _ => by cases decide (rk (dropBar g e) k l < rk g k l) <;> simp)
    rw [Nat.one_mul] at this
    exact this
  · exact Nat.zero_le _
theorem fragileI_eq (g : TGraph) (h : SM g.Bars.length) : m_impl_FragileBars g = some (bridges g 2 3) := by unfold m_impl_FragileBars; rw [bridgesI_eq g h]; rfl
theorem fragileS_eq (g : TGraph) (h : SM g.Bars.length) : m_spec_FragileBars g = some (bridges g 2 3) := by unfold m_spec_FragileBars; rw [bridgesS_eq g h]; rfl
theorem both_FragileBars (g : TGraph) (h : g.Bars.length ≤ 1048576) : ∃ w, m_spec_FragileBars g = some w ∧ m_impl_FragileBars g = some w ∧ SM w.length :=
  ⟨_, fragileS_eq g (by omega), fragileI_eq g (by omega), by have := bridges_len g 2 3; omega⟩

/-! ### rigidity of graphs -/
def freedom (g : TGraph) : Int := bif vG g then w64 ((if 0 < w64 (w64 (2 * g.Points) - 3) then w64 (w64 (2 * g.Points) - 3) else 0) - rk g 2 3) else -1
theorem freedomI_eq (g : TGraph) (h : SM g.Bars.length) : m_impl_FreedomOf g = some (freedom g) := by
  unfold m_impl_FreedomOf freedom
  rw [isGraphI_eq g h, rankI_eq g h]
  cases vG g <;> rfl
theorem freedomS_eq (g : TGraph) (h : SM g.Bars.length) : m_spec_FreedomOf g = some (freedom g) := by
  unfold m_spec_FreedomOf freedom
  rw [isGraphS_eq g h, rankS_eq g h]
  cases vG g <;> rfl
def rigid (g : TGraph) : Bool := freedom g == 0
theorem rigidI_eq (g : TGraph) (h : SM g.Bars.length) : m_impl_IsRigid g = some (rigid g) := by unfold m_impl_IsRigid; rw [freedomI_eq g h]; rfl
theorem rigidS_eq (g : TGraph) (h : SM g.Bars.length) : m_spec_IsRigid g = some (rigid g) := by unfold m_spec_IsRigid; rw [freedomS_eq g h]; rfl
def redRigid (g : TGraph) : Bool := rigid g && ((bridges g 2 3).length : Int) == 0
theorem redRigidI_eq (g : TGraph) (h : SM g.Bars.length) : m_impl_IsRedundantlyRigid g = some (redRigid g) := by
  unfold m_impl_IsRedundantlyRigid redRigid
  rw [rigidI_eq g h, fragileI_eq g h]
  cases rigid g <;> rfl
theorem redRigidS_eq (g : TGraph) (h : SM g.Bars.length) : m_spec_IsRedundantlyRigid g = some (redRigid g) := by
  unfold m_spec_IsRedundantlyRigid redRigid
  rw [rigidS_eq g h, fragileS_eq g h]
  cases rigid g <;> rfl
theorem both_IsRedundantlyRigid (g : TGraph) (h : g.Bars.length ≤ 1048576) : ∃ w, m_spec_IsRedundantlyRigid g = some w ∧ m_impl_IsRedundantlyRigid g = some w := ⟨_, redRigidS_eq g (by omega), redRigidI_eq g (by omega)⟩
def only (g : TGraph) (keep : List Int) : TGraph := ⟨g.Points, pieces (fun k => match g.Bars[k]? with | some x => bif hasI keep k then [x] else [] | none => []) g.Bars.length⟩
theorem only_le (g : TGraph) (keep : List Int) (k : Nat) (hk : k < g.Bars.length) : ((match g.Bars[k]? with | some x => bif hasI keep k then [x] else [] | none => []) : List TBar).length ≤ 1 := by
  rw [List.getElem?_eq_getElem hk]
  cases hasI keep k <;> simp
theorem only_sm {g : TGraph} (h : SM g.Bars.length) (keep : List Int) : SM (only g keep).Bars.length := by
  have := pieces_len (f := fun k => match g.Bars[k]? with | some x => bif hasI keep k then [x] else [] | none => []) (c := 1) g.Bars.length (only_le g keep)
  unfold only
  simp only
  omega
def kept (g : TGraph) (broken : List Int) : List Int := pieces (fun k => bif hasI broken k then [] else [(k : Int)]) g.Bars.length
theorem kept_sm {g : TGraph} (h : SM g.Bars.length) (broken : List Int) : SM (kept g broken).length := by
  have := pieces_len (f := fun k => bif hasI broken k then [] else [(k : Int)]) (c := 1) g.Bars.length (fun e _ => by cases hasI broken e <;> simp)
  unfold kept
  omega
def redundant (g : TGraph) : List Int := bif vG g then pieces (fun k => bif hasI (bridges g 2 3) k then [] else [(k : Int)]) g.Bars.length else []
theorem redundantI_eq (g : TGraph) (h : SM g.Bars.length) : m_impl_RedundantBars g = some (redundant g) := by
  unfold m_impl_RedundantBars redundant
  rw [isGraphI_eq g h, fragileI_eq g h]
  have hb : SM (bridges g 2 3).length := by have := bridges_len g 2 3; omega
  cases vG g
  · rfl
  · have := app_loop (b := m_impl_RedundantBars_L1 g (bridges g 2 3)) (s := (0, [])) (fun n out => ((n : Int), out)) (fun k => bif hasI (bridges g 2 3) k then [] else [(k : Int)]) id 1 g.Bars.length [] (by omega) rfl (fun e _ => by cases hasI (bridges g 2 3) e <;> simp) (fun e out he ho => by
      simp only [List.length_nil, Nat.zero_add, Nat.one_mul] at ho
      unfold m_impl_RedundantBars_L1
      simp only [contains_eq _ hb, Option.bind_some, w64_succ (show e ≤ 1099511627776 by omega), lim_ok (show out.length + ([(e : Int)] : List Int).length ≤ 2147483648 by simp; omega)]
      rw [decide_eq_true (by omega), cond_true]
      cases hasI (bridges g 2 3) e <;> simp) (fun out => by simp [m_impl_RedundantBars_L1])
    simp only [Option.bind_some, Bool.not_true, cond_false, this]
    rfl
theorem redundantS_eq (g : TGraph) (h : SM g.Bars.length) : m_spec_RedundantBars g = some (redundant g) := by
  unfold m_spec_RedundantBars redundant
  rw [bridgesS_eq g h]
  have hb : SM (bridges g 2 3).length := by have := bridges_len g 2 3; omega
  cases hv : vG g
  · have e : loopM (m_spec_RedundantBars_L1 g (bridges g 2 3)) BIG (0, []) = some [] := loopM_run (fun _ => (0, [])) 0 (by omega) rfl (fun k hk => by omega) (by
      unfold m_spec_RedundantBars_L1
      rw [isGraphS_eq g h, hv]
      cases decide ((0 : Int) < (g.Bars.length : Int)) <;> rfl)
    simp only [Option.bind_some, e]
    rfl
  · have := app_loop (b := m_spec_RedundantBars_L1 g (bridges g 2 3)) (s := (0, [])) (fun n out => ((n : Int), out)) (fun k => bif hasI (bridges g 2 3) k then [] else [(k : Int)]) id 1 g.Bars.length [] (by omega) rfl (fun e _ => by cases hasI (bridges g 2 3) e <;> simp) (fun e out he ho => by
      simp only [List.length_nil, Nat.zero_add, Nat.one_mul] at ho
      unfold m_spec_RedundantBars_L1
      simp only [l2Has_eq _ hb, isGraphS_eq g h, hv, Option.bind_some, w64_succ (show e ≤ 1099511627776 by omega), lim_ok (show out.length + ([(e : Int)] : List Int).length ≤ 2147483648 by simp; omega)]
      rw [decide_eq_true (by omega)]
      cases hasI (bridges g 2 3) e <;> simp) (fun out => by simp [m_spec_RedundantBars_L1])
    simp only [Option.bind_some, this]
    rfl
theorem both_RedundantBars (g : TGraph) (h : g.Bars.length ≤ 1048576) : ∃ w, m_spec_RedundantBars g = some w ∧ m_impl_RedundantBars g = some w ∧ SM w.length := by
  refine ⟨_, redundantS_eq g (by omega), redundantI_eq g (by omega), ?_⟩
  unfold redundant
  cases vG g
  · exact Nat.zero_le _
  · have := pieces_len (f := fun k => bif hasI (bridges g 2 3) k then [] else [(k : Int)]) (c := 1) g.Bars.length (fun e _ => by cases hasI (bridges g 2 3) e <;> simp)
    simp only [cond_true]
    omega
end Go.Proofs.Ytiphmhofhgbhlaa
