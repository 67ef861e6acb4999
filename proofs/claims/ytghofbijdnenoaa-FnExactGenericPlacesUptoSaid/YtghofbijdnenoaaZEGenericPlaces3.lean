/- Parts of a proof that a law of the program holds: what the program computes, and why that is right. -/
import Derived.Test.YtghofbijdnenoaaProg
import Derived.Test.YtghofbijdnenoaaZEGenericPlaces2
section
set_option linter.unusedVariables false
set_option linter.unusedSimpArgs false
set_option linter.unnecessarySimpa false
open Go Go.Fw
namespace Go.Proofs.Ytghofbijdnenoaa
theorem PB.weak {P : Int} {bars : List TBar} {k : Int} {m : Nat} {p : TPebbles} (h : PB P bars k m p) : PB P bars k (m + 1) p :=
  ⟨h.k1, h.k3, h.fl, h.tl, by have := h.pl; omega, fun hx => by have := h.pr hx; omega, h.inc, h.ends, h.fr⟩
theorem snoc_get {α : Type} {l : List α} {x y : α} {i : Nat} (h : (l ++ [x])[i]? = some y) : (i < l.length ∧ l[i]? = some y) ∨ (i = l.length ∧ y = x) := by
  rw [List.getElem?_append] at h
  split at h
  · exact .inl ⟨by assumption, h⟩
  · right
    have : i - l.length = 0 := by
      rcases Nat.eq_zero_or_pos (i - l.length) with h0 | h0
      · exact h0
      · rw [List.getElem?_eq_none (by simp; omega)] at h
        cases h
    rw [this] at h
    simp at h
    exact ⟨by omega, h.symm⟩
theorem PB.place {P : Int} {bars : List TBar} {k : Int} {m : Nat} {p : TPebbles} (hg : GB P bars) (hp : PB P bars k m p) (hml : m < bars.length) {x : TBar} (hx : bars[m]? = some x) {t f : Int} (ht : t = x.A ∨ t = x.B) (hf : p.Free[t.toNat]? = some f) (hpos : 0 < f) :
    PB P bars k (m + 1) ⟨p.Free.set t.toNat (f - 1), p.Tails ++ [t], p.Placed ++ [(m : Int)]⟩ := by
  have hpl := hp.pl
  have htl := hp.tl
  have t0 : 0 ≤ t := by
    rcases ht with rfl | rfl
    · exact hg.a0 hx
    · exact hg.b0 hx
  have hlast : ∀ {i : Nat} {v : Int}, (p.Placed ++ [(m : Int)])[i]? = some v → (i < p.Placed.length ∧ p.Placed[i]? = some v) ∨ (i = p.Placed.length ∧ v = (m : Int)) := fun h => snoc_get h
  refine ⟨hp.k1, hp.k3, by simpa using hp.fl, by simp [htl], by simp; omega, fun {i e} he => ?_, fun {i e e'} he he' => ?_, fun {i v} hv => ?_, fun {v w} hv => ?_⟩
  · rcases hlast he with ⟨_, h⟩ | ⟨_, rfl⟩
    · have := hp.pr h
      omega
    · omega
  · rcases hlast he' with ⟨h1, h2⟩ | ⟨h1, rfl⟩
    · rcases hlast he with ⟨_, h3⟩ | ⟨h3, _⟩
      · exact hp.inc h3 h2
      · omega
    · rcases hlast he with ⟨_, h3⟩ | ⟨h3, _⟩
      · have := hp.pr h3
        omega
      · omega
  · change (p.Tails ++ [t])[i]? = some v at hv
    rcases snoc_get hv with ⟨h1, h2⟩ | ⟨h1, rfl⟩
    · have := hp.ends h2
      have e : pbar bars ⟨p.Free.set t.toNat (f - 1), p.Tails ++ [t], p.Placed ++ [(m : Int)]⟩ i = pbar bars p i := by
        unfold pbar
        simp only
        rw [List.getElem?_append_left (by omega)]
      rw [e]
      exact this
    · have e : pbar bars ⟨p.Free.set v.toNat (f - 1), p.Tails ++ [v], p.Placed ++ [(m : Int)]⟩ i = x := by
        unfold pbar
        simp only
        rw [List.getElem?_append_right (by omega), h1, htl, Nat.sub_self]
        simp [hx]
      rw [e]
      exact ht
  · change 0 ≤ w ∧ w + ((p.Tails ++ [t]).count (v : Int) : Int) = k
    rw [List.count_append]
    rcases set_get hv with ⟨h1, rfl⟩ | ⟨h1, h2⟩
    · have hvt : (v : Int) = t := by omega
      have := hp.fr hf
      rw [Int.toNat_of_nonneg t0] at this
      rw [hvt]
      simp
      omega
    · have := hp.fr h2
      have h3 : ([t] : List Int).count (v : Int) = 0 := by
        rw [List.count_eq_zero]
        simp
        omega
      rw [h3]
      omega
theorem isRangeI_eq (k l : Int) : m_impl_IsRange k l = some ((decide (1 ≤ k) && decide (k ≤ 3)) && (decide (0 ≤ l) && decide (l ≤ 2 * k - 1))) := by
  unfold m_impl_IsRange
  rw [within_eq, within_eq]
  cases h : decide (1 ≤ k) && decide (k ≤ 3)
  · rfl
  · simp only [Bool.and_eq_true, decide_eq_true_eq] at h
    rw [w64_small (n := 2 * k) (by omega) (by omega), w64_small (by omega) (by omega)]
    rfl
theorem isRangeS_eq (k l : Int) : m_spec_IsRange k l = some ((decide (1 ≤ k) && decide (k ≤ 3)) && (decide (0 ≤ l) && decide (l ≤ 2 * k - 1))) := by
  unfold m_spec_IsRange
  rw [l1In_eq]
  cases h : decide (1 ≤ k) && decide (k ≤ 3)
  · rfl
  · simp only [Bool.and_eq_true, decide_eq_true_eq] at h
    rw [w64_small (n := 2 * k) (by omega) (by omega)]
    have : decide (l < 2 * k) = decide (l ≤ 2 * k - 1) := by rw [decide_eq_decide]; omega
    rw [this]
    cases decide (0 ≤ l) <;> rfl
def placeI (bars : List TBar) (l : Int) (p : TPebbles) (m : Nat) : TPebbles := match m_impl_place bars l p (m : Int) with
  | some (true, q) => q
  | _ => p
theorem place_both {P : Int} {bars : List TBar} {k l : Int} {m : Nat} {p : TPebbles} (hg : GB P bars) (hp : PB P bars k m p) (hml : m < bars.length) (hl : 0 ≤ l ∧ l ≤ 2 * k - 1) {g : TGraph} (hgp : g.Points = P) (hgb : g.Bars = bars) :
    PB P bars k (m + 1) (placeI bars l p m) ∧ (∃ ok q, m_impl_place bars l p (m : Int) = some (ok, q) ∧ placeI bars l p m = bif ok then q else p) ∧
      (m_spec_IsPebbles g k p = some true → m_spec_PlaceBar g k l p (m : Int) = some (placeI bars l p m, true) ∨ m_spec_PlaceBar g k l p (m : Int) = some (placeI bars l p m, false)) := by
  have hlen := hg.len
  have k3 := hp.k3
  have k1 := hp.k1
  have hx := List.getElem?_eq_getElem hml
  have hxi := idx_of (k := m) hx
  generalize bars[m] = x at hx hxi
  have hw : w64 (l + 1) = l + 1 := w64_small (by omega) (by omega)
  have hpre : m_spec_IsPebbles g k p = some true → ∀ M : Option (TPebbles × Bool), (((m_spec_IsPebbles g k p).bind fun r10 => bif (!r10) then some true else (m_spec_IsRange k l).bind fun r12 => bif (!r12) then some true else bif decide ((m : Int) < 0) then some true else bif decide ((g.Bars.length : Int) ≤ (m : Int)) then some true
      else bif decide (0 < (p.Placed.length : Int)) then (idx p.Placed (w64 ((p.Placed.length : Int) - 1))).bind fun x17 => some (decide ((m : Int) ≤ x17)) else some false : Option Bool).bind fun j9 => bif j9 then (m_spec_l4Copy p).bind fun r19 => some (r19, false) else M) = M := by
    intro h M
    have hpl := hp.pl
    rw [h, isRangeS_eq, decide_eq_true k1, decide_eq_true k3, decide_eq_true hl.1, decide_eq_true hl.2, decide_eq_false (show ¬ (m : Int) < 0 by omega), hgb, decide_eq_false (show ¬ (bars.length : Int) ≤ (m : Int) by omega)]
    simp only [Option.bind_some, Bool.and_self, Bool.not_true, cond_false]
    by_cases h0 : 0 < p.Placed.length
    · have hi : p.Placed[p.Placed.length - 1]? = some (p.Placed[p.Placed.length - 1]'(by omega)) := List.getElem?_eq_getElem (by omega)
      have hlt := hp.pr hi
      have e : w64 ((p.Placed.length : Int) - 1) = ((p.Placed.length - 1 : Nat) : Int) := by rw [w64_small (by omega) (by omega)]; omega
      rw [decide_eq_true (show 0 < (p.Placed.length : Int) by omega), e, idx_of hi]
      simp only [Option.bind_some, cond_true]
      rw [decide_eq_false (by omega)]
      rfl
    · rw [decide_eq_false (show ¬ 0 < (p.Placed.length : Int) by omega)]
      rfl
  rcases gather_both hg hp (by omega) hgp hgb (hg.a0 hx) (hg.ap hx) (hg.b0 hx) (hg.bp hx) (hg.ab hx) (want := l + 1) (by omega) with ⟨p', s1, i1, hp', hpl, htwo⟩ | ⟨p'', s1, i1, _⟩
  · obtain ⟨fa, hfa, hia, fa0, fak⟩ := hp'.free_in (hg.a0 hx) (hg.ap hx)
    obtain ⟨fb, hfb, hib, fb0, fbk⟩ := hp'.free_in (hg.b0 hx) (hg.bp hx)
    unfold two at htwo
    rw [hfa, hfb] at htwo
    simp only [Option.getD_some] at htwo
    have hpll := hp'.pl
    have htl := hp'.tl
    -- the tail and its pebbles
    obtain ⟨t, f, hte, htf, hti, hpos, hfk, htail⟩ : ∃ t f, (t = x.A ∨ t = x.B) ∧ p'.Free[t.toNat]? = some f ∧ idx p'.Free t = some f ∧ 0 < f ∧ f ≤ k ∧ (bif fa == 0 then some x.B else some x.A : Option Int) = some t := by
      by_cases h0 : fa = 0
      · exact ⟨x.B, fb, .inr rfl, hfb, hib, by omega, fbk, by simp [h0]⟩
      · have : (fa == 0) = false := by simp [h0]
        exact ⟨x.A, fa, .inl rfl, hfa, hia, by omega, fak, by simp [this]⟩
    have hI : m_impl_place bars l p (m : Int) = some (true, ⟨p'.Free.set t.toNat (f - 1), p'.Tails ++ [t], p'.Placed ++ [(m : Int)]⟩) := by
      unfold m_impl_place
      simp only [hxi, hw, i1, hia, htail, hti, Option.bind_some, Bool.not_true, cond_false, lim_ok (show p'.Tails.length + ([t] : List Int).length ≤ 2147483648 by simp; omega), lim_ok (show p'.Placed.length + ([(m : Int)] : List Int).length ≤ 2147483648 by simp; omega), w64_small (n := f - 1) (show -4611686018427387904 ≤ f - 1 by omega) (by omega)]
    have hpI : placeI bars l p m = ⟨p'.Free.set t.toNat (f - 1), p'.Tails ++ [t], p'.Placed ++ [(m : Int)]⟩ := by
      unfold placeI
      rw [hI]
    refine ⟨by rw [hpI]; exact hp'.place hg hml hx hte htf hpos, ⟨true, _, hI, hpI⟩, fun h => .inl ?_⟩
    rw [hpI]
    unfold m_spec_PlaceBar
    rw [hpre h]
    simp only [hgb, hxi, hw, s1, hia, htail, hti, Option.bind_some, Bool.not_true, cond_false, lim_ok (show p'.Tails.length + ([t] : List Int).length ≤ 2147483648 by simp; omega), lim_ok (show p'.Placed.length + ([(m : Int)] : List Int).length ≤ 2147483648 by simp; omega), w64_small (n := f - 1) (show -4611686018427387904 ≤ f - 1 by omega) (by omega)]
  · have hI : m_impl_place bars l p (m : Int) = some (false, p'') := by
      unfold m_impl_place
      simp only [hxi, hw, i1, Option.bind_some, Bool.not_false, cond_true]
    have hpI : placeI bars l p m = p := by
      unfold placeI
      rw [hI]
    refine ⟨by rw [hpI]; exact hp.weak, ⟨false, _, hI, hpI⟩, fun h => .inr ?_⟩
    rw [hpI]
    unfold m_spec_PlaceBar
    rw [hpre h]
    simp only [hgb, hxi, hw, s1, Option.bind_some, Bool.not_false, cond_true, l4Copy_eq hg hp (by omega)]
def played (P : Int) (bars : List TBar) (k l : Int) (n : Nat) : TPebbles := iter (fun m p => placeI bars l p m) n ⟨List.replicate P.toNat k, [], []⟩
theorem played_PB {P : Int} {bars : List TBar} {k l : Int} (hg : GB P bars) (k1 : 1 ≤ k) (k3 : k ≤ 3) (hl : 0 ≤ l ∧ l ≤ 2 * k - 1) : ∀ n, n ≤ bars.length → PB P bars k n (played P bars k l n)
  | 0, _ => by
    have := hg.p1
    refine ⟨k1, k3, by show ((List.replicate P.toNat k).length : Int) = P; simp; omega, rfl, Nat.le_refl _, (fun h => by cases h), (fun h => by cases h), (fun h => by cases h), fun {v f} hv => ?_⟩
    change (List.replicate P.toNat k)[v]? = some f at hv
    rw [List.getElem?_replicate] at hv
    split at hv
    · injection hv with hv
      subst hv
      show 0 ≤ k ∧ k + ((([] : List Int).count (v : Int) : Nat) : Int) = k
      simp
      omega
    · cases hv
  | n + 1, h => (place_both hg (played_PB hg k1 k3 hl n (by omega)) (by omega) hl (g := ⟨P, bars⟩) rfl rfl).1
theorem play_eq {P : Int} {bars : List TBar} {k l : Int} (hg : GB P bars) (k1 : 1 ≤ k) (k3 : k ≤ 3) (hl : 0 ≤ l ∧ l ≤ 2 * k - 1) : m_impl_play P bars k l = some (played P bars k l bars.length) := by
  have h1 := hg.p1
  have h8 := hg.p8
  have hlen := hg.len
  have e1 : loopM (m_impl_play_L1 P k) BIG (0, []) = some (List.replicate P.toNat k) := by
    refine loopM_run (fun n => ((n : Int), List.replicate n k)) P.toNat (by omega) rfl (fun n hn => ?_) ?_
    · unfold m_impl_play_L1
      simp only [w64_succ (show n ≤ 1099511627776 by omega)]
      rw [decide_eq_true (by omega), cond_true, lim_ok (by simp; omega), Option.bind_some, ← List.replicate_succ']
    · unfold m_impl_play_L1
      simp only
      rw [decide_eq_false (by omega)]
      rfl
  have e2 := fold_loop (b := m_impl_play_L2 bars l) (s := (0, List.replicate P.toNat k, [], [])) (fun n (p : TPebbles) => ((n : Int), p.Free, p.Tails, p.Placed)) (fun m p => placeI bars l p m) (fun n p => n ≤ bars.length ∧ PB P bars k n p) (fun p => (p.Free, p.Tails, p.Placed)) bars.length ⟨List.replicate P.toNat k, [], []⟩ (by omega) rfl ⟨Nat.zero_le _, played_PB hg k1 k3 hl 0 (Nat.zero_le _)⟩ (fun n p hn hp => by
    obtain ⟨hpb, ⟨ok, q, hI, hpI⟩, _⟩ := place_both hg hp.2 hn hl (g := ⟨P, bars⟩) rfl rfl
    refine ⟨?_, by omega, hpb⟩
    unfold m_impl_play_L2
    simp only [copyPebbles_eq hg hp.2 (by omega), hI, Option.bind_some, w64_succ (show n ≤ 1099511627776 by omega)]
    rw [decide_eq_true (by omega), cond_true, hpI]
    cases ok <;> rfl) (fun p hp => by simp [m_impl_play_L2])
  unfold m_impl_play
  rw [e1, Option.bind_some, e2.1]
  rfl
theorem l4Tail_eq {P : Int} {bars : List TBar} {k : Int} {m : Nat} {p : TPebbles} (hg : GB P bars) (hp : PB P bars k m p) (hm : m ≤ 1000) (v : Int) : m_spec_l4Tail p v = some (p.Tails.count v : Int) := by
  have htl := hp.tl
  have hpl := hp.pl
  have := fold_loop (b := m_spec_l4Tail_L1 p v) (s := (0, 0)) (fun n (c : Int) => (c, (n : Int))) (fun n c => match p.Tails[n]? with | some t => bif t == v then c + 1 else c | none => c) (fun n c => c = ((p.Tails.take n).count v : Int)) id p.Tails.length 0 (by omega) rfl (by simp) (fun n c hn hc => by
    have ht := List.getElem?_eq_getElem hn
    have htk : p.Tails.take (n + 1) = p.Tails.take n ++ [p.Tails[n]] := by rw [List.take_add_one, ht]; rfl
    have hcl := List.count_le_length (a := v) (l := p.Tails.take n)
    have hlt : (p.Tails.take n).length = n := by simp; omega
    rw [ht]
    constructor
    · unfold m_spec_l4Tail_L1
      simp only [idx_of ht, Option.bind_some, w64_succ (show n ≤ 1099511627776 by omega)]
      rw [decide_eq_true (by omega), cond_true, w64_small (n := c + 1) (by omega) (by omega)]
      cases p.Tails[n] == v <;> rfl
    · show (bif p.Tails[n] == v then c + 1 else c) = _
      rw [htk, List.count_append, List.count_singleton]
      cases p.Tails[n] == v
      · simp [hc]
      · simp [hc]) (fun c hc => by simp [m_spec_l4Tail_L1])
  unfold m_spec_l4Tail
  rw [this.1, Option.bind_some]
  have h2 := this.2
  rw [List.take_length] at h2
  rw [← h2]
  rfl
theorem isPebbles_eq {g : TGraph} {k : Int} {m : Nat} {p : TPebbles} (hv : vG g = true) (hp : PB g.Points g.Bars k m p) (hm : m ≤ 1000) : m_spec_IsPebbles g k p = some true := by
  have hV := vG_VG hv
  have hg := hV.gb
  have k1 := hp.k1
  have k3 := hp.k3
  have hfl := hp.fl
  have htl := hp.tl
  have hpl := hp.pl
  have h1 := hV.p1
  have h8 := hV.p8
  have e1 : loopM (m_spec_IsPebbles_L1 g p) BIG 0 = some (.inl ()) := by
    refine count_loop p.Placed.length (by omega) (fun i hi => ?_) (by simp [m_spec_IsPebbles_L1])
    obtain ⟨e, hpe, hbe, _⟩ := hp.bar hg hi
    obtain ⟨e0, e1, _⟩ := hp.pr hpe
    have hT : p.Tails[i]? = some (p.Tails[i]'(by omega)) := List.getElem?_eq_getElem (by omega)
    have hends := hp.ends hT
    generalize p.Tails[i]'(by omega) = t at hT hends
    unfold m_spec_IsPebbles_L1
    simp only [idx_of hpe, idx_of hT, hbe, Option.bind_some]
    rw [decide_eq_true (show (i : Int) < (p.Placed.length : Int) by omega), decide_eq_false (show ¬ e < 0 by omega), decide_eq_false (show ¬ (g.Bars.length : Int) ≤ e by omega)]
    have hne : ((bif t != (pbar g.Bars p i).A then some (t != (pbar g.Bars p i).B) else some false) : Option Bool) = some false := by
      rcases hends with h | h
      · rw [h]; simp
      · by_cases h2 : t = (pbar g.Bars p i).A
        · rw [h2]; simp
        · have : (t != (pbar g.Bars p i).A) = true := by simp [h2]
          rw [this, ← h]
          simp
    by_cases h0 : 0 < i
    · have hpe' : p.Placed[i - 1]? = some (p.Placed[i - 1]'(by omega)) := List.getElem?_eq_getElem (by omega)
      have hinc := hp.inc hpe' (by rw [Nat.sub_add_cancel h0]; exact hpe)
      have ew : w64 ((i : Int) - 1) = ((i - 1 : Nat) : Int) := by rw [w64_small (by omega) (by omega)]; omega
      rw [decide_eq_true (show (0 : Int) < (i : Int) by omega), ew, idx_of hpe']
      simp only [Option.bind_some, cond_true, cond_false]
      rw [decide_eq_false (show ¬ e ≤ p.Placed[i - 1]'(by omega) by omega), cond_false, hne]
      rfl
    · rw [decide_eq_false (show ¬ (0 : Int) < (i : Int) by omega)]
      simp only [Option.bind_some, cond_true, cond_false]
      rw [hne]
      rfl
  have e2 : loopM (m_spec_IsPebbles_L2 g k p) BIG 0 = some (.inl ()) := by
    refine count_loop g.Points.toNat (by omega) (fun i hi => ?_) (by
      unfold m_spec_IsPebbles_L2
      rw [decide_eq_false (by omega)]
      rfl)
    obtain ⟨f, hf, hif, f0, fk⟩ := hp.free_in (v := (i : Int)) (by omega) (by omega)
    rw [Int.toNat_natCast] at hf
    have hfr := hp.fr hf
    unfold m_spec_IsPebbles_L2
    simp only [hif, l4Tail_eq hg hp hm, Option.bind_some]
    rw [decide_eq_true (show (i : Int) < g.Points by omega), decide_eq_false (show ¬ f < 0 by omega), w64_small (by omega) (by omega), hfr.2]
    simp
  unfold m_spec_IsPebbles
  rw [isGraphS_eq g hV.sm, hv, l1In_eq, decide_eq_true k1, decide_eq_true k3, e1, e2]
  have q1 : ((p.Free.length : Int) != g.Points) = false := by simp [hfl]
  have q2 : ((p.Tails.length : Int) != (p.Placed.length : Int)) = false := by simp [htl]
  rw [q1, q2]
  rfl
def runP (g : TGraph) (k l : Int) : TPebbles × Bool := bif vG g && ((decide (1 ≤ k) && decide (k ≤ 3)) && (decide (0 ≤ l) && decide (l ≤ 2 * k - 1))) then (played g.Points g.Bars k l g.Bars.length, true) else (⟨[], [], []⟩, false)
theorem runI_eq (g : TGraph) (h : SM g.Bars.length) (k l : Int) : m_impl_RunPebbles g k l = some (runP g k l) := by
  unfold m_impl_RunPebbles runP
  rw [isGraphI_eq g h, isRangeI_eq]
  cases hv : vG g
  · rfl
  · cases hr : (decide (1 ≤ k) && decide (k ≤ 3)) && (decide (0 ≤ l) && decide (l ≤ 2 * k - 1))
    · rfl
    · simp only [Bool.and_eq_true, decide_eq_true_eq] at hr
      simp only [Option.bind_some, Bool.not_true, cond_false, Bool.and_self, cond_true, play_eq (vG_VG hv).gb hr.1.1 hr.1.2 hr.2]
theorem newS_eq (g : TGraph) (h : SM g.Bars.length) (k : Int) : m_spec_NewPebbles g k = some (bif vG g && (decide (1 ≤ k) && decide (k ≤ 3)) then (⟨List.replicate g.Points.toNat k, [], []⟩, true) else (⟨[], [], []⟩, false)) := by
  unfold m_spec_NewPebbles
  rw [isGraphS_eq g h, l1In_eq]
  cases hv : vG g
  · rfl
  · cases hr : decide (1 ≤ k) && decide (k ≤ 3)
    · rfl
    · have h1 := (vG_VG hv).p1
      have h8 := (vG_VG hv).p8
      have e1 : loopM (m_spec_NewPebbles_L1 g k) BIG (0, []) = some (List.replicate g.Points.toNat k) := by
        refine loopM_run (fun n => ((n : Int), List.replicate n k)) g.Points.toNat (by omega) rfl (fun n hn => ?_) ?_
        · unfold m_spec_NewPebbles_L1
          simp only [w64_succ (show n ≤ 1099511627776 by omega)]
          rw [decide_eq_true (by omega), cond_true, lim_ok (by simp; omega), Option.bind_some, ← List.replicate_succ']
        · unfold m_spec_NewPebbles_L1
          simp only
          rw [decide_eq_false (by omega)]
          rfl
      rw [e1]
      rfl
theorem runS_eq (g : TGraph) (h : SM g.Bars.length) (k l : Int) : m_spec_RunPebbles g k l = some (runP g k l) := by
  unfold m_spec_RunPebbles runP
  rw [newS_eq g h, isRangeS_eq]
  cases hv : vG g
  · rfl
  · have hV := vG_VG hv
    have hg := hV.gb
    have hlen := hg.len
    cases hk : decide (1 ≤ k) && decide (k ≤ 3)
    · rfl
    · cases hl : decide (0 ≤ l) && decide (l ≤ 2 * k - 1)
      · rfl
      · simp only [Bool.and_eq_true, decide_eq_true_eq] at hk hl
        have e2 := fold_loop (b := m_spec_RunPebbles_L1 g k l) (s := (0, List.replicate g.Points.toNat k, [], [])) (fun n (p : TPebbles) => ((n : Int), p.Free, p.Tails, p.Placed)) (fun m p => placeI g.Bars l p m) (fun n p => n ≤ g.Bars.length ∧ PB g.Points g.Bars k n p) (fun p => (p.Free, p.Tails, p.Placed)) g.Bars.length ⟨List.replicate g.Points.toNat k, [], []⟩ (by omega) rfl ⟨Nat.zero_le _, played_PB hg hk.1 hk.2 hl 0 (Nat.zero_le _)⟩ (fun n p hn hp => by
          obtain ⟨hpb, _, hS⟩ := place_both hg hp.2 hn hl (g := g) rfl rfl
          refine ⟨?_, by omega, hpb⟩
          have hS := hS (isPebbles_eq hv hp.2 (by omega))
          unfold m_spec_RunPebbles_L1
          rw [decide_eq_true (show ((n : Int), p.Free, p.Tails, p.Placed).1 < (g.Bars.length : Int) by simp only; omega), cond_true]
          simp only [w64_succ (show n ≤ 1099511627776 by omega)]
          rcases hS with hS | hS
          · rw [show TPebbles.mk p.Free p.Tails p.Placed = p from rfl, hS]
            rfl
          · rw [show TPebbles.mk p.Free p.Tails p.Placed = p from rfl, hS]
            rfl) (fun p hp => by simp [m_spec_RunPebbles_L1])
        simp only [Option.bind_some, Bool.and_self, Bool.not_true, cond_false, cond_true, e2.1]
        rfl
def rk (g : TGraph) (k l : Int) : Int := bif (runP g k l).2 then ((runP g k l).1.Placed.length : Int) else -1
theorem rankI_eq (g : TGraph) (h : SM g.Bars.length) (k l : Int) : m_impl_RankOf g k l = some (rk g k l) := by
  unfold m_impl_RankOf rk
  rw [runI_eq g h]
  simp only [Option.bind_some]
  cases (runP g k l).2 <;> rfl
theorem rankS_eq (g : TGraph) (h : SM g.Bars.length) (k l : Int) : m_spec_RankOf g k l = some (rk g k l) := by
  unfold m_spec_RankOf rk
  rw [runS_eq g h]
  simp only [Option.bind_some]
  cases (runP g k l).2 <;> rfl
def only (g : TGraph) (keep : List Int) : TGraph := ⟨g.Points, pieces (fun k => match g.Bars[k]? with | some x => bif hasI keep k then [x] else [] | none => []) g.Bars.length⟩
end Go.Proofs.Ytghofbijdnenoaa
end
section
set_option linter.unusedVariables false
set_option linter.unusedSimpArgs false
set_option linter.unnecessarySimpa false
open Go Go.Fw Go.Mx
namespace Go.Proofs.Ytghofbijdnenoaa
def here (f : TFramework) (i : Nat) : Bool := eqI [(plAt f (i : Int)).X, (plAt f (i : Int)).Y] [(plAt f 0).X, (plAt f 0).Y]
def apart (f : TFramework) : Bool := (List.range' 0 f.Places.length).any fun i => !here f i
def genH (f : TFramework) : Bool := vF f && (frank f == rk f.Graph 2 3)
theorem genI_eq (f : TFramework) (h0 : SM f.Graph.Bars.length) (h1 : SM f.Places.length) : m_impl_IsGenericHere f = some (genH f) := by
  unfold m_impl_IsGenericHere genH
  rw [isFI_eq f h0 h1, frankI_eq f h0 h1, rankI_eq _ h0]
  cases vF f <;> rfl
theorem genS_eq (f : TFramework) (h0 : SM f.Graph.Bars.length) (h1 : SM f.Places.length) : m_spec_IsGenericHere f = some (genH f) := by
  unfold m_spec_IsGenericHere genH
  rw [isFS_eq f h0 h1, frankS_eq f h0 h1, rankS_eq _ h0]
  cases vF f <;> rfl
theorem placesFor_sm (g : TGraph) (s : Int) (h : SM g.Bars.length) : SM (placesFor g s).1.Graph.Bars.length ∧ SM (placesFor g s).1.Places.length := by
  unfold placesFor
  cases hv : vG g && (decide (0 ≤ s) && decide (s ≤ 65535)) && vF ⟨g, seeded g s⟩ with
  | false => exact ⟨Nat.zero_le _, Nat.zero_le _⟩
  | true =>
    simp only [Bool.and_eq_true] at hv
    have hV := vG_VG hv.1.1
    have h8 := hV.p8
    have hl := seeded_len s g.Points.toNat
    refine ⟨h, ?_⟩
    show (seeded g s).length ≤ _
    unfold seeded
    rw [hl]
    omega
theorem nseed_rng {s : Int} : 0 ≤ nseed s ∧ nseed s ≤ 65535 := by
  unfold nseed
  cases h : decide (0 ≤ s) && decide (s ≤ 65535) with
  | false => exact ⟨by simp, by simp⟩
  | true =>
    simp only [Bool.and_eq_true, decide_eq_true_eq] at h
    simp only [cond_true]
    rw [Int.tmod_eq_emod_of_nonneg (by omega)]
    omega
theorem both_GenericPlaces (g : TGraph) (s : Int) (h0 : g.Bars.length ≤ 1048576) : ∃ w, m_spec_GenericPlaces g s = some w ∧ m_impl_GenericPlaces g s = some w ∧ SM w.1.Graph.Bars.length ∧ SM w.1.Places.length := by
  have hs : SM g.Bars.length := by show _ ≤ _; omega
  by_cases hr : 0 ≤ s ∧ s ≤ 65535
  · have key := loop_inv2 (b := m_spec_GenericPlaces_L1 g) (b' := m_impl_GenericPlaces_L1 g) (s := (s, 1)) (s' := (s, 1)) (fun k a b => a = b ∧ 0 ≤ a.1 ∧ a.1 ≤ 65535 ∧ a.2 = (k : Int) + 1)
      (fun a b => a = b ∧ ∀ r, a = .inr r → SM r.1.Graph.Bars.length ∧ SM r.1.Places.length) 20 (by omega) ⟨rfl, hr.1, hr.2, rfl⟩ (fun k a b hk hI => by
        obtain ⟨rfl, r1, r2, r3⟩ := hI
        obtain ⟨q1, q2⟩ := placesFor_sm g a.1 hs
        unfold m_spec_GenericPlaces_L1 m_impl_GenericPlaces_L1
        simp only [placesForI_eq g a.1 hs, placesForS_eq g a.1 hs, genI_eq _ q1 q2, genS_eq _ q1 q2, nextSeed_same, nextSeed_eq, l1In_eq, Option.bind_some]
        rw [decide_eq_true (show a.2 ≤ 20 by omega), cond_true, decide_eq_true r1, decide_eq_true r2, cond_true]
        simp only [Bool.and_self, Option.bind_some, cond_true]
        cases hb : (bif (placesFor g a.1).2 then some (genH (placesFor g a.1).1) else some false : Option Bool) with
        | none => cases hc : (placesFor g a.1).2 <;> rw [hc] at hb <;> cases hb
        | some c =>
          cases c with
          | true => exact .inr ⟨_, _, rfl, rfl, rfl, fun r hr => by injection hr with hr; subst hr; exact ⟨q1, q2⟩⟩
          | false =>
            left
            refine ⟨_, _, rfl, rfl, rfl, (nseed_rng (s := a.1)).1, (nseed_rng (s := a.1)).2, ?_⟩
            show w64 (a.2 + 1) = _
            rw [w64_small (by omega) (by omega)]
            omega) (fun a b hI => by
        obtain ⟨rfl, r1, r2, r3⟩ := hI
        refine ⟨.inl (), .inl (), ?_, ?_, rfl, fun r hr => by cases hr⟩
        · unfold m_spec_GenericPlaces_L1
          rw [decide_eq_false (show ¬ a.2 ≤ 20 by omega)]
          rfl
        · unfold m_impl_GenericPlaces_L1
          rw [decide_eq_false (show ¬ a.2 ≤ 20 by omega)]
          rfl)
    obtain ⟨r, r', e1, e2, rfl, e3⟩ := key
    unfold m_spec_GenericPlaces m_impl_GenericPlaces
    rw [within_eq, decide_eq_true hr.1, decide_eq_true hr.2]
    simp only [Option.bind_some, Bool.and_self, Bool.not_true, cond_false, e1, e2]
    cases r with
    | inl u => exact ⟨_, rfl, rfl, Nat.zero_le _, Nat.zero_le _⟩
    | inr r => exact ⟨_, rfl, rfl, (e3 r rfl).1, (e3 r rfl).2⟩
  · have hf : (decide (0 ≤ s) && decide (s ≤ 65535)) = false := by
      cases hx : decide (0 ≤ s) && decide (s ≤ 65535) with
      | false => rfl
      | true =>
        simp only [Bool.and_eq_true, decide_eq_true_eq] at hx
        exact absurd hx hr
    refine ⟨(⟨⟨0, []⟩, []⟩, 0, false), ?_, ?_, Nat.zero_le _, Nat.zero_le _⟩
    · unfold m_spec_GenericPlaces
      have : loopM (m_spec_GenericPlaces_L1 g) BIG (s, 1) = some (.inl ()) := by
        refine loopM_run (fun _ => (s, 1)) 0 (by omega) rfl (fun k hk => by omega) ?_
        unfold m_spec_GenericPlaces_L1
        simp only [l1In_eq, hf, Option.bind_some]
        rfl
      rw [this]
      rfl
    · unfold m_impl_GenericPlaces
      rw [within_eq, hf]
      rfl
end Go.Proofs.Ytghofbijdnenoaa
end
section
set_option linter.unusedVariables false
set_option linter.unusedSimpArgs false
set_option linter.unnecessarySimpa false
open Go Go.Fw
namespace Go.Proofs.Ytghofbijdnenoaa
def dX (f : TFramework) (k : Int) : Int := (plAt f k).X - (plAt f 0).X
def dY (f : TFramework) (k : Int) : Int := (plAt f k).Y - (plAt f 0).Y
def uX (v : List Int) (k : Int) : Int := gv v (2 * k) - gv v 0
def uY (v : List Int) (k : Int) : Int := gv v (2 * k + 1) - gv v 1
theorem d0 (f : TFramework) (v : List Int) : dX f 0 = 0 ∧ dY f 0 = 0 ∧ uX v 0 = 0 ∧ uY v 0 = 0 := by
  unfold dX dY uX uY
  refine ⟨by omega, by omega, ?_, ?_⟩
  · show gv v (2 * 0) - gv v 0 = 0
    simp
  · show gv v (2 * 0 + 1) - gv v 1 = 0
    simp
structure Dif (f : TFramework) (v : List Int) (k : Int) : Prop where
  x : -4 ≤ dX f k ∧ dX f k ≤ 4
  y : -4 ≤ dY f k ∧ dY f k ≤ 4
  s : -20000000000 ≤ uX v k ∧ uX v k ≤ 20000000000
  t : -20000000000 ≤ uY v k ∧ uY v k ≤ 20000000000
theorem VV.dif {f : TFramework} {v : List Int} (h : VV f v) {k : Int} (k0 : 0 ≤ k) (k1 : k < f.Graph.Points) : Dif f v k := by
  have g0 := h.fr.pl_grid (v := 0) (by omega) (by omega)
  have gk := h.fr.pl_grid k0 k1
  have v0 := h.lt (i := 0) (by omega) (by omega)
  have v1 := h.lt (i := 1) (by omega) (by omega)
  have v2 := h.lt (i := 2 * k) (by omega) (by omega)
  have v3 := h.lt (i := 2 * k + 1) (by omega) (by omega)
  refine ⟨?_, ?_, ?_, ?_⟩
  · unfold dX; omega
  · unfold dY; omega
  · unfold uX; omega
  · unfold uY; omega
end Go.Proofs.Ytghofbijdnenoaa
end
section
set_option linter.unusedVariables false
set_option linter.unusedSimpArgs false
set_option linter.unnecessarySimpa false
open Go Go.Fw
namespace Go.Proofs.Ytghofbijdnenoaa
theorem law_FnExactGenericPlaces (aG : TGraph) (aSeed : Int) {p0 p1 : Prop} (_ : p0) (_ : p1) (l0 : aG.Bars.length ≤ 1048576) : m_laws_FnExactGenericPlaces aG aSeed = some true := by
  obtain ⟨w, hs, hi, hw0, hw1⟩ := both_GenericPlaces aG aSeed l0
  have s0 : SM aG.Bars.length := by omega
  unfold m_laws_FnExactGenericPlaces
  obtain ⟨z0, e0⟩ := szGraph_some aG 1048576
  rw [e0, Option.bind_some]
  cases decide (z0 < 0)
  rotate_left
  · rfl
  simp only [cond_false]
  simp only [hs, hi, toGraph_eq aG s0, eqGraph_refl aG s0, markGraph_eq aG s0 1 (by omega) (by omega), eqFramework_refl w.1 hw0 hw1, markFramework_eq w.1 hw0 hw1 1 (by omega) (by omega), heldFramework_eq w.1.Graph.Points w.1.Graph.Bars.length w.1.Places.length hw0 hw1 1 (by omega) (by omega), decide_eq_false (show ¬ (1 + 2 * (aG.Bars.length : Int)) < 0 by omega), decide_eq_false (show ¬ ((1 + 2 * (w.1.Graph.Bars.length : Int)) + 2 * (w.1.Places.length : Int)) < 0 by omega), mkBarS_len, mkPlaceS_len, same_ok, Option.bind_some, bne_self_eq_false, beq_self_eq_true, Bool.not_true, Bool.not_false, cond_true, cond_false]
end Go.Proofs.Ytghofbijdnenoaa
end
section
set_option linter.unusedVariables false
set_option linter.unusedSimpArgs false
set_option linter.unnecessarySimpa false
set_option maxRecDepth 100000
set_option maxHeartbeats 8000000
open Go Go.Fw
namespace Go.Proofs.Ytghofbijdnenoaa
theorem ag162 : agB Try.prog 162 = some true := by kernel_rfl
theorem ag165 : agB Try.prog 165 = some true := by kernel_rfl
theorem ag24 : agB Try.prog 24 = some false := by kernel_rfl
theorem ag26 : agB Try.prog 26 = some true := by kernel_rfl
theorem ag27 : agB Try.prog 27 = some false := by kernel_rfl
theorem ag29 : agB Try.prog 29 = some true := by kernel_rfl
theorem ag3 : agB Try.prog 3 = some false := by kernel_rfl
theorem ag37 : agB Try.prog 37 = some false := by kernel_rfl
theorem ag4 : agB Try.prog 4 = some false := by kernel_rfl
theorem ag48 : agB Try.prog 48 = some false := by kernel_rfl
theorem ag50 : agB Try.prog 50 = some true := by kernel_rfl
theorem ag62 : agB Try.prog 62 = some true := by kernel_rfl
theorem ag94 : agB Try.prog 94 = some true := by kernel_rfl
theorem cb109 : callB Try.prog 109 = true := by kernel_rfl
theorem cb110 : callB Try.prog 110 = true := by kernel_rfl
theorem cb114 : callB Try.prog 114 = true := by kernel_rfl
theorem cb120 : callB Try.prog 120 = true := by kernel_rfl
theorem cb123 : callB Try.prog 123 = true := by kernel_rfl
theorem cb124 : callB Try.prog 124 = true := by kernel_rfl
theorem cb125 : callB Try.prog 125 = true := by kernel_rfl
theorem cb126 : callB Try.prog 126 = true := by kernel_rfl
theorem cb127 : callB Try.prog 127 = true := by kernel_rfl
theorem cb128 : callB Try.prog 128 = true := by kernel_rfl
theorem cb129 : callB Try.prog 129 = true := by kernel_rfl
theorem cb130 : callB Try.prog 130 = true := by kernel_rfl
theorem cb131 : callB Try.prog 131 = true := by kernel_rfl
theorem cb132 : callB Try.prog 132 = true := by kernel_rfl
theorem cb133 : callB Try.prog 133 = true := by kernel_rfl
theorem cb134 : callB Try.prog 134 = true := by kernel_rfl
theorem cb135 : callB Try.prog 135 = true := by kernel_rfl
theorem cb136 : callB Try.prog 136 = true := by kernel_rfl
theorem cb138 : callB Try.prog 138 = true := by kernel_rfl
theorem cb139 : callB Try.prog 139 = true := by kernel_rfl
theorem cb141 : callB Try.prog 141 = true := by kernel_rfl
theorem cb143 : callB Try.prog 143 = true := by kernel_rfl
theorem cb144 : callB Try.prog 144 = true := by kernel_rfl
theorem cb15 : callB Try.prog 15 = true := by kernel_rfl
theorem cb173 : callB Try.prog 173 = true := by kernel_rfl
theorem cb174 : callB Try.prog 174 = true := by kernel_rfl
theorem cb202 : callB Try.prog 202 = true := by kernel_rfl
theorem cb205 : callB Try.prog 205 = true := by kernel_rfl
theorem cb206 : callB Try.prog 206 = true := by kernel_rfl
theorem cb207 : callB Try.prog 207 = true := by kernel_rfl
theorem cb210 : callB Try.prog 210 = true := by kernel_rfl
theorem cb211 : callB Try.prog 211 = true := by kernel_rfl
theorem cb212 : callB Try.prog 212 = true := by kernel_rfl
theorem cb213 : callB Try.prog 213 = true := by kernel_rfl
theorem cb214 : callB Try.prog 214 = true := by kernel_rfl
theorem cb215 : callB Try.prog 215 = true := by kernel_rfl
theorem cb216 : callB Try.prog 216 = true := by kernel_rfl
theorem cb217 : callB Try.prog 217 = true := by kernel_rfl
theorem cb218 : callB Try.prog 218 = true := by kernel_rfl
theorem cb227 : callB Try.prog 227 = true := by kernel_rfl
theorem cb234 : callB Try.prog 234 = true := by kernel_rfl
theorem cb237 : callB Try.prog 237 = true := by kernel_rfl
theorem cb238 : callB Try.prog 238 = true := by kernel_rfl
theorem cb239 : callB Try.prog 239 = true := by kernel_rfl
theorem cb240 : callB Try.prog 240 = true := by kernel_rfl
theorem cb241 : callB Try.prog 241 = true := by kernel_rfl
theorem cb248 : callB Try.prog 248 = true := by kernel_rfl
theorem cb250 : callB Try.prog 250 = true := by kernel_rfl
theorem cb251 : callB Try.prog 251 = true := by kernel_rfl
theorem cb252 : callB Try.prog 252 = true := by kernel_rfl
theorem cb253 : callB Try.prog 253 = true := by kernel_rfl
theorem cb254 : callB Try.prog 254 = true := by kernel_rfl
theorem cb255 : callB Try.prog 255 = true := by kernel_rfl
theorem cb256 : callB Try.prog 256 = true := by kernel_rfl
theorem cb257 : callB Try.prog 257 = true := by kernel_rfl
theorem cb258 : callB Try.prog 258 = true := by kernel_rfl
theorem cb259 : callB Try.prog 259 = true := by kernel_rfl
theorem cb33 : callB Try.prog 33 = true := by kernel_rfl
theorem cb34 : callB Try.prog 34 = true := by kernel_rfl
theorem cb35 : callB Try.prog 35 = true := by kernel_rfl
theorem cb36 : callB Try.prog 36 = true := by kernel_rfl
theorem cb37 : callB Try.prog 37 = true := by kernel_rfl
theorem cb38 : callB Try.prog 38 = true := by kernel_rfl
theorem cb39 : callB Try.prog 39 = true := by kernel_rfl
theorem cb40 : callB Try.prog 40 = true := by kernel_rfl
theorem cb41 : callB Try.prog 41 = true := by kernel_rfl
theorem cb44 : callB Try.prog 44 = true := by kernel_rfl
theorem cb46 : callB Try.prog 46 = true := by kernel_rfl
theorem cb50 : callB Try.prog 50 = true := by kernel_rfl
theorem cb51 : callB Try.prog 51 = true := by kernel_rfl
theorem cb57 : callB Try.prog 57 = true := by kernel_rfl
theorem cb58 : callB Try.prog 58 = true := by kernel_rfl
theorem cb80 : callB Try.prog 80 = true := by kernel_rfl
theorem el193 : elB Try.prog 193 = some 4 := by kernel_rfl
theorem el24 : elB Try.prog 24 = some 62 := by kernel_rfl
theorem el27 : elB Try.prog 27 = some 94 := by kernel_rfl
theorem el31 : elB Try.prog 31 = some 37 := by kernel_rfl
theorem el37 : elB Try.prog 37 = some 3 := by kernel_rfl
theorem el48 : elB Try.prog 48 = some 162 := by kernel_rfl
theorem fo162_0 : foB Try.prog 162 0 = some 0 := by kernel_rfl
theorem fo162_1 : foB Try.prog 162 1 = some 1 := by kernel_rfl
theorem fo165_0 : foB Try.prog 165 0 = some 0 := by kernel_rfl
theorem fo165_1 : foB Try.prog 165 1 = some 1 := by kernel_rfl
theorem fo165_2 : foB Try.prog 165 2 = some 2 := by kernel_rfl
theorem fo26_0 : foB Try.prog 26 0 = some 0 := by kernel_rfl
theorem fo26_1 : foB Try.prog 26 1 = some 1 := by kernel_rfl
theorem fo29_0 : foB Try.prog 29 0 = some 0 := by kernel_rfl
theorem fo29_1 : foB Try.prog 29 1 = some 2 := by kernel_rfl
theorem fo50_0 : foB Try.prog 50 0 = some 0 := by kernel_rfl
theorem fo50_1 : foB Try.prog 50 1 = some 1 := by kernel_rfl
theorem fo62_0 : foB Try.prog 62 0 = some 0 := by kernel_rfl
theorem fo62_1 : foB Try.prog 62 1 = some 1 := by kernel_rfl
theorem fo94_0 : foB Try.prog 94 0 = some 0 := by kernel_rfl
theorem fo94_1 : foB Try.prog 94 1 = some 1 := by kernel_rfl
theorem inf162 : (Try.prog.info? 162).isSome = true := by kernel_rfl
theorem inf165 : (Try.prog.info? 165).isSome = true := by kernel_rfl
theorem inf24 : (Try.prog.info? 24).isSome = true := by kernel_rfl
theorem inf26 : (Try.prog.info? 26).isSome = true := by kernel_rfl
theorem inf27 : (Try.prog.info? 27).isSome = true := by kernel_rfl
theorem inf29 : (Try.prog.info? 29).isSome = true := by kernel_rfl
theorem inf3 : (Try.prog.info? 3).isSome = true := by kernel_rfl
theorem inf37 : (Try.prog.info? 37).isSome = true := by kernel_rfl
theorem inf4 : (Try.prog.info? 4).isSome = true := by kernel_rfl
theorem inf50 : (Try.prog.info? 50).isSome = true := by kernel_rfl
theorem inf62 : (Try.prog.info? 62).isSome = true := by kernel_rfl
theorem inf94 : (Try.prog.info? 94).isSome = true := by kernel_rfl
theorem ist62 : istB Try.prog 62 = some 2 := by kernel_rfl
theorem ist94 : istB Try.prog 94 = some 2 := by kernel_rfl
theorem map195 : mapB Try.prog 195 = some (3, 3) := by kernel_rfl
theorem mixed : Try.prog.follows .mixedOrders = true := by kernel_rfl
theorem pl165 : plB Try.prog 165 = some [(0, 1), (1, 1), (2, 1)] := by kernel_rfl
theorem pl26 : plB Try.prog 26 = some [(0, 1), (1, 1)] := by kernel_rfl
theorem pl29 : plB Try.prog 29 = some [(0, 2), (2, 1)] := by kernel_rfl
theorem pl94 : plB Try.prog 94 = some [(0, 1), (1, 1)] := by kernel_rfl
theorem sz162 : szP Try.prog 162 = 2 := by kernel_rfl
theorem sz165 : szP Try.prog 165 = 3 := by kernel_rfl
theorem sz24 : szP Try.prog 24 = 1 := by kernel_rfl
theorem sz26 : szP Try.prog 26 = 2 := by kernel_rfl
theorem sz27 : szP Try.prog 27 = 1 := by kernel_rfl
theorem sz29 : szP Try.prog 29 = 3 := by kernel_rfl
theorem sz3 : szP Try.prog 3 = 1 := by kernel_rfl
theorem sz37 : szP Try.prog 37 = 1 := by kernel_rfl
theorem sz4 : szP Try.prog 4 = 1 := by kernel_rfl
theorem sz50 : szP Try.prog 50 = 2 := by kernel_rfl
theorem sz62 : szP Try.prog 62 = 2 := by kernel_rfl
theorem sz94 : szP Try.prog 94 = 2 := by kernel_rfl
theorem ti165 : TI Try.prog 165 (.agg #[(.slice none 0 0), (.slice none 0 0), (.slice none 0 0)]) 3 72 := by unfold TI; kernel_rfl
theorem ti26 : TI Try.prog 26 (.agg #[(.int .i64 0), (.slice none 0 0)]) 2 32 := by unfold TI; kernel_rfl
theorem ti29 : TI Try.prog 29 (.agg #[(.int .i64 0), (.slice none 0 0), (.slice none 0 0)]) 3 56 := by unfold TI; kernel_rfl
theorem ti3 : TI Try.prog 3 (.int .i64 0) 1 8 := by unfold TI; kernel_rfl
theorem ti37 : TI Try.prog 37 (.slice none 0 0) 1 24 := by unfold TI; kernel_rfl
theorem ti4 : TI Try.prog 4 (.bool false) 1 1 := by unfold TI; kernel_rfl
theorem ti62 : TI Try.prog 62 (.agg #[(.int .i64 0), (.int .i64 0)]) 2 16 := by unfold TI; kernel_rfl
theorem ti94 : TI Try.prog 94 (.agg #[(.int .i64 0), (.int .i64 0)]) 2 16 := by unfold TI; kernel_rfl
theorem und193 : Try.prog.underlying 193 = some (.slice 4) := by kernel_rfl
theorem und24 : Try.prog.underlying 24 = some (.slice 62) := by kernel_rfl
theorem und27 : Try.prog.underlying 27 = some (.slice 94) := by kernel_rfl
theorem und31 : Try.prog.underlying 31 = some (.slice 37) := by kernel_rfl
theorem und37 : Try.prog.underlying 37 = some (.slice 3) := by kernel_rfl
theorem und4 : Try.prog.underlying 4 = some .bool := by kernel_rfl
theorem und48 : Try.prog.underlying 48 = some (.slice 162) := by kernel_rfl
end Go.Proofs.Ytghofbijdnenoaa
end
section
set_option linter.unusedVariables false
set_option linter.unusedSimpArgs false
set_option linter.unnecessarySimpa false
set_option maxRecDepth 100000
set_option maxHeartbeats 8000000
open Go Go.Fw
namespace Go.Proofs.Ytghofbijdnenoaa
theorem w_laws_szBarS (a : (List TBar)) (leftV : Int) : ∀ t, m_laws_szBarS a leftV = some t → Fw.Fn Try.prog 124 [(.c (xF encTBar a)), (.c (iC leftV))] [] (.s (.c (iC t))) [] [] [] := by
 refine Fw.Fn.of (P := Try.prog) (X := []) (pn := []) (rs := (fun (t : Int) => [(.c (iC t))])) (dfs := (fun (t : Int) => [])) Try.func124 rfl Try.ntmps124 (Nat.le_of_ble_eq_true rfl) rfl ?_
 intro w0 U0 R0 g0
 unfold m_laws_szBarS
 refine Ws (Wr ?_)
 refine asg (Iv 0) rfl ⟨rfl, rfl⟩ rfl rfl ?_
 refine On (Ws (Wr ?_))
 refine mv (Iv leftV) rfl rfl rfl rfl ?_
 refine mv (Cc (xF encTBar a)) rfl rfl rfl rfl ?_
 refine Op10 (LT.tlenRO rfl und48) rfl rfl rfl ?_
 refine Op20 (LT.sub rfl) rfl rfl rfl rfl ?_
 refine asg (Iv (w64 (leftV - (a.length : Int)))) rfl rfl rfl rfl ?_
 refine On (Ws (Ws (Wr ?_)))
 refine mv (Iv (w64 (leftV - (a.length : Int)))) rfl rfl rfl rfl ?_
 refine Op20 (LT.lss rfl) rfl ⟨rfl, rfl⟩ rfl rfl ?_
 refine On ?_
 refine AWR.cond rfl (fun hc1 => ?_) (fun hc1 => ?_)
 ·refine Ws (Wr ?_)
  refine asg (Iv (-1)) rfl ⟨rfl, rfl⟩ rfl rfl ?_
  refine On ?_
  refine AWR.ret (FPost.mk (.inr rfl) ⟨rfl, trivial⟩ trivial rfl ⟨PermP.sc, trivial⟩ trivial)
 ·refine AWR.skip (Ws (Wr ?_))
  refine mv (Iv (w64 (leftV - (a.length : Int)))) rfl rfl rfl rfl ?_
  refine asg (Iv (w64 (leftV - (a.length : Int)))) rfl rfl rfl rfl ?_
  refine On ?_
  refine AWR.ret (FPost.mk (.inr rfl) ⟨rfl, trivial⟩ trivial rfl ⟨PermP.sc, trivial⟩ trivial)
theorem w_laws_szGraph (a : TGraph) (leftV : Int) : ∀ t, m_laws_szGraph a leftV = some t → Fw.Fn Try.prog 33 [(.agg [(iC a.Points), (xF encTBar a.Bars)]), (.c (iC leftV))] [] (.s (.c (iC t))) [] [] [] := by
 refine Fw.Fn.of (P := Try.prog) (X := []) (pn := []) (rs := (fun (t : Int) => [(.c (iC t))])) (dfs := (fun (t : Int) => [])) Try.func33 rfl Try.ntmps33 (Nat.le_of_ble_eq_true rfl) rfl ?_
 intro w0 U0 R0 g0
 unfold m_laws_szGraph
 refine Ws (Wr ?_)
 refine Os10 (LT.box (n := 21) (v := (.agg [(iC a.Points), (xF encTBar a.Bars)])) rfl sz50 (by exact rfl)) rfl rfl rfl ?_
 refine asg (Iv 0) rfl ⟨rfl, rfl⟩ rfl rfl ?_
 refine On (Ws (Wr ?_))
 refine Op10 (LT.fieldPl rfl fo50_1) rfl rfl rfl ?_
 refine Op11 (LT.bload1 (c := (xF encTBar a.Bars)) rfl ag48 (by exact rfl)) rfl rfl rfl rfl ?_
 refine mv (Iv leftV) rfl rfl rfl rfl ?_
 refine Ob' fun r1 hr1 => ?_
 refine AOR.pure (@LT.callF Try.prog _ _ 124 _ _ [(.c (xF encTBar a.Bars)), (.c (iC leftV))] _ _ [] _ _ _ _ (w_laws_szBarS a.Bars leftV r1 hr1) rfl cb124 (.cons (.c (.same rfl)) (.cons (.c (.same rfl)) .nil)) rfl rfl trivial) ⟨rfl, rfl, rfl, trivial⟩ trivial rfl rfl ?_
 refine asg (Iv r1) rfl rfl rfl rfl ?_
 refine On (Ws (Ws (Wr ?_)))
 refine mv (Iv r1) rfl rfl rfl rfl ?_
 refine Op20 (LT.lss rfl) rfl ⟨rfl, rfl⟩ rfl rfl ?_
 refine On ?_
 refine AWR.cond rfl (fun hc2 => ?_) (fun hc2 => ?_)
 ·refine Ws ?_
  refine en [] [] trivial trivial ?_
  refine Wr ?_
  refine asg (Iv (-1)) rfl ⟨rfl, rfl⟩ rfl rfl ?_
  refine On ?_
  refine AWR.ret (FPost.mk (.inr rfl) ⟨rfl, trivial⟩ trivial rfl ⟨PermP.sc, trivial⟩ trivial)
 ·refine AWR.skip (Ws ?_)
  refine en [(1, (Iv r1))] [] ⟨rfl, trivial⟩ trivial ?_
  refine Wr ?_
  refine mv (Iv r1) rfl rfl rfl rfl ?_
  refine asg (Iv r1) rfl rfl rfl rfl ?_
  refine On ?_
  refine AWR.ret (FPost.mk (.inr rfl) ⟨rfl, trivial⟩ trivial rfl ⟨PermP.sc, trivial⟩ trivial)
theorem w_laws_toBar (a : TBar) : ∀ t, m_laws_toBar a = some t → Fw.Fn Try.prog 210 [(.agg [(iC a.A), (iC a.B)])] [] (.s (.agg [(iC t.A), (iC t.B)])) [] [] [] := by
 refine Fw.Fn.of (P := Try.prog) (X := []) (pn := []) (rs := (fun (t : TBar) => [(.agg [(iC t.A), (iC t.B)])])) (dfs := (fun (t : TBar) => [])) Try.func210 rfl Try.ntmps210 (Nat.le_of_ble_eq_true rfl) rfl ?_
 intro w0 U0 R0 g0
 unfold m_laws_toBar
 refine Ws (Wr ?_)
 refine Os10 (LT.box (n := 21) (v := (.agg [(iC a.A), (iC a.B)])) rfl sz162 (by exact rfl)) rfl rfl rfl ?_
 refine Os00 (LT.alloc (n := 22) (cells := [(iC 0), (iC 0)]) rfl ti62 rfl rfl rfl) rfl rfl ?_
 refine On (Ws (Wr ?_))
 refine Os00 (LT.alloc (n := 23) (cells := [(iC 0), (iC 0)]) rfl ti62 rfl rfl rfl) rfl rfl ?_
 refine On (Ws (Wr ?_))
 refine Op10 (LT.fieldPl rfl fo162_0) rfl rfl rfl ?_
 refine Op11 (LT.bload1 (c := (iC a.A)) rfl ag3 (by exact rfl)) rfl rfl rfl rfl ?_
 refine Op10 (LT.fieldPl rfl fo62_0) rfl rfl rfl ?_
 refine Os21 (LT.bstore (v := (.c (iC a.A))) (out := [(iC a.A), (iC 0)]) rfl rfl (infS inf3) sz3 (by exact rfl) (by exact Nat.le_of_ble_eq_true rfl) (by exact rfl)) rfl rfl rfl rfl rfl ?_
 refine On (Ws ?_)
 refine en [(1, (Cc (.pl 21 0))), (2, (Cc (.pl 22 0))), (3, (Cc (.pl 23 0)))] [(21, (.row 162 [[(iC a.A), (iC a.B)]])), (22, (.row 62 [[(iC 0), (iC 0)]])), (23, (.row 62 [[(iC a.A), (iC 0)]]))] ⟨rfl, rfl, rfl, trivial⟩ ⟨rfl, rfl, rfl, trivial⟩ ?_
 refine Wr ?_
 refine Op10 (LT.fieldPl rfl fo162_1) rfl rfl rfl ?_
 refine Op11 (LT.bload1 (c := (iC a.B)) rfl ag3 (by exact rfl)) rfl rfl rfl rfl ?_
 refine Op10 (LT.fieldPl rfl fo62_1) rfl rfl rfl ?_
 refine Os21 (LT.bstore (v := (.c (iC a.B))) (out := [(iC a.A), (iC a.B)]) rfl rfl (infS inf3) sz3 (by exact rfl) (by exact Nat.le_of_ble_eq_true rfl) (by exact rfl)) rfl rfl rfl rfl rfl ?_
 refine On (Ws (Wr ?_))
 refine Op11 (LT.bloadN (out := [(iC a.A), (iC a.B)]) rfl ag62 (infS inf62) sz62 (by exact rfl) (by exact rfl)) rfl rfl rfl rfl ?_
 refine Os21 (LT.bstore (v := (.agg [(iC a.A), (iC a.B)])) (out := [(iC a.A), (iC a.B)]) rfl rfl (infS inf62) sz62 (by exact rfl) (by exact Nat.le_of_ble_eq_true rfl) (by exact rfl)) rfl rfl rfl rfl rfl ?_
 refine On ?_
 refine AWR.ret (FPost.mk (.inr rfl) ⟨⟨_, _, _, rfl, rfl, rfl, ag62, sz62, _, (infS inf62)⟩, trivial⟩ trivial rfl ⟨⟨PermP.sc, PermP.sc, trivial⟩, trivial⟩ trivial)
theorem w_laws_toBarS (a : (List TBar)) : ∀ t, m_laws_toBarS a = some t → Fw.Fn Try.prog 127 [(.c (xF encTBar a))] [] (.s (.c (lo 0 t.length))) [(0, (pR 62 encTBar t))] [] [0] := by
 refine Fw.Fn.of (P := Try.prog) (X := [0]) (pn := []) (rs := (fun (t : (List TBar)) => [(.c (lo 0 t.length))])) (dfs := (fun (t : (List TBar)) => [(0, (pR 62 encTBar t))])) Try.func127 rfl Try.ntmps127 (Nat.le_of_ble_eq_true rfl) rfl ?_
 intro w0 U0 R0 g0
 unfold m_laws_toBarS
 refine Ws (Wr ?_)
 refine asg (Cc (sC nilV)) rfl ⟨rfl, rfl⟩ rfl rfl ?_
 refine On (Ws (Wr ?_))
 refine mv (Cc (xF encTBar a)) rfl rfl rfl rfl ?_
 refine Op10 (LT.tlenRO rfl und48) rfl rfl rfl ?_
 refine Ob' fun u1 hu1 => ?_
 refine Os20 (LT.tmake (n := 21) (enc := encTBar) (zc := [(iC 0), (iC 0)]) (TBar.mk (0 : Int) (0 : Int)) rfl und24 ti62 rfl rfl rfl (by decide) (by decide) (lenOk_le hu1) rfl) rfl rfl rfl rfl ?_
 refine asg (Cc (lo 21 ((List.replicate (a.length : Int).toNat (TBar.mk (0 : Int) (0 : Int))).length))) rfl rfl rfl rfl ?_
 refine On (Ws (Ws (Wr ?_)))
 refine asg (Iv 0) rfl ⟨rfl, rfl⟩ rfl rfl ?_
 refine On (AWR.block ?_)
 refine AWR.loop1 (id := 0) (m_laws_toBarS_L1 a) (fun s2 => ([(0, (Cc (xF encTBar a))), (3, (Cc (lo 21 s2.2.length))), (4, (Iv s2.1))], [(21, (pR 62 encTBar s2.2))])) (fun b11 => ([(3, (Cc (lo 21 b11.length)))], [(21, (pR 62 encTBar b11))])) ?_ (Ent.of ⟨rfl, rfl, rfl, trivial⟩ ⟨rfl, trivial⟩) rfl (fun b11 _ => ?_)
 ·intro s2
  unfold m_laws_toBarS_L1
  refine Ws (Ws (Wr ?_))
  refine mv (Iv s2.1) rfl rfl rfl rfl ?_
  refine mv (Cc (xF encTBar a)) rfl rfl rfl rfl ?_
  refine Op10 (LT.tlenRO rfl und48) rfl rfl rfl ?_
  refine Op20 (LT.lss rfl) rfl rfl rfl rfl ?_
  refine On ?_
  refine AWR.cond rfl (fun hc12 => ?_) (fun hc12 => ?_)
  ·refine AWR.skip (Ws (AWR.block (Wr ?_)))
   refine mv (Cc (lo 21 s2.2.length)) rfl rfl rfl rfl ?_
   refine mv (Iv s2.1) rfl rfl rfl rfl ?_
   refine mv (Cc (xF encTBar a)) rfl rfl rfl rfl ?_
   refine mv (Iv s2.1) rfl rfl rfl rfl ?_
   refine Ob' fun x13 hx13 => ?_
   refine Op20 (LT.tindexRO (enc := encTBar) rfl el48 hx13 sz162) rfl rfl rfl rfl ?_
   refine Op10 (LT.loadPxN rfl ag162 (infS inf162) (by exact sz162.symm)) rfl rfl rfl ?_
   refine Ob' fun r14 hr14 => ?_
   refine AOR.pure (@LT.callF Try.prog _ _ 210 _ _ [(.agg [(iC x13.A), (iC x13.B)])] _ _ [] _ _ _ _ (w_laws_toBar x13 r14 hr14) rfl cb210 (.cons (.agg (.cons (.same rfl) (.cons (.same rfl) .nil))) .nil) rfl rfl trivial) ⟨rfl, rfl, trivial⟩ trivial rfl rfl ?_
   refine Ob' fun x15 hx15 => ?_
   refine Op21 (LT.tindexLoc rfl rfl el24 hx15) rfl rfl rfl rfl rfl ?_
   refine Os21 (LT.tstore (k := 0) (v := (.agg [(iC r14.A), (iC r14.B)])) (b' := r14) rfl rfl (infS inf62) sz62 (by exact rfl) hx15 (by exact rfl) (by exact Nat.le_of_ble_eq_true rfl) (by exact rfl)) rfl rfl rfl rfl rfl ?_
   refine On (AWR.blk ?_)
   refine en [(0, (Cc (xF encTBar a))), (3, (Cc (lo 21 s2.2.length))), (4, (Iv s2.1))] [(21, (pR 62 encTBar (s2.2.set s2.1.toNat r14)))] ⟨rfl, rfl, rfl, trivial⟩ ⟨rfl, trivial⟩ ?_
   refine Wr ?_
   refine mv (Iv s2.1) rfl rfl rfl rfl ?_
   refine Op20 (LT.add rfl) rfl ⟨rfl, rfl⟩ rfl rfl ?_
   refine asg (Iv (w64 (s2.1 + 1))) rfl rfl rfl rfl ?_
   refine On ?_
   refine AWR.nil ⟨rfl, Ent.of ⟨rfl, (congrArg (fun l1 => (some (AV.s (.c (lo 21 l1))) : Option AV)) (show s2.2.length = (s2.2.set s2.1.toNat r14).length by simp only [List.length_set])), rfl, trivial⟩ ⟨rfl, trivial⟩⟩
  ·refine AWR.exit_end rfl ⟨rfl, Ent.of ⟨rfl, trivial⟩ ⟨rfl, trivial⟩⟩
 ·refine Ws (Wr ?_)
  refine mv (Cc (lo 21 b11.length)) rfl rfl rfl rfl ?_
  refine asg (Cc (lo 21 b11.length)) rfl rfl rfl rfl ?_
  refine On ?_
  refine en [(2, (Cc (lo 21 b11.length)))] [(21, (pR 62 encTBar b11))] ⟨rfl, trivial⟩ ⟨rfl, trivial⟩ ?_
  refine AWR.ent (Ent.mv 21 0 rfl rfl) ?_
  refine en [(2, (Cc (lo 0 b11.length)))] [(0, (pR 62 encTBar b11))] ⟨rfl, trivial⟩ ⟨rfl, trivial⟩ ?_
  refine AWR.ret (FPost.mk (.inr rfl) ⟨rfl, trivial⟩ ⟨rfl, trivial⟩ rfl ⟨trivial, trivial⟩ ⟨PermO.prow' perm_encTBar, trivial⟩)
theorem w_laws_toGraph (a : TGraph) : ∀ t, m_laws_toGraph a = some t → Fw.Fn Try.prog 35 [(.agg [(iC a.Points), (xF encTBar a.Bars)])] [] (.s (.agg [(iC t.Points), (lo 0 t.Bars.length)])) [(0, (pR 62 encTBar t.Bars))] [] [0] := by
 refine Fw.Fn.of (P := Try.prog) (X := [0]) (pn := []) (rs := (fun (t : TGraph) => [(.agg [(iC t.Points), (lo 0 t.Bars.length)])])) (dfs := (fun (t : TGraph) => [(0, (pR 62 encTBar t.Bars))])) Try.func35 rfl Try.ntmps35 (Nat.le_of_ble_eq_true rfl) rfl ?_
 intro w0 U0 R0 g0
 unfold m_laws_toGraph
 refine Ws (Wr ?_)
 refine Os10 (LT.box (n := 21) (v := (.agg [(iC a.Points), (xF encTBar a.Bars)])) rfl sz50 (by exact rfl)) rfl rfl rfl ?_
 refine Os00 (LT.alloc (n := 22) (cells := [(iC 0), (sC nilV)]) rfl ti26 rfl rfl rfl) rfl rfl ?_
 refine On (Ws (Wr ?_))
 refine Os00 (LT.alloc (n := 23) (cells := [(iC 0), (sC nilV)]) rfl ti26 rfl rfl rfl) rfl rfl ?_
 refine On (Ws (Wr ?_))
 refine Op10 (LT.fieldPl rfl fo50_0) rfl rfl rfl ?_
 refine Op11 (LT.bload1 (c := (iC a.Points)) rfl ag3 (by exact rfl)) rfl rfl rfl rfl ?_
 refine Op10 (LT.fieldPl rfl fo26_0) rfl rfl rfl ?_
 refine Os21 (LT.bstore (v := (.c (iC a.Points))) (out := [(iC a.Points), (sC nilV)]) rfl rfl (infS inf3) sz3 (by exact rfl) (by exact Nat.le_of_ble_eq_true rfl) (by exact rfl)) rfl rfl rfl rfl rfl ?_
 refine On (Ws ?_)
 refine en [(1, (Cc (.pl 21 0))), (2, (Cc (.pl 22 0))), (3, (Cc (.pl 23 0)))] [(21, (.row 50 [[(iC a.Points), (xF encTBar a.Bars)]])), (22, (.row 26 [[(iC 0), (sC nilV)]])), (23, (.row 26 [[(iC a.Points), (sC nilV)]]))] ⟨rfl, rfl, rfl, trivial⟩ ⟨rfl, rfl, rfl, trivial⟩ ?_
 refine Wr ?_
 refine Op10 (LT.fieldPl rfl fo50_1) rfl rfl rfl ?_
 refine Op11 (LT.bload1 (c := (xF encTBar a.Bars)) rfl ag48 (by exact rfl)) rfl rfl rfl rfl ?_
 refine Ob' fun r1 hr1 => ?_
 refine AOR.step (@LT.callF Try.prog _ _ 127 _ _ [(.c (xF encTBar a.Bars))] _ _ [] _ _ _ _ ((show Fw.Fn Try.prog 127 [(.c (xF encTBar a.Bars))] [] (Cc (lo 25 r1.length)) [(25, (pR 62 encTBar r1))] [] [25] from Fw.Fn.ren [(0, 25)] (w_laws_toBarS a.Bars r1 hr1) rfl)) rfl cb127 (.cons (.c (.same rfl)) .nil) rfl rfl trivial) ⟨rfl, rfl, trivial⟩ trivial rfl rfl ?_
 refine Op10 (LT.fieldPl rfl fo26_1) rfl rfl rfl ?_
 refine Os21 (LT.bstore (v := (.c (lo 25 r1.length))) (out := [(iC a.Points), (lo 25 r1.length)]) rfl rfl (infS inf24) sz24 (by exact rfl) (by exact Nat.le_of_ble_eq_true rfl) (by exact rfl)) rfl rfl rfl rfl rfl ?_
 refine On (Ws (Wr ?_))
 refine Op11 (LT.bloadN (out := [(iC a.Points), (lo 25 r1.length)]) rfl ag26 (infS inf26) sz26 (by exact rfl) (by exact rfl)) rfl rfl rfl rfl ?_
 refine Os21 (LT.bstore (v := (.agg [(iC a.Points), (lo 25 r1.length)])) (out := [(iC a.Points), (lo 25 r1.length)]) rfl rfl (infS inf26) sz26 (by exact rfl) (by exact Nat.le_of_ble_eq_true rfl) (by exact rfl)) rfl rfl rfl rfl rfl ?_
 refine On ?_
 refine en [(2, (Cc (.pl 22 0)))] [(22, (.row 26 [[(iC a.Points), (lo 25 r1.length)]])), (25, (pR 62 encTBar r1))] ⟨rfl, trivial⟩ ⟨rfl, rfl, trivial⟩ ?_
 refine AWR.ent (Ent.mv 25 0 rfl rfl) ?_
 refine en [(2, (Cc (.pl 22 0)))] [(0, (pR 62 encTBar r1)), (22, (.row 26 [[(iC a.Points), (lo 0 r1.length)]]))] ⟨rfl, trivial⟩ ⟨rfl, rfl, trivial⟩ ?_
 refine AWR.ret (FPost.mk (.inr rfl) ⟨⟨_, _, _, rfl, rfl, rfl, ag26, sz26, _, (infS inf26)⟩, trivial⟩ ⟨rfl, trivial⟩ rfl ⟨⟨PermP.sc, trivial, trivial⟩, trivial⟩ ⟨PermO.prow' perm_encTBar, trivial⟩)
theorem w_laws_eqBar (a : TBar) (b : TBar) : ∀ t, m_laws_eqBar a b = some t → Fw.Fn Try.prog 213 [(.agg [(iC a.A), (iC a.B)]), (.agg [(iC b.A), (iC b.B)])] [] (.s (.c (bC t))) [] [] [] := by
 refine Fw.Fn.of (P := Try.prog) (X := []) (pn := []) (rs := (fun (t : Bool) => [(.c (bC t))])) (dfs := (fun (t : Bool) => [])) Try.func213 rfl Try.ntmps213 (Nat.le_of_ble_eq_true rfl) rfl ?_
 intro w0 U0 R0 g0
 unfold m_laws_eqBar
 refine Ws (Wr ?_)
 refine Os10 (LT.box (n := 21) (v := (.agg [(iC a.A), (iC a.B)])) rfl sz62 (by exact rfl)) rfl rfl rfl ?_
 refine Os10 (LT.box (n := 22) (v := (.agg [(iC b.A), (iC b.B)])) rfl sz62 (by exact rfl)) rfl rfl rfl ?_
 refine asg (Bv false) rfl ⟨rfl, rfl⟩ rfl rfl ?_
 refine On (Ws (Ws (Wr ?_)))
 refine Op10 (LT.fieldPl rfl fo62_0) rfl rfl rfl ?_
 refine Op11 (LT.bload1 (c := (iC a.A)) rfl ag3 (by exact rfl)) rfl rfl rfl rfl ?_
 refine Op10 (LT.fieldPl rfl fo62_0) rfl rfl rfl ?_
 refine Op11 (LT.bload1 (c := (iC b.A)) rfl ag3 (by exact rfl)) rfl rfl rfl rfl ?_
 refine Op20 (LT.neq rfl) rfl rfl rfl rfl ?_
 refine On ?_
 refine AWR.cond rfl (fun hc1 => ?_) (fun hc1 => ?_)
 ·refine Ws ?_
  refine en [] [] trivial trivial ?_
  refine Wr ?_
  refine asg (Bv false) rfl ⟨rfl, rfl⟩ rfl rfl ?_
  refine On ?_
  refine AWR.ret (FPost.mk (.inr rfl) ⟨rfl, trivial⟩ trivial rfl ⟨PermP.sc, trivial⟩ trivial)
 ·refine AWR.skip (Ws (Ws ?_))
  refine en [(2, (Cc (.pl 21 0))), (3, (Cc (.pl 22 0)))] [(21, (.row 62 [[(iC a.A), (iC a.B)]])), (22, (.row 62 [[(iC b.A), (iC b.B)]]))] ⟨rfl, rfl, trivial⟩ ⟨rfl, rfl, trivial⟩ ?_
  refine Wr ?_
  refine Op10 (LT.fieldPl rfl fo62_1) rfl rfl rfl ?_
  refine Op11 (LT.bload1 (c := (iC a.B)) rfl ag3 (by exact rfl)) rfl rfl rfl rfl ?_
  refine Op10 (LT.fieldPl rfl fo62_1) rfl rfl rfl ?_
  refine Op11 (LT.bload1 (c := (iC b.B)) rfl ag3 (by exact rfl)) rfl rfl rfl rfl ?_
  refine Op20 (LT.neq rfl) rfl rfl rfl rfl ?_
  refine On ?_
  refine AWR.cond rfl (fun hc2 => ?_) (fun hc2 => ?_)
  ·refine Ws (Wr ?_)
   refine asg (Bv false) rfl ⟨rfl, rfl⟩ rfl rfl ?_
   refine On ?_
   refine AWR.ret (FPost.mk (.inr rfl) ⟨rfl, trivial⟩ trivial rfl ⟨PermP.sc, trivial⟩ trivial)
  ·refine AWR.skip (Ws (Wr ?_))
   refine asg (Bv true) rfl ⟨rfl, rfl⟩ rfl rfl ?_
   refine On ?_
   refine AWR.ret (FPost.mk (.inr rfl) ⟨rfl, trivial⟩ trivial rfl ⟨PermP.sc, trivial⟩ trivial)
theorem w_laws_eqBarS (a : (List TBar)) (b : (List TBar)) : ∀ t, m_laws_eqBarS a b = some t → Fw.Fn Try.prog 132 [(.c (xF encTBar a)), (.c (xF encTBar b))] [] (.s (.c (bC t))) [] [] [] := by
 refine Fw.Fn.of (P := Try.prog) (X := []) (pn := []) (rs := (fun (t : Bool) => [(.c (bC t))])) (dfs := (fun (t : Bool) => [])) Try.func132 rfl Try.ntmps132 (Nat.le_of_ble_eq_true rfl) rfl ?_
 intro w0 U0 R0 g0
 unfold m_laws_eqBarS
 refine Ws (Wr ?_)
 refine asg (Bv false) rfl ⟨rfl, rfl⟩ rfl rfl ?_
 refine On (Ws (Ws (Wr ?_)))
 refine mv (Cc (xF encTBar a)) rfl rfl rfl rfl ?_
 refine Op10 (LT.tlenRO rfl und24) rfl rfl rfl ?_
 refine mv (Cc (xF encTBar b)) rfl rfl rfl rfl ?_
 refine Op10 (LT.tlenRO rfl und24) rfl rfl rfl ?_
 refine Op20 (LT.neq rfl) rfl rfl rfl rfl ?_
 refine On ?_
 refine AWR.cond rfl (fun hc1 => ?_) (fun hc1 => ?_)
 ·refine Ws (Wr ?_)
  refine asg (Bv false) rfl ⟨rfl, rfl⟩ rfl rfl ?_
  refine On ?_
  refine AWR.ret (FPost.mk (.inr rfl) ⟨rfl, trivial⟩ trivial rfl ⟨PermP.sc, trivial⟩ trivial)
 ·refine AWR.skip (Ws (Ws (Wr ?_)))
  refine asg (Iv 0) rfl ⟨rfl, rfl⟩ rfl rfl ?_
  refine On (AWR.block ?_)
  refine AWR.loopR (id := 0) (m_laws_eqBarS_L1 a b) (fun s2 => ([(0, (Cc (xF encTBar a))), (1, (Cc (xF encTBar b))), (5, (Iv s2))], [])) (fun b13 => ([], [])) (FPost Try.prog Try.f132.results.toList [] [] (fun (t : Bool) => [(.c (bC t))]) (fun (t : Bool) => [])) ?_ (Ent.of ⟨rfl, rfl, rfl, trivial⟩ trivial) rfl (fun b13 _ => ?_) (by intro r t σ m ht hk; injection ht with ht; subst ht; exact hk)
  ·intro s2
   unfold m_laws_eqBarS_L1
   refine Ws (Ws (Wr ?_))
   refine mv (Iv s2) rfl rfl rfl rfl ?_
   refine mv (Cc (xF encTBar a)) rfl rfl rfl rfl ?_
   refine Op10 (LT.tlenRO rfl und24) rfl rfl rfl ?_
   refine Op20 (LT.lss rfl) rfl rfl rfl rfl ?_
   refine On ?_
   refine AWR.cond rfl (fun hc14 => ?_) (fun hc14 => ?_)
   ·refine AWR.skip (Ws (AWR.block (Ws (AWR.draw mixed ?_))))
    refine Dp10 (LT.move (v := (Cc (xF encTBar a))) rfl) rfl rfl rfl ?_
    refine Dp10 (LT.move (v := (Iv s2)) rfl) rfl rfl rfl ?_
    refine AOD.bind fun x15 hx15 => ?_
    refine Dp20 (LT.tindexRO (enc := encTBar) rfl el24 hx15 sz62) rfl rfl rfl rfl ?_
    refine Dp10 (LT.loadPxN rfl ag62 (infS inf62) (by exact sz62.symm)) rfl rfl rfl ?_
    refine Dp10 (LT.move (v := (Cc (xF encTBar b))) rfl) rfl rfl rfl ?_
    refine Dp10 (LT.move (v := (Iv s2)) rfl) rfl rfl rfl ?_
    refine AOD.bind fun x16 hx16 => ?_
    refine Dp20 (LT.tindexRO (enc := encTBar) rfl el24 hx16 sz62) rfl rfl rfl rfl ?_
    refine Dp10 (LT.loadPxN rfl ag62 (infS inf62) (by exact sz62.symm)) rfl rfl rfl ?_
    refine AOD.bind fun r17 hr17 => ?_
    refine AOD.pure (@LT.callF Try.prog _ _ 213 _ _ [(.agg [(iC x15.A), (iC x15.B)]), (.agg [(iC x16.A), (iC x16.B)])] _ _ [] _ _ _ _ (w_laws_eqBar x15 x16 r17 hr17) rfl cb213 (.cons (.agg (.cons (.same rfl) (.cons (.same rfl) .nil))) (.cons (.agg (.cons (.same rfl) (.cons (.same rfl) .nil))) .nil)) rfl rfl trivial) ⟨rfl, rfl, rfl, trivial⟩ trivial rfl rfl ?_
    refine Dp10 (LT.not rfl) rfl rfl rfl ?_
    refine AOD.nil (by kernel_rfl) ?_
    refine AWR.cond rfl (fun hc18 => ?_) (fun hc18 => ?_)
    ·refine Ws ?_
     refine en [] [] trivial trivial ?_
     refine Wr ?_
     refine asg (Bv false) rfl ⟨rfl, rfl⟩ rfl rfl ?_
     refine On ?_
     refine AWR.ret ⟨rfl, FPost.mk (.inr rfl) ⟨rfl, trivial⟩ trivial rfl ⟨PermP.sc, trivial⟩ trivial⟩
    ·refine AWR.skip (AWR.blk ?_)
     refine en [(0, (Cc (xF encTBar a))), (1, (Cc (xF encTBar b))), (5, (Iv s2))] [] ⟨rfl, rfl, rfl, trivial⟩ trivial ?_
     refine Wr ?_
     refine mv (Iv s2) rfl rfl rfl rfl ?_
     refine Op20 (LT.add rfl) rfl ⟨rfl, rfl⟩ rfl rfl ?_
     refine asg (Iv (w64 (s2 + 1))) rfl rfl rfl rfl ?_
     refine On ?_
     refine AWR.nil ⟨rfl, Ent.of ⟨rfl, rfl, rfl, trivial⟩ trivial⟩
   ·refine AWR.exit_end rfl ⟨rfl, Ent.of trivial trivial⟩
  ·refine Ws (Wr ?_)
   refine asg (Bv true) rfl ⟨rfl, rfl⟩ rfl rfl ?_
   refine On ?_
   refine AWR.ret (FPost.mk (.inr rfl) ⟨rfl, trivial⟩ trivial rfl ⟨PermP.sc, trivial⟩ trivial)
theorem w_laws_eqGraph (a : TGraph) (b : TGraph) : ∀ t, m_laws_eqGraph a b = some t → Fw.Fn Try.prog 38 [(.agg [(iC a.Points), (xF encTBar a.Bars)]), (.agg [(iC b.Points), (xF encTBar b.Bars)])] [] (.s (.c (bC t))) [] [] [] := by
 refine Fw.Fn.of (P := Try.prog) (X := []) (pn := []) (rs := (fun (t : Bool) => [(.c (bC t))])) (dfs := (fun (t : Bool) => [])) Try.func38 rfl Try.ntmps38 (Nat.le_of_ble_eq_true rfl) rfl ?_
 intro w0 U0 R0 g0
 unfold m_laws_eqGraph
 refine Ws (Wr ?_)
 refine Os10 (LT.box (n := 21) (v := (.agg [(iC a.Points), (xF encTBar a.Bars)])) rfl sz26 (by exact rfl)) rfl rfl rfl ?_
 refine Os10 (LT.box (n := 22) (v := (.agg [(iC b.Points), (xF encTBar b.Bars)])) rfl sz26 (by exact rfl)) rfl rfl rfl ?_
 refine asg (Bv false) rfl ⟨rfl, rfl⟩ rfl rfl ?_
 refine On (Ws (Ws (Wr ?_)))
 refine Op10 (LT.fieldPl rfl fo26_0) rfl rfl rfl ?_
 refine Op11 (LT.bload1 (c := (iC a.Points)) rfl ag3 (by exact rfl)) rfl rfl rfl rfl ?_
 refine Op10 (LT.fieldPl rfl fo26_0) rfl rfl rfl ?_
 refine Op11 (LT.bload1 (c := (iC b.Points)) rfl ag3 (by exact rfl)) rfl rfl rfl rfl ?_
 refine Op20 (LT.neq rfl) rfl rfl rfl rfl ?_
 refine On ?_
 refine AWR.cond rfl (fun hc1 => ?_) (fun hc1 => ?_)
 ·refine Ws ?_
  refine en [] [] trivial trivial ?_
  refine Wr ?_
  refine asg (Bv false) rfl ⟨rfl, rfl⟩ rfl rfl ?_
  refine On ?_
  refine AWR.ret (FPost.mk (.inr rfl) ⟨rfl, trivial⟩ trivial rfl ⟨PermP.sc, trivial⟩ trivial)
 ·refine AWR.skip (Ws (Ws ?_))
  refine en [(2, (Cc (.pl 21 0))), (3, (Cc (.pl 22 0)))] [(21, (.row 26 [[(iC a.Points), (xF encTBar a.Bars)]])), (22, (.row 26 [[(iC b.Points), (xF encTBar b.Bars)]]))] ⟨rfl, rfl, trivial⟩ ⟨rfl, rfl, trivial⟩ ?_
  refine Wr ?_
  refine Op10 (LT.fieldPl rfl fo26_1) rfl rfl rfl ?_
  refine Op11 (LT.bload1 (c := (xF encTBar a.Bars)) rfl ag24 (by exact rfl)) rfl rfl rfl rfl ?_
  refine Op10 (LT.fieldPl rfl fo26_1) rfl rfl rfl ?_
  refine Op11 (LT.bload1 (c := (xF encTBar b.Bars)) rfl ag24 (by exact rfl)) rfl rfl rfl rfl ?_
  refine Ob' fun r2 hr2 => ?_
  refine AOR.pure (@LT.callF Try.prog _ _ 132 _ _ [(.c (xF encTBar a.Bars)), (.c (xF encTBar b.Bars))] _ _ [] _ _ _ _ (w_laws_eqBarS a.Bars b.Bars r2 hr2) rfl cb132 (.cons (.c (.same rfl)) (.cons (.c (.same rfl)) .nil)) rfl rfl trivial) ⟨rfl, rfl, rfl, trivial⟩ trivial rfl rfl ?_
  refine Op10 (LT.not rfl) rfl rfl rfl ?_
  refine On ?_
  refine AWR.cond rfl (fun hc3 => ?_) (fun hc3 => ?_)
  ·refine Ws (Wr ?_)
   refine asg (Bv false) rfl ⟨rfl, rfl⟩ rfl rfl ?_
   refine On ?_
   refine AWR.ret (FPost.mk (.inr rfl) ⟨rfl, trivial⟩ trivial rfl ⟨PermP.sc, trivial⟩ trivial)
  ·refine AWR.skip (Ws (Wr ?_))
   refine asg (Bv true) rfl ⟨rfl, rfl⟩ rfl rfl ?_
   refine On ?_
   refine AWR.ret (FPost.mk (.inr rfl) ⟨rfl, trivial⟩ trivial rfl ⟨PermP.sc, trivial⟩ trivial)
end Go.Proofs.Ytghofbijdnenoaa
end
section
set_option linter.unusedVariables false
set_option linter.unusedSimpArgs false
set_option linter.unnecessarySimpa false
set_option maxRecDepth 100000
set_option maxHeartbeats 8000000
open Go Go.Fw
namespace Go.Proofs.Ytghofbijdnenoaa
theorem w_laws_eqPlace (a : TPlace) (b : TPlace) : ∀ t, m_laws_eqPlace a b = some t → Fw.Fn Try.prog 212 [(.agg [(iC a.X), (iC a.Y)]), (.agg [(iC b.X), (iC b.Y)])] [] (.s (.c (bC t))) [] [] [] := by
 refine Fw.Fn.of (P := Try.prog) (X := []) (pn := []) (rs := (fun (t : Bool) => [(.c (bC t))])) (dfs := (fun (t : Bool) => [])) Try.func212 rfl Try.ntmps212 (Nat.le_of_ble_eq_true rfl) rfl ?_
 intro w0 U0 R0 g0
 unfold m_laws_eqPlace
 refine Ws (Wr ?_)
 refine Os10 (LT.box (n := 21) (v := (.agg [(iC a.X), (iC a.Y)])) rfl sz94 (by exact rfl)) rfl rfl rfl ?_
 refine Os10 (LT.box (n := 22) (v := (.agg [(iC b.X), (iC b.Y)])) rfl sz94 (by exact rfl)) rfl rfl rfl ?_
 refine asg (Bv false) rfl ⟨rfl, rfl⟩ rfl rfl ?_
 refine On (Ws (Ws (Wr ?_)))
 refine Op10 (LT.fieldPl rfl fo94_0) rfl rfl rfl ?_
 refine Op11 (LT.bload1 (c := (iC a.X)) rfl ag3 (by exact rfl)) rfl rfl rfl rfl ?_
 refine Op10 (LT.fieldPl rfl fo94_0) rfl rfl rfl ?_
 refine Op11 (LT.bload1 (c := (iC b.X)) rfl ag3 (by exact rfl)) rfl rfl rfl rfl ?_
 refine Op20 (LT.neq rfl) rfl rfl rfl rfl ?_
 refine On ?_
 refine AWR.cond rfl (fun hc1 => ?_) (fun hc1 => ?_)
 ·refine Ws ?_
  refine en [] [] trivial trivial ?_
  refine Wr ?_
  refine asg (Bv false) rfl ⟨rfl, rfl⟩ rfl rfl ?_
  refine On ?_
  refine AWR.ret (FPost.mk (.inr rfl) ⟨rfl, trivial⟩ trivial rfl ⟨PermP.sc, trivial⟩ trivial)
 ·refine AWR.skip (Ws (Ws ?_))
  refine en [(2, (Cc (.pl 21 0))), (3, (Cc (.pl 22 0)))] [(21, (.row 94 [[(iC a.X), (iC a.Y)]])), (22, (.row 94 [[(iC b.X), (iC b.Y)]]))] ⟨rfl, rfl, trivial⟩ ⟨rfl, rfl, trivial⟩ ?_
  refine Wr ?_
  refine Op10 (LT.fieldPl rfl fo94_1) rfl rfl rfl ?_
  refine Op11 (LT.bload1 (c := (iC a.Y)) rfl ag3 (by exact rfl)) rfl rfl rfl rfl ?_
  refine Op10 (LT.fieldPl rfl fo94_1) rfl rfl rfl ?_
  refine Op11 (LT.bload1 (c := (iC b.Y)) rfl ag3 (by exact rfl)) rfl rfl rfl rfl ?_
  refine Op20 (LT.neq rfl) rfl rfl rfl rfl ?_
  refine On ?_
  refine AWR.cond rfl (fun hc2 => ?_) (fun hc2 => ?_)
  ·refine Ws (Wr ?_)
   refine asg (Bv false) rfl ⟨rfl, rfl⟩ rfl rfl ?_
   refine On ?_
   refine AWR.ret (FPost.mk (.inr rfl) ⟨rfl, trivial⟩ trivial rfl ⟨PermP.sc, trivial⟩ trivial)
  ·refine AWR.skip (Ws (Wr ?_))
   refine asg (Bv true) rfl ⟨rfl, rfl⟩ rfl rfl ?_
   refine On ?_
   refine AWR.ret (FPost.mk (.inr rfl) ⟨rfl, trivial⟩ trivial rfl ⟨PermP.sc, trivial⟩ trivial)
theorem w_laws_eqPlaceS (a : (List TPlace)) (b : (List TPlace)) : ∀ t, m_laws_eqPlaceS a b = some t → Fw.Fn Try.prog 131 [(.c (xF encTPlace a)), (.c (xF encTPlace b))] [] (.s (.c (bC t))) [] [] [] := by
 refine Fw.Fn.of (P := Try.prog) (X := []) (pn := []) (rs := (fun (t : Bool) => [(.c (bC t))])) (dfs := (fun (t : Bool) => [])) Try.func131 rfl Try.ntmps131 (Nat.le_of_ble_eq_true rfl) rfl ?_
 intro w0 U0 R0 g0
 unfold m_laws_eqPlaceS
 refine Ws (Wr ?_)
 refine asg (Bv false) rfl ⟨rfl, rfl⟩ rfl rfl ?_
 refine On (Ws (Ws (Wr ?_)))
 refine mv (Cc (xF encTPlace a)) rfl rfl rfl rfl ?_
 refine Op10 (LT.tlenRO rfl und27) rfl rfl rfl ?_
 refine mv (Cc (xF encTPlace b)) rfl rfl rfl rfl ?_
 refine Op10 (LT.tlenRO rfl und27) rfl rfl rfl ?_
 refine Op20 (LT.neq rfl) rfl rfl rfl rfl ?_
 refine On ?_
 refine AWR.cond rfl (fun hc1 => ?_) (fun hc1 => ?_)
 ·refine Ws (Wr ?_)
  refine asg (Bv false) rfl ⟨rfl, rfl⟩ rfl rfl ?_
  refine On ?_
  refine AWR.ret (FPost.mk (.inr rfl) ⟨rfl, trivial⟩ trivial rfl ⟨PermP.sc, trivial⟩ trivial)
 ·refine AWR.skip (Ws (Ws (Wr ?_)))
  refine asg (Iv 0) rfl ⟨rfl, rfl⟩ rfl rfl ?_
  refine On (AWR.block ?_)
  refine AWR.loopR (id := 0) (m_laws_eqPlaceS_L1 a b) (fun s2 => ([(0, (Cc (xF encTPlace a))), (1, (Cc (xF encTPlace b))), (5, (Iv s2))], [])) (fun b13 => ([], [])) (FPost Try.prog Try.f131.results.toList [] [] (fun (t : Bool) => [(.c (bC t))]) (fun (t : Bool) => [])) ?_ (Ent.of ⟨rfl, rfl, rfl, trivial⟩ trivial) rfl (fun b13 _ => ?_) (by intro r t σ m ht hk; injection ht with ht; subst ht; exact hk)
  ·intro s2
   unfold m_laws_eqPlaceS_L1
   refine Ws (Ws (Wr ?_))
   refine mv (Iv s2) rfl rfl rfl rfl ?_
   refine mv (Cc (xF encTPlace a)) rfl rfl rfl rfl ?_
   refine Op10 (LT.tlenRO rfl und27) rfl rfl rfl ?_
   refine Op20 (LT.lss rfl) rfl rfl rfl rfl ?_
   refine On ?_
   refine AWR.cond rfl (fun hc14 => ?_) (fun hc14 => ?_)
   ·refine AWR.skip (Ws (AWR.block (Ws (AWR.draw mixed ?_))))
    refine Dp10 (LT.move (v := (Cc (xF encTPlace a))) rfl) rfl rfl rfl ?_
    refine Dp10 (LT.move (v := (Iv s2)) rfl) rfl rfl rfl ?_
    refine AOD.bind fun x15 hx15 => ?_
    refine Dp20 (LT.tindexRO (enc := encTPlace) rfl el27 hx15 sz94) rfl rfl rfl rfl ?_
    refine Dp10 (LT.loadPxN rfl ag94 (infS inf94) (by exact sz94.symm)) rfl rfl rfl ?_
    refine Dp10 (LT.move (v := (Cc (xF encTPlace b))) rfl) rfl rfl rfl ?_
    refine Dp10 (LT.move (v := (Iv s2)) rfl) rfl rfl rfl ?_
    refine AOD.bind fun x16 hx16 => ?_
    refine Dp20 (LT.tindexRO (enc := encTPlace) rfl el27 hx16 sz94) rfl rfl rfl rfl ?_
    refine Dp10 (LT.loadPxN rfl ag94 (infS inf94) (by exact sz94.symm)) rfl rfl rfl ?_
    refine AOD.bind fun r17 hr17 => ?_
    refine AOD.pure (@LT.callF Try.prog _ _ 212 _ _ [(.agg [(iC x15.X), (iC x15.Y)]), (.agg [(iC x16.X), (iC x16.Y)])] _ _ [] _ _ _ _ (w_laws_eqPlace x15 x16 r17 hr17) rfl cb212 (.cons (.agg (.cons (.same rfl) (.cons (.same rfl) .nil))) (.cons (.agg (.cons (.same rfl) (.cons (.same rfl) .nil))) .nil)) rfl rfl trivial) ⟨rfl, rfl, rfl, trivial⟩ trivial rfl rfl ?_
    refine Dp10 (LT.not rfl) rfl rfl rfl ?_
    refine AOD.nil (by kernel_rfl) ?_
    refine AWR.cond rfl (fun hc18 => ?_) (fun hc18 => ?_)
    ·refine Ws ?_
     refine en [] [] trivial trivial ?_
     refine Wr ?_
     refine asg (Bv false) rfl ⟨rfl, rfl⟩ rfl rfl ?_
     refine On ?_
     refine AWR.ret ⟨rfl, FPost.mk (.inr rfl) ⟨rfl, trivial⟩ trivial rfl ⟨PermP.sc, trivial⟩ trivial⟩
    ·refine AWR.skip (AWR.blk ?_)
     refine en [(0, (Cc (xF encTPlace a))), (1, (Cc (xF encTPlace b))), (5, (Iv s2))] [] ⟨rfl, rfl, rfl, trivial⟩ trivial ?_
     refine Wr ?_
     refine mv (Iv s2) rfl rfl rfl rfl ?_
     refine Op20 (LT.add rfl) rfl ⟨rfl, rfl⟩ rfl rfl ?_
     refine asg (Iv (w64 (s2 + 1))) rfl rfl rfl rfl ?_
     refine On ?_
     refine AWR.nil ⟨rfl, Ent.of ⟨rfl, rfl, rfl, trivial⟩ trivial⟩
   ·refine AWR.exit_end rfl ⟨rfl, Ent.of trivial trivial⟩
  ·refine Ws (Wr ?_)
   refine asg (Bv true) rfl ⟨rfl, rfl⟩ rfl rfl ?_
   refine On ?_
   refine AWR.ret (FPost.mk (.inr rfl) ⟨rfl, trivial⟩ trivial rfl ⟨PermP.sc, trivial⟩ trivial)
theorem w_laws_eqFramework (a : TFramework) (b : TFramework) : ∀ t, m_laws_eqFramework a b = some t → Fw.Fn Try.prog 37 [(.agg [(iC a.Graph.Points), (xF encTBar a.Graph.Bars), (xF encTPlace a.Places)]), (.agg [(iC b.Graph.Points), (xF encTBar b.Graph.Bars), (xF encTPlace b.Places)])] [] (.s (.c (bC t))) [] [] [] := by
 refine Fw.Fn.of (P := Try.prog) (X := []) (pn := []) (rs := (fun (t : Bool) => [(.c (bC t))])) (dfs := (fun (t : Bool) => [])) Try.func37 rfl Try.ntmps37 (Nat.le_of_ble_eq_true rfl) rfl ?_
 intro w0 U0 R0 g0
 unfold m_laws_eqFramework
 refine Ws (Wr ?_)
 refine Os10 (LT.box (n := 21) (v := (.agg [(iC a.Graph.Points), (xF encTBar a.Graph.Bars), (xF encTPlace a.Places)])) rfl sz29 (by exact rfl)) rfl rfl rfl ?_
 refine Os10 (LT.box (n := 22) (v := (.agg [(iC b.Graph.Points), (xF encTBar b.Graph.Bars), (xF encTPlace b.Places)])) rfl sz29 (by exact rfl)) rfl rfl rfl ?_
 refine asg (Bv false) rfl ⟨rfl, rfl⟩ rfl rfl ?_
 refine On (Ws (Ws (Wr ?_)))
 refine Op10 (LT.fieldPl rfl fo29_0) rfl rfl rfl ?_
 refine Op11 (LT.bloadN (out := [(iC a.Graph.Points), (xF encTBar a.Graph.Bars)]) rfl ag26 (infS inf26) sz26 (by exact rfl) (by exact rfl)) rfl rfl rfl rfl ?_
 refine Op10 (LT.fieldPl rfl fo29_0) rfl rfl rfl ?_
 refine Op11 (LT.bloadN (out := [(iC b.Graph.Points), (xF encTBar b.Graph.Bars)]) rfl ag26 (infS inf26) sz26 (by exact rfl) (by exact rfl)) rfl rfl rfl rfl ?_
 refine Ob' fun r1 hr1 => ?_
 refine AOR.pure (@LT.callF Try.prog _ _ 38 _ _ [(.agg [(iC a.Graph.Points), (xF encTBar a.Graph.Bars)]), (.agg [(iC b.Graph.Points), (xF encTBar b.Graph.Bars)])] _ _ [] _ _ _ _ (w_laws_eqGraph a.Graph b.Graph r1 hr1) rfl cb38 (.cons (.agg (.cons (.same rfl) (.cons (.same rfl) .nil))) (.cons (.agg (.cons (.same rfl) (.cons (.same rfl) .nil))) .nil)) rfl rfl trivial) ⟨rfl, rfl, rfl, trivial⟩ trivial rfl rfl ?_
 refine Op10 (LT.not rfl) rfl rfl rfl ?_
 refine On ?_
 refine AWR.cond rfl (fun hc2 => ?_) (fun hc2 => ?_)
 ·refine Ws ?_
  refine en [] [] trivial trivial ?_
  refine Wr ?_
  refine asg (Bv false) rfl ⟨rfl, rfl⟩ rfl rfl ?_
  refine On ?_
  refine AWR.ret (FPost.mk (.inr rfl) ⟨rfl, trivial⟩ trivial rfl ⟨PermP.sc, trivial⟩ trivial)
 ·refine AWR.skip (Ws (Ws ?_))
  refine en [(2, (Cc (.pl 21 0))), (3, (Cc (.pl 22 0)))] [(21, (.row 29 [[(iC a.Graph.Points), (xF encTBar a.Graph.Bars), (xF encTPlace a.Places)]])), (22, (.row 29 [[(iC b.Graph.Points), (xF encTBar b.Graph.Bars), (xF encTPlace b.Places)]]))] ⟨rfl, rfl, trivial⟩ ⟨rfl, rfl, trivial⟩ ?_
  refine Wr ?_
  refine Op10 (LT.fieldPl rfl fo29_1) rfl rfl rfl ?_
  refine Op11 (LT.bload1 (c := (xF encTPlace a.Places)) rfl ag27 (by exact rfl)) rfl rfl rfl rfl ?_
  refine Op10 (LT.fieldPl rfl fo29_1) rfl rfl rfl ?_
  refine Op11 (LT.bload1 (c := (xF encTPlace b.Places)) rfl ag27 (by exact rfl)) rfl rfl rfl rfl ?_
  refine Ob' fun r3 hr3 => ?_
  refine AOR.pure (@LT.callF Try.prog _ _ 131 _ _ [(.c (xF encTPlace a.Places)), (.c (xF encTPlace b.Places))] _ _ [] _ _ _ _ (w_laws_eqPlaceS a.Places b.Places r3 hr3) rfl cb131 (.cons (.c (.same rfl)) (.cons (.c (.same rfl)) .nil)) rfl rfl trivial) ⟨rfl, rfl, rfl, trivial⟩ trivial rfl rfl ?_
  refine Op10 (LT.not rfl) rfl rfl rfl ?_
  refine On ?_
  refine AWR.cond rfl (fun hc4 => ?_) (fun hc4 => ?_)
  ·refine Ws (Wr ?_)
   refine asg (Bv false) rfl ⟨rfl, rfl⟩ rfl rfl ?_
   refine On ?_
   refine AWR.ret (FPost.mk (.inr rfl) ⟨rfl, trivial⟩ trivial rfl ⟨PermP.sc, trivial⟩ trivial)
  ·refine AWR.skip (Ws (Wr ?_))
   refine asg (Bv true) rfl ⟨rfl, rfl⟩ rfl rfl ?_
   refine On ?_
   refine AWR.ret (FPost.mk (.inr rfl) ⟨rfl, trivial⟩ trivial rfl ⟨PermP.sc, trivial⟩ trivial)
theorem w_laws_markBarS (a : (List TBar)) (k : Int) : ∀ t, m_laws_markBarS a k = some t → Fw.Fn Try.prog 133 [(.c (lo 0 a.length)), (.c (iC k))] [(0, (pR 62 encTBar a))] (.s (.c (iC t.1))) [(0, (pR 62 encTBar t.2))] [0] [] := by
 refine Fw.Fn.of (P := Try.prog) (X := []) (pn := [0]) (rs := (fun (t : (Int × (List TBar))) => [(.c (iC t.1))])) (dfs := (fun (t : (Int × (List TBar))) => [(0, (pR 62 encTBar t.2))])) Try.func133 rfl Try.ntmps133 (Nat.le_of_ble_eq_true rfl) rfl ?_
 intro w0 U0 R0 g0
 unfold m_laws_markBarS
 refine Ws (Wr ?_)
 refine asg (Iv 0) rfl ⟨rfl, rfl⟩ rfl rfl ?_
 refine On (Ws (Ws (Wr ?_)))
 refine asg (Iv 0) rfl ⟨rfl, rfl⟩ rfl rfl ?_
 refine On (AWR.block ?_)
 refine AWR.loop1 (id := 0) (m_laws_markBarS_L1) (fun s1 => ([(0, (Cc (lo 0 s1.2.2.length))), (1, (Iv s1.1)), (5, (Iv s1.2.1))], [(0, (pR 62 encTBar s1.2.2))])) (fun b8 => ([(1, (Iv b8.1))], [(0, (pR 62 encTBar b8.2))])) ?_ (Ent.of ⟨rfl, rfl, rfl, trivial⟩ ⟨rfl, trivial⟩) rfl (fun b8 _ => ?_)
 ·intro s1
  unfold m_laws_markBarS_L1
  refine Ws (Ws (Wr ?_))
  refine mv (Iv s1.2.1) rfl rfl rfl rfl ?_
  refine mv (Cc (lo 0 s1.2.2.length)) rfl rfl rfl rfl ?_
  refine Op10 (LT.lenLoc rfl und24) rfl rfl rfl ?_
  refine Op20 (LT.lss rfl) rfl rfl rfl rfl ?_
  refine On ?_
  refine AWR.cond rfl (fun hc9 => ?_) (fun hc9 => ?_)
  ·refine AWR.skip (Ws (AWR.block (Ws (Wr ?_))))
   refine mv (Cc (lo 0 s1.2.2.length)) rfl rfl rfl rfl ?_
   refine mv (Iv s1.2.1) rfl rfl rfl rfl ?_
   refine mv (Iv s1.1) rfl rfl rfl rfl ?_
   refine Ob' fun x10 hx10 => ?_
   refine Op21 (LT.tindexLoc rfl rfl el24 hx10) rfl rfl rfl rfl rfl ?_
   refine Op10 (LT.fieldPl rfl fo62_0) rfl rfl rfl ?_
   refine Os21 (LT.tstore (k := 0) (v := (.c (iC s1.1))) (b' := (TBar.mk s1.1 x10.B)) rfl rfl (infS inf3) sz3 (by exact rfl) hx10 (by exact rfl) (by exact Nat.le_of_ble_eq_true rfl) (by exact rfl)) rfl rfl rfl rfl rfl ?_
   refine On (Ws ?_)
   refine en [(0, (Cc (lo 0 s1.2.2.length))), (1, (Iv s1.1)), (5, (Iv s1.2.1))] [(0, (pR 62 encTBar (s1.2.2.set s1.2.1.toNat (TBar.mk s1.1 x10.B))))] ⟨rfl, rfl, rfl, trivial⟩ ⟨rfl, trivial⟩ ?_
   refine Wr ?_
   refine mv (Iv s1.1) rfl rfl rfl rfl ?_
   refine Op20 (LT.add rfl) rfl ⟨rfl, rfl⟩ rfl rfl ?_
   refine asg (Iv (w64 (s1.1 + 1))) rfl rfl rfl rfl ?_
   refine On (Ws (Wr ?_))
   refine mv (Cc (lo 0 s1.2.2.length)) rfl rfl rfl rfl ?_
   refine mv (Iv s1.2.1) rfl rfl rfl rfl ?_
   refine mv (Iv (w64 (s1.1 + 1))) rfl rfl rfl rfl ?_
   refine Ob' fun x11 hx11 => ?_
   refine Op21 (LT.tindexLoc (show s1.2.2.length = (s1.2.2.set s1.2.1.toNat (TBar.mk s1.1 x10.B)).length by simp only [List.length_set]) rfl el24 hx11) rfl rfl rfl rfl rfl ?_
   refine Op10 (LT.fieldPl rfl fo62_1) rfl rfl rfl ?_
   refine Os21 (LT.tstore (k := 1) (v := (.c (iC (w64 (s1.1 + 1))))) (b' := (TBar.mk x11.A (w64 (s1.1 + 1)))) rfl rfl (infS inf3) sz3 (by exact rfl) hx11 (by exact rfl) (by exact Nat.le_of_ble_eq_true rfl) (by exact rfl)) rfl rfl rfl rfl rfl ?_
   refine On ?_
   refine en [(0, (Cc (lo 0 s1.2.2.length))), (1, (Iv (w64 (s1.1 + 1)))), (5, (Iv s1.2.1))] [(0, (pR 62 encTBar ((s1.2.2.set s1.2.1.toNat (TBar.mk s1.1 x10.B)).set s1.2.1.toNat (TBar.mk x11.A (w64 (s1.1 + 1))))))] ⟨rfl, rfl, rfl, trivial⟩ ⟨rfl, trivial⟩ ?_
   refine Wr ?_
   refine mv (Iv (w64 (s1.1 + 1))) rfl rfl rfl rfl ?_
   refine Op20 (LT.add rfl) rfl ⟨rfl, rfl⟩ rfl rfl ?_
   refine asg (Iv (w64 ((w64 (s1.1 + 1)) + 1))) rfl rfl rfl rfl ?_
   refine On (AWR.blk (Wr ?_))
   refine mv (Iv s1.2.1) rfl rfl rfl rfl ?_
   refine Op20 (LT.add rfl) rfl ⟨rfl, rfl⟩ rfl rfl ?_
   refine asg (Iv (w64 (s1.2.1 + 1))) rfl rfl rfl rfl ?_
   refine On ?_
   refine AWR.nil ⟨rfl, Ent.of ⟨(congrArg (fun l1 => (some (AV.s (.c (lo 0 l1))) : Option AV)) (show s1.2.2.length = ((s1.2.2.set s1.2.1.toNat (TBar.mk s1.1 x10.B)).set s1.2.1.toNat (TBar.mk x11.A (w64 (s1.1 + 1)))).length by simp only [List.length_set])), rfl, rfl, trivial⟩ ⟨rfl, trivial⟩⟩
  ·refine AWR.exit_end rfl ⟨rfl, Ent.of ⟨rfl, trivial⟩ ⟨rfl, trivial⟩⟩
 ·refine Ws (Wr ?_)
  refine mv (Iv b8.1) rfl rfl rfl rfl ?_
  refine asg (Iv b8.1) rfl rfl rfl rfl ?_
  refine On ?_
  refine AWR.ret (FPost.mk (.inr rfl) ⟨rfl, trivial⟩ ⟨rfl, trivial⟩ rfl ⟨PermP.sc, trivial⟩ ⟨PermO.prow' perm_encTBar, trivial⟩)
theorem w_laws_markGraph (a : TGraph) (k : Int) : ∀ t, m_laws_markGraph a k = some t → Fw.Fn Try.prog 39 [(.agg [(iC a.Points), (lo 0 a.Bars.length)]), (.c (iC k))] [(0, (pR 62 encTBar a.Bars))] (.s (.c (iC t.1))) [(0, (pR 62 encTBar t.2))] [0] [] := by
 refine Fw.Fn.of (P := Try.prog) (X := []) (pn := [0]) (rs := (fun (t : (Int × (List TBar))) => [(.c (iC t.1))])) (dfs := (fun (t : (Int × (List TBar))) => [(0, (pR 62 encTBar t.2))])) Try.func39 rfl Try.ntmps39 (Nat.le_of_ble_eq_true rfl) rfl ?_
 intro w0 U0 R0 g0
 unfold m_laws_markGraph
 refine Ws (Wr ?_)
 refine Os10 (LT.box (n := 21) (v := (.agg [(iC a.Points), (lo 0 a.Bars.length)])) rfl sz26 (by exact rfl)) rfl rfl rfl ?_
 refine asg (Iv 0) rfl ⟨rfl, rfl⟩ rfl rfl ?_
 refine On (Ws (Wr ?_))
 refine Op10 (LT.fieldPl rfl fo26_1) rfl rfl rfl ?_
 refine Op11 (LT.bload1 (c := (lo 0 a.Bars.length)) rfl ag24 (by exact rfl)) rfl rfl rfl rfl ?_
 refine mv (Iv k) rfl rfl rfl rfl ?_
 refine Ob' fun r1 hr1 => ?_
 refine AOR.step (@LT.callF Try.prog _ _ 133 _ _ [(.c (lo 0 a.Bars.length)), (.c (iC k))] _ _ [] _ _ _ _ ((show Fw.Fn Try.prog 133 [(.c (lo 0 a.Bars.length)), (.c (iC k))] [(0, (pR 62 encTBar a.Bars))] (Iv r1.1) [(0, (pR 62 encTBar r1.2))] [0] [] from Fw.Fn.ren [(0, 0)] (w_laws_markBarS a.Bars k r1 hr1) rfl)) rfl cb133 (.cons (.c (.same rfl)) (.cons (.c (.same rfl)) .nil)) rfl rfl ⟨rfl, trivial⟩) ⟨rfl, rfl, rfl, trivial⟩ ⟨rfl, trivial⟩ rfl rfl ?_
 refine asg (Iv r1.1) rfl rfl rfl rfl ?_
 refine On (Ws ?_)
 refine en [(1, (Iv r1.1))] [(0, (pR 62 encTBar r1.2))] ⟨rfl, trivial⟩ ⟨rfl, trivial⟩ ?_
 refine Wr ?_
 refine mv (Iv r1.1) rfl rfl rfl rfl ?_
 refine asg (Iv r1.1) rfl rfl rfl rfl ?_
 refine On ?_
 refine AWR.ret (FPost.mk (.inr rfl) ⟨rfl, trivial⟩ ⟨rfl, trivial⟩ rfl ⟨PermP.sc, trivial⟩ ⟨PermO.prow' perm_encTBar, trivial⟩)
theorem w_laws_markPlaceS (a : (List TPlace)) (k : Int) : ∀ t, m_laws_markPlaceS a k = some t → Fw.Fn Try.prog 134 [(.c (lo 0 a.length)), (.c (iC k))] [(0, (pR 94 encTPlace a))] (.s (.c (iC t.1))) [(0, (pR 94 encTPlace t.2))] [0] [] := by
 refine Fw.Fn.of (P := Try.prog) (X := []) (pn := [0]) (rs := (fun (t : (Int × (List TPlace))) => [(.c (iC t.1))])) (dfs := (fun (t : (Int × (List TPlace))) => [(0, (pR 94 encTPlace t.2))])) Try.func134 rfl Try.ntmps134 (Nat.le_of_ble_eq_true rfl) rfl ?_
 intro w0 U0 R0 g0
 unfold m_laws_markPlaceS
 refine Ws (Wr ?_)
 refine asg (Iv 0) rfl ⟨rfl, rfl⟩ rfl rfl ?_
 refine On (Ws (Ws (Wr ?_)))
 refine asg (Iv 0) rfl ⟨rfl, rfl⟩ rfl rfl ?_
 refine On (AWR.block ?_)
 refine AWR.loop1 (id := 0) (m_laws_markPlaceS_L1) (fun s1 => ([(0, (Cc (lo 0 s1.2.2.length))), (1, (Iv s1.1)), (5, (Iv s1.2.1))], [(0, (pR 94 encTPlace s1.2.2))])) (fun b8 => ([(1, (Iv b8.1))], [(0, (pR 94 encTPlace b8.2))])) ?_ (Ent.of ⟨rfl, rfl, rfl, trivial⟩ ⟨rfl, trivial⟩) rfl (fun b8 _ => ?_)
 ·intro s1
  unfold m_laws_markPlaceS_L1
  refine Ws (Ws (Wr ?_))
  refine mv (Iv s1.2.1) rfl rfl rfl rfl ?_
  refine mv (Cc (lo 0 s1.2.2.length)) rfl rfl rfl rfl ?_
  refine Op10 (LT.lenLoc rfl und27) rfl rfl rfl ?_
  refine Op20 (LT.lss rfl) rfl rfl rfl rfl ?_
  refine On ?_
  refine AWR.cond rfl (fun hc9 => ?_) (fun hc9 => ?_)
  ·refine AWR.skip (Ws (AWR.block (Ws (Wr ?_))))
   refine mv (Cc (lo 0 s1.2.2.length)) rfl rfl rfl rfl ?_
   refine mv (Iv s1.2.1) rfl rfl rfl rfl ?_
   refine mv (Iv s1.1) rfl rfl rfl rfl ?_
   refine Ob' fun x10 hx10 => ?_
   refine Op21 (LT.tindexLoc rfl rfl el27 hx10) rfl rfl rfl rfl rfl ?_
   refine Op10 (LT.fieldPl rfl fo94_0) rfl rfl rfl ?_
   refine Os21 (LT.tstore (k := 0) (v := (.c (iC s1.1))) (b' := (TPlace.mk s1.1 x10.Y)) rfl rfl (infS inf3) sz3 (by exact rfl) hx10 (by exact rfl) (by exact Nat.le_of_ble_eq_true rfl) (by exact rfl)) rfl rfl rfl rfl rfl ?_
   refine On (Ws ?_)
   refine en [(0, (Cc (lo 0 s1.2.2.length))), (1, (Iv s1.1)), (5, (Iv s1.2.1))] [(0, (pR 94 encTPlace (s1.2.2.set s1.2.1.toNat (TPlace.mk s1.1 x10.Y))))] ⟨rfl, rfl, rfl, trivial⟩ ⟨rfl, trivial⟩ ?_
   refine Wr ?_
   refine mv (Iv s1.1) rfl rfl rfl rfl ?_
   refine Op20 (LT.add rfl) rfl ⟨rfl, rfl⟩ rfl rfl ?_
   refine asg (Iv (w64 (s1.1 + 1))) rfl rfl rfl rfl ?_
   refine On (Ws (Wr ?_))
   refine mv (Cc (lo 0 s1.2.2.length)) rfl rfl rfl rfl ?_
   refine mv (Iv s1.2.1) rfl rfl rfl rfl ?_
   refine mv (Iv (w64 (s1.1 + 1))) rfl rfl rfl rfl ?_
   refine Ob' fun x11 hx11 => ?_
   refine Op21 (LT.tindexLoc (show s1.2.2.length = (s1.2.2.set s1.2.1.toNat (TPlace.mk s1.1 x10.Y)).length by simp only [List.length_set]) rfl el27 hx11) rfl rfl rfl rfl rfl ?_
   refine Op10 (LT.fieldPl rfl fo94_1) rfl rfl rfl ?_
   refine Os21 (LT.tstore (k := 1) (v := (.c (iC (w64 (s1.1 + 1))))) (b' := (TPlace.mk x11.X (w64 (s1.1 + 1)))) rfl rfl (infS inf3) sz3 (by exact rfl) hx11 (by exact rfl) (by exact Nat.le_of_ble_eq_true rfl) (by exact rfl)) rfl rfl rfl rfl rfl ?_
   refine On ?_
   refine en [(0, (Cc (lo 0 s1.2.2.length))), (1, (Iv (w64 (s1.1 + 1)))), (5, (Iv s1.2.1))] [(0, (pR 94 encTPlace ((s1.2.2.set s1.2.1.toNat (TPlace.mk s1.1 x10.Y)).set s1.2.1.toNat (TPlace.mk x11.X (w64 (s1.1 + 1))))))] ⟨rfl, rfl, rfl, trivial⟩ ⟨rfl, trivial⟩ ?_
   refine Wr ?_
   refine mv (Iv (w64 (s1.1 + 1))) rfl rfl rfl rfl ?_
   refine Op20 (LT.add rfl) rfl ⟨rfl, rfl⟩ rfl rfl ?_
   refine asg (Iv (w64 ((w64 (s1.1 + 1)) + 1))) rfl rfl rfl rfl ?_
   refine On (AWR.blk (Wr ?_))
   refine mv (Iv s1.2.1) rfl rfl rfl rfl ?_
   refine Op20 (LT.add rfl) rfl ⟨rfl, rfl⟩ rfl rfl ?_
   refine asg (Iv (w64 (s1.2.1 + 1))) rfl rfl rfl rfl ?_
   refine On ?_
   refine AWR.nil ⟨rfl, Ent.of ⟨(congrArg (fun l1 => (some (AV.s (.c (lo 0 l1))) : Option AV)) (show s1.2.2.length = ((s1.2.2.set s1.2.1.toNat (TPlace.mk s1.1 x10.Y)).set s1.2.1.toNat (TPlace.mk x11.X (w64 (s1.1 + 1)))).length by simp only [List.length_set])), rfl, rfl, trivial⟩ ⟨rfl, trivial⟩⟩
  ·refine AWR.exit_end rfl ⟨rfl, Ent.of ⟨rfl, trivial⟩ ⟨rfl, trivial⟩⟩
 ·refine Ws (Wr ?_)
  refine mv (Iv b8.1) rfl rfl rfl rfl ?_
  refine asg (Iv b8.1) rfl rfl rfl rfl ?_
  refine On ?_
  refine AWR.ret (FPost.mk (.inr rfl) ⟨rfl, trivial⟩ ⟨rfl, trivial⟩ rfl ⟨PermP.sc, trivial⟩ ⟨PermO.prow' perm_encTPlace, trivial⟩)
theorem w_laws_markFramework (a : TFramework) (k : Int) : ∀ t, m_laws_markFramework a k = some t → Fw.Fn Try.prog 40 [(.agg [(iC a.Graph.Points), (lo 0 a.Graph.Bars.length), (lo 1 a.Places.length)]), (.c (iC k))] [(0, (pR 62 encTBar a.Graph.Bars)), (1, (pR 94 encTPlace a.Places))] (.s (.c (iC t.1))) [(0, (pR 62 encTBar t.2.1)), (1, (pR 94 encTPlace t.2.2))] [0, 1] [] := by
 refine Fw.Fn.of (P := Try.prog) (X := []) (pn := [0, 1]) (rs := (fun (t : (Int × (List TBar) × (List TPlace))) => [(.c (iC t.1))])) (dfs := (fun (t : (Int × (List TBar) × (List TPlace))) => [(0, (pR 62 encTBar t.2.1)), (1, (pR 94 encTPlace t.2.2))])) Try.func40 rfl Try.ntmps40 (Nat.le_of_ble_eq_true rfl) rfl ?_
 intro w0 U0 R0 g0
 unfold m_laws_markFramework
 refine Ws (Wr ?_)
 refine Os10 (LT.box (n := 21) (v := (.agg [(iC a.Graph.Points), (lo 0 a.Graph.Bars.length), (lo 1 a.Places.length)])) rfl sz29 (by exact rfl)) rfl rfl rfl ?_
 refine asg (Iv 0) rfl ⟨rfl, rfl⟩ rfl rfl ?_
 refine On (Ws (Wr ?_))
 refine Op10 (LT.fieldPl rfl fo29_0) rfl rfl rfl ?_
 refine Op11 (LT.bloadN (out := [(iC a.Graph.Points), (lo 0 a.Graph.Bars.length)]) rfl ag26 (infS inf26) sz26 (by exact rfl) (by exact rfl)) rfl rfl rfl rfl ?_
 refine mv (Iv k) rfl rfl rfl rfl ?_
 refine Ob' fun r1 hr1 => ?_
 refine AOR.step (@LT.callF Try.prog _ _ 39 _ _ [(.agg [(iC a.Graph.Points), (lo 0 a.Graph.Bars.length)]), (.c (iC k))] _ _ [] _ _ _ _ ((show Fw.Fn Try.prog 39 [(.agg [(iC a.Graph.Points), (lo 0 a.Graph.Bars.length)]), (.c (iC k))] [(0, (pR 62 encTBar a.Graph.Bars))] (Iv r1.1) [(0, (pR 62 encTBar r1.2))] [0] [] from Fw.Fn.ren [(0, 0)] (w_laws_markGraph a.Graph k r1 hr1) rfl)) rfl cb39 (.cons (.agg (.cons (.same rfl) (.cons (.same rfl) .nil))) (.cons (.c (.same rfl)) .nil)) rfl rfl ⟨rfl, trivial⟩) ⟨rfl, rfl, rfl, trivial⟩ ⟨rfl, trivial⟩ rfl rfl ?_
 refine asg (Iv r1.1) rfl rfl rfl rfl ?_
 refine On (Ws ?_)
 refine en [(1, (Iv r1.1)), (2, (Cc (.pl 21 0)))] [(0, (pR 62 encTBar r1.2)), (1, (pR 94 encTPlace a.Places)), (21, (.row 29 [[(iC a.Graph.Points), (lo 0 a.Graph.Bars.length), (lo 1 a.Places.length)]]))] ⟨rfl, rfl, trivial⟩ ⟨rfl, rfl, rfl, trivial⟩ ?_
 refine Wr ?_
 refine Op10 (LT.fieldPl rfl fo29_1) rfl rfl rfl ?_
 refine Op11 (LT.bload1 (c := (lo 1 a.Places.length)) rfl ag27 (by exact rfl)) rfl rfl rfl rfl ?_
 refine mv (Iv r1.1) rfl rfl rfl rfl ?_
 refine Ob' fun r2 hr2 => ?_
 refine AOR.step (@LT.callF Try.prog _ _ 134 _ _ [(.c (lo 1 a.Places.length)), (.c (iC r1.1))] _ _ [] _ _ _ _ ((show Fw.Fn Try.prog 134 [(.c (lo 1 a.Places.length)), (.c (iC r1.1))] [(1, (pR 94 encTPlace a.Places))] (Iv r2.1) [(1, (pR 94 encTPlace r2.2))] [1] [] from Fw.Fn.ren [(0, 1)] (w_laws_markPlaceS a.Places r1.1 r2 hr2) rfl)) rfl cb134 (.cons (.c (.same rfl)) (.cons (.c (.same rfl)) .nil)) rfl rfl ⟨rfl, trivial⟩) ⟨rfl, rfl, rfl, trivial⟩ ⟨rfl, trivial⟩ rfl rfl ?_
 refine asg (Iv r2.1) rfl rfl rfl rfl ?_
 refine On (Ws (Wr ?_))
 refine mv (Iv r2.1) rfl rfl rfl rfl ?_
 refine asg (Iv r2.1) rfl rfl rfl rfl ?_
 refine On ?_
 refine AWR.ret (FPost.mk (.inr rfl) ⟨rfl, trivial⟩ ⟨rfl, rfl, trivial⟩ rfl ⟨PermP.sc, trivial⟩ ⟨PermO.prow' perm_encTBar, PermO.prow' perm_encTPlace, trivial⟩)
end Go.Proofs.Ytghofbijdnenoaa
end
section
set_option linter.unusedVariables false
set_option linter.unusedSimpArgs false
set_option linter.unnecessarySimpa false
set_option maxRecDepth 100000
set_option maxHeartbeats 8000000
open Go Go.Fw
namespace Go.Proofs.Ytghofbijdnenoaa
theorem w_spec_l2After (a : TBar) (b : TBar) : ∀ t, m_spec_l2After a b = some t → Fw.Fn Try.prog 207 [(.agg [(iC a.A), (iC a.B)]), (.agg [(iC b.A), (iC b.B)])] [] (.s (.c (bC t))) [] [] [] := by
 refine Fw.Fn.of (P := Try.prog) (X := []) (pn := []) (rs := (fun (t : Bool) => [(.c (bC t))])) (dfs := (fun (t : Bool) => [])) Try.func207 rfl Try.ntmps207 (Nat.le_of_ble_eq_true rfl) rfl ?_
 intro w0 U0 R0 g0
 unfold m_spec_l2After
 refine Ws (Wr ?_)
 refine Os10 (LT.box (n := 21) (v := (.agg [(iC a.A), (iC a.B)])) rfl sz62 (by exact rfl)) rfl rfl rfl ?_
 refine Os10 (LT.box (n := 22) (v := (.agg [(iC b.A), (iC b.B)])) rfl sz62 (by exact rfl)) rfl rfl rfl ?_
 refine asg (Bv false) rfl ⟨rfl, rfl⟩ rfl rfl ?_
 refine On (Ws ?_)
 refine AWR.joinK (fun j3 => ([(4, (Bv j3))], [])) ?_ (fun j3 _ => ?_)
 ·refine Wr ?_
  refine Op10 (LT.fieldPl rfl fo62_0) rfl rfl rfl ?_
  refine Op11 (LT.bload1 (c := (iC a.A)) rfl ag3 (by exact rfl)) rfl rfl rfl rfl ?_
  refine Op10 (LT.fieldPl rfl fo62_0) rfl rfl rfl ?_
  refine Op11 (LT.bload1 (c := (iC b.A)) rfl ag3 (by exact rfl)) rfl rfl rfl rfl ?_
  refine Op20 (LT.lss rfl) rfl rfl rfl rfl ?_
  refine mv (Bv (decide (a.A < b.A))) rfl rfl rfl rfl ?_
  refine AOR.split (fun hb4 => ?_) (fun hb4 => ?_)
  ·refine Ok rfl rfl rfl (by rw [hb4]; rfl) rfl ?_
   refine Ok rfl rfl rfl (by rw [hb4]; rfl) rfl ?_
   refine Ok rfl rfl rfl (by rw [hb4]; rfl) rfl ?_
   refine Ok rfl rfl rfl (by rw [hb4]; rfl) rfl ?_
   refine Ok rfl rfl rfl (by rw [hb4]; rfl) rfl ?_
   refine Ok rfl rfl rfl (by rw [hb4]; rfl) rfl ?_
   refine Oj rfl rfl rfl rfl ?_
   refine Oj rfl rfl rfl rfl ?_
   refine Oj rfl rfl rfl rfl ?_
   refine Oj rfl rfl rfl rfl ?_
   refine Oj rfl rfl rfl rfl ?_
   refine Ok rfl rfl rfl (by rw [hb4]; rfl) rfl ?_
   refine Op20 (LT.pickT (v := (Bv true)) rfl hb4) rfl ⟨rfl, rfl⟩ rfl rfl ?_
   refine asg (Bv true) rfl rfl rfl rfl ?_
   refine On ?_
   refine AWR.nil ⟨rfl, Ent.of ⟨rfl, trivial⟩ trivial⟩
  ·refine Op10 (LT.fieldPl rfl fo62_0) rfl ⟨_, rfl, .inl ⟨_, rfl, (by rw [hb4]; rfl)⟩⟩ rfl ?_
   refine Op11 (LT.bload1 (c := (iC a.A)) rfl ag3 (by exact rfl)) rfl rfl ⟨_, rfl, .inl ⟨_, rfl, (by rw [hb4]; rfl)⟩⟩ rfl ?_
   refine Op10 (LT.fieldPl rfl fo62_0) rfl ⟨_, rfl, .inl ⟨_, rfl, (by rw [hb4]; rfl)⟩⟩ rfl ?_
   refine Op11 (LT.bload1 (c := (iC b.A)) rfl ag3 (by exact rfl)) rfl rfl ⟨_, rfl, .inl ⟨_, rfl, (by rw [hb4]; rfl)⟩⟩ rfl ?_
   refine Op20 (LT.eql rfl) rfl rfl ⟨_, rfl, .inl ⟨_, rfl, (by rw [hb4]; rfl)⟩⟩ rfl ?_
   refine mv (Bv (a.A == b.A)) rfl rfl ⟨_, rfl, .inl ⟨_, rfl, (by rw [hb4]; rfl)⟩⟩ rfl ?_
   refine AOR.split (fun hb5 => ?_) (fun hb5 => ?_)
   ·refine Op10 (LT.fieldPl rfl fo62_1) rfl ⟨_, rfl, .inl ⟨_, rfl, (by rw [hb5]; rfl)⟩⟩ rfl ?_
    refine Op11 (LT.bload1 (c := (iC a.B)) rfl ag3 (by exact rfl)) rfl rfl ⟨_, rfl, .inl ⟨_, rfl, (by rw [hb5]; rfl)⟩⟩ rfl ?_
    refine Op10 (LT.fieldPl rfl fo62_1) rfl ⟨_, rfl, .inl ⟨_, rfl, (by rw [hb5]; rfl)⟩⟩ rfl ?_
    refine Op11 (LT.bload1 (c := (iC b.B)) rfl ag3 (by exact rfl)) rfl rfl ⟨_, rfl, .inl ⟨_, rfl, (by rw [hb5]; rfl)⟩⟩ rfl ?_
    refine Op20 (LT.leq rfl) rfl rfl ⟨_, rfl, .inl ⟨_, rfl, (by rw [hb5]; rfl)⟩⟩ rfl ?_
    refine Op20 (LT.pickT (v := (Bv (decide (a.B ≤ b.B)))) rfl hb5) rfl rfl ⟨_, rfl, .inl ⟨_, rfl, (by rw [hb4]; rfl)⟩⟩ rfl ?_
    refine Op20 (LT.pickF (v := (Bv (decide (a.B ≤ b.B)))) rfl hb4) rfl rfl rfl rfl ?_
    refine asg (Bv (decide (a.B ≤ b.B))) rfl rfl rfl rfl ?_
    refine On ?_
    refine AWR.nil ⟨rfl, Ent.of ⟨rfl, trivial⟩ trivial⟩
   ·refine Ok rfl rfl rfl (by rw [hb5]; rfl) rfl ?_
    refine Ok rfl rfl rfl (by rw [hb5]; rfl) rfl ?_
    refine Ok rfl rfl rfl (by rw [hb5]; rfl) rfl ?_
    refine Ok rfl rfl rfl (by rw [hb5]; rfl) rfl ?_
    refine Ok rfl rfl rfl (by rw [hb5]; rfl) rfl ?_
    refine Op20 (LT.pickF (v := (Bv false)) rfl hb5) rfl ⟨rfl, rfl⟩ ⟨_, rfl, .inl ⟨_, rfl, (by rw [hb4]; rfl)⟩⟩ rfl ?_
    refine Op20 (LT.pickF (v := (Bv false)) rfl hb4) rfl rfl rfl rfl ?_
    refine asg (Bv false) rfl rfl rfl rfl ?_
    refine On ?_
    refine AWR.nil ⟨rfl, Ent.of ⟨rfl, trivial⟩ trivial⟩
 ·refine AWR.ret (FPost.mk (.inr rfl) ⟨rfl, trivial⟩ trivial rfl ⟨PermP.sc, trivial⟩ trivial)
theorem w_spec_l1In (x : Int) (low : Int) (high : Int) : ∀ t, m_spec_l1In x low high = some t → Fw.Fn Try.prog 110 [(.c (iC x)), (.c (iC low)), (.c (iC high))] [] (.s (.c (bC t))) [] [] [] := by
 refine Fw.Fn.of (P := Try.prog) (X := []) (pn := []) (rs := (fun (t : Bool) => [(.c (bC t))])) (dfs := (fun (t : Bool) => [])) Try.func110 rfl Try.ntmps110 (Nat.le_of_ble_eq_true rfl) rfl ?_
 intro w0 U0 R0 g0
 unfold m_spec_l1In
 refine Ws (Wr ?_)
 refine asg (Bv false) rfl ⟨rfl, rfl⟩ rfl rfl ?_
 refine On (Ws ?_)
 refine AWR.joinK (fun j2 => ([(6, (Bv j2))], [])) ?_ (fun j2 _ => ?_)
 ·refine Wr ?_
  refine mv (Iv x) rfl rfl rfl rfl ?_
  refine mv (Iv low) rfl rfl rfl rfl ?_
  refine Op20 (LT.geq rfl) rfl rfl rfl rfl ?_
  refine mv (Bv (decide (low ≤ x))) rfl rfl rfl rfl ?_
  refine AOR.split (fun hb3 => ?_) (fun hb3 => ?_)
  ·refine mv (Iv x) rfl rfl ⟨_, rfl, .inl ⟨_, rfl, (by rw [hb3]; rfl)⟩⟩ rfl ?_
   refine mv (Iv high) rfl rfl ⟨_, rfl, .inl ⟨_, rfl, (by rw [hb3]; rfl)⟩⟩ rfl ?_
   refine Op20 (LT.leq rfl) rfl rfl ⟨_, rfl, .inl ⟨_, rfl, (by rw [hb3]; rfl)⟩⟩ rfl ?_
   refine Op20 (LT.pickT (v := (Bv (decide (x ≤ high)))) rfl hb3) rfl rfl rfl rfl ?_
   refine asg (Bv (decide (x ≤ high))) rfl rfl rfl rfl ?_
   refine On ?_
   refine AWR.nil ⟨rfl, Ent.of ⟨rfl, trivial⟩ trivial⟩
  ·refine Ok rfl rfl rfl (by rw [hb3]; rfl) rfl ?_
   refine Ok rfl rfl rfl (by rw [hb3]; rfl) rfl ?_
   refine Ok rfl rfl rfl (by rw [hb3]; rfl) rfl ?_
   refine Op20 (LT.pickF (v := (Bv false)) rfl hb3) rfl ⟨rfl, rfl⟩ rfl rfl ?_
   refine asg (Bv false) rfl rfl rfl rfl ?_
   refine On ?_
   refine AWR.nil ⟨rfl, Ent.of ⟨rfl, trivial⟩ trivial⟩
 ·refine AWR.ret (FPost.mk (.inr rfl) ⟨rfl, trivial⟩ trivial rfl ⟨PermP.sc, trivial⟩ trivial)
theorem w_spec_IsGraph (g : TGraph) : ∀ t, m_spec_IsGraph g = some t → Fw.Fn Try.prog 109 [(.agg [(iC g.Points), (xF encTBar g.Bars)])] [] (.s (.c (bC t))) [] [] [] := by
 refine Fw.Fn.of (P := Try.prog) (X := []) (pn := []) (rs := (fun (t : Bool) => [(.c (bC t))])) (dfs := (fun (t : Bool) => [])) Try.func109 rfl Try.ntmps109 (Nat.le_of_ble_eq_true rfl) rfl ?_
 intro w0 U0 R0 g0
 unfold m_spec_IsGraph
 refine Ws (Wr ?_)
 refine Os10 (LT.box (n := 21) (v := (.agg [(iC g.Points), (xF encTBar g.Bars)])) rfl sz26 (by exact rfl)) rfl rfl rfl ?_
 refine asg (Bv false) rfl ⟨rfl, rfl⟩ rfl rfl ?_
 refine On (Ws (Ws ?_))
 refine AWR.joinK (fun j3 => ([(1, (Cc (.pl 21 0))), (14, (Bv j3))], [(21, (.row 26 [[(iC g.Points), (xF encTBar g.Bars)]]))])) ?_ (fun j3 _ => ?_)
 ·refine Wr ?_
  refine Op10 (LT.fieldPl rfl fo26_0) rfl rfl rfl ?_
  refine Op11 (LT.bload1 (c := (iC g.Points)) rfl ag3 (by exact rfl)) rfl rfl rfl rfl ?_
  refine Ob' fun r4 hr4 => ?_
  refine AOR.pure (@LT.callF Try.prog _ _ 110 _ _ [(.c (iC g.Points)), (.c (iC 1)), (.c (iC 8))] _ _ [] _ _ _ _ (w_spec_l1In g.Points 1 8 r4 hr4) rfl cb110 (.cons (.c (.same rfl)) (.cons (.c (.same rfl)) (.cons (.c (.same rfl)) .nil))) rfl rfl trivial) ⟨rfl, rfl, ⟨rfl, rfl⟩, ⟨rfl, rfl⟩, trivial⟩ trivial rfl rfl ?_
  refine Op10 (LT.not rfl) rfl rfl rfl ?_
  refine mv (Bv (!r4)) rfl rfl rfl rfl ?_
  refine AOR.split (fun hb5 => ?_) (fun hb5 => ?_)
  ·refine Ok rfl rfl rfl (by rw [hb5]; rfl) rfl ?_
   refine Ok rfl rfl rfl (by rw [hb5]; rfl) rfl ?_
   refine Ok rfl rfl rfl (by rw [hb5]; rfl) rfl ?_
   refine Ok rfl rfl rfl (by rw [hb5]; rfl) rfl ?_
   refine Op20 (LT.pickT (v := (Bv true)) rfl hb5) rfl ⟨rfl, rfl⟩ rfl rfl ?_
   refine On ?_
   refine AWR.nil ⟨rfl, Ent.of ⟨rfl, rfl, trivial⟩ ⟨rfl, trivial⟩⟩
  ·refine Op10 (LT.fieldPl rfl fo26_1) rfl ⟨_, rfl, .inl ⟨_, rfl, (by rw [hb5]; rfl)⟩⟩ rfl ?_
   refine Op11 (LT.bload1 (c := (xF encTBar g.Bars)) rfl ag24 (by exact rfl)) rfl rfl ⟨_, rfl, .inl ⟨_, rfl, (by rw [hb5]; rfl)⟩⟩ rfl ?_
   refine Op10 (LT.tlenRO rfl und24) rfl ⟨_, rfl, .inl ⟨_, rfl, (by rw [hb5]; rfl)⟩⟩ rfl ?_
   refine Op20 (LT.gtr rfl) rfl ⟨rfl, rfl⟩ ⟨_, rfl, .inl ⟨_, rfl, (by rw [hb5]; rfl)⟩⟩ rfl ?_
   refine Op20 (LT.pickF (v := (Bv (decide (24 < (g.Bars.length : Int))))) rfl hb5) rfl rfl rfl rfl ?_
   refine On ?_
   refine AWR.nil ⟨rfl, Ent.of ⟨rfl, rfl, trivial⟩ ⟨rfl, trivial⟩⟩
 ·refine AWR.cond rfl (fun hc6 => ?_) (fun hc6 => ?_)
  ·refine Ws (Wr ?_)
   refine asg (Bv false) rfl ⟨rfl, rfl⟩ rfl rfl ?_
   refine On ?_
   refine AWR.ret (FPost.mk (.inr rfl) ⟨rfl, trivial⟩ trivial rfl ⟨PermP.sc, trivial⟩ trivial)
  ·refine AWR.skip (Ws (Ws (Wr ?_)))
   refine asg (Iv 0) rfl ⟨rfl, rfl⟩ rfl rfl ?_
   refine On (AWR.block ?_)
   refine AWR.loopR (id := 0) (m_spec_IsGraph_L1 g) (fun s7 => ([(1, (Cc (.pl 21 0))), (3, (Iv s7))], [(21, (.row 26 [[(iC g.Points), (xF encTBar g.Bars)]]))])) (fun b40 => ([], [])) (FPost Try.prog Try.f109.results.toList [] [] (fun (t : Bool) => [(.c (bC t))]) (fun (t : Bool) => [])) ?_ (Ent.of ⟨rfl, rfl, trivial⟩ ⟨rfl, trivial⟩) rfl (fun b40 _ => ?_) (by intro r t σ m ht hk; injection ht with ht; subst ht; exact hk)
   ·intro s7
    unfold m_spec_IsGraph_L1
    refine Ws (Ws (Wr ?_))
    refine mv (Iv s7) rfl rfl rfl rfl ?_
    refine Op10 (LT.fieldPl rfl fo26_1) rfl rfl rfl ?_
    refine Op11 (LT.bload1 (c := (xF encTBar g.Bars)) rfl ag24 (by exact rfl)) rfl rfl rfl rfl ?_
    refine Op10 (LT.tlenRO rfl und24) rfl rfl rfl ?_
    refine Op20 (LT.lss rfl) rfl rfl rfl rfl ?_
    refine On ?_
    refine AWR.cond rfl (fun hc41 => ?_) (fun hc41 => ?_)
    ·refine AWR.skip (Ws (AWR.block (Ws (Wr ?_))))
     refine Op10 (LT.fieldPl rfl fo26_1) rfl rfl rfl ?_
     refine Op11 (LT.bload1 (c := (xF encTBar g.Bars)) rfl ag24 (by exact rfl)) rfl rfl rfl rfl ?_
     refine mv (Iv s7) rfl rfl rfl rfl ?_
     refine Ob' fun x42 hx42 => ?_
     refine Op20 (LT.tindexRO (enc := encTBar) rfl el24 hx42 sz62) rfl rfl rfl rfl ?_
     refine Op10 (LT.loadPxN rfl ag62 (infS inf62) (by exact sz62.symm)) rfl rfl rfl ?_
     refine Os00 (LT.alloc (n := 23) (cells := [(iC 0), (iC 0)]) rfl ti62 rfl rfl rfl) rfl rfl ?_
     refine Os21 (LT.bstore (v := (.agg [(iC x42.A), (iC x42.B)])) (out := [(iC x42.A), (iC x42.B)]) rfl rfl (infS inf62) sz62 (by exact rfl) (by exact Nat.le_of_ble_eq_true rfl) (by exact rfl)) rfl rfl rfl rfl rfl ?_
     refine On (Ws ?_)
     refine AWR.joinK (fun j49 => ([(1, (Cc (.pl 21 0))), (3, (Iv s7)), (58, (Bv j49))], [(21, (.row 26 [[(iC g.Points), (xF encTBar g.Bars)]]))])) ?_ (fun j49 _ => ?_)
     ·refine en [(1, (Cc (.pl 21 0))), (3, (Iv s7)), (4, (Cc (.pl 23 0)))] [(21, (.row 26 [[(iC g.Points), (xF encTBar g.Bars)]])), (23, (.row 62 [[(iC x42.A), (iC x42.B)]]))] ⟨rfl, rfl, rfl, trivial⟩ ⟨rfl, rfl, trivial⟩ ?_
      refine AWR.draw mixed ?_
      refine Dp10 (LT.fieldPl rfl fo62_0) rfl rfl rfl ?_
      refine Dp11 (LT.bload1 (c := (iC x42.A)) rfl ag3 (by exact rfl)) rfl rfl rfl rfl ?_
      refine Dp20 (LT.lss rfl) rfl ⟨rfl, rfl⟩ rfl rfl ?_
      refine Dp10 (LT.move (v := (Bv (decide (x42.A < 0)))) rfl) rfl rfl rfl ?_
      refine AOD.split (fun hb50 => ?_) (fun hb50 => ?_)
      ·refine AOD.skip ⟨_, rfl, .inl ⟨_, rfl, (by rw [hb50]; rfl)⟩⟩ rfl ?_
       refine AOD.skip ⟨_, rfl, .inl ⟨_, rfl, (by rw [hb50]; rfl)⟩⟩ rfl ?_
       refine AOD.skip ⟨_, rfl, .inl ⟨_, rfl, (by rw [hb50]; rfl)⟩⟩ rfl ?_
       refine AOD.skip ⟨_, rfl, .inl ⟨_, rfl, (by rw [hb50]; rfl)⟩⟩ rfl ?_
       refine AOD.skip ⟨_, rfl, .inl ⟨_, rfl, (by rw [hb50]; rfl)⟩⟩ rfl ?_
       refine Dp20 (LT.pickT (v := (Bv true)) rfl hb50) rfl ⟨rfl, rfl⟩ rfl rfl ?_
       refine Dp10 (LT.move (v := (Bv true)) rfl) rfl rfl rfl ?_
       refine AOD.skip ⟨_, rfl, .inl ⟨_, rfl, rfl⟩⟩ rfl ?_
       refine AOD.skip ⟨_, rfl, .inl ⟨_, rfl, rfl⟩⟩ rfl ?_
       refine AOD.skip ⟨_, rfl, .inl ⟨_, rfl, rfl⟩⟩ rfl ?_
       refine AOD.skip ⟨_, rfl, .inl ⟨_, rfl, rfl⟩⟩ rfl ?_
       refine AOD.skip ⟨_, rfl, .inl ⟨_, rfl, rfl⟩⟩ rfl ?_
       refine Dp20 (LT.pickT (v := (Bv true)) rfl rfl) rfl ⟨rfl, rfl⟩ rfl rfl ?_
       refine Dp10 (LT.move (v := (Bv true)) rfl) rfl rfl rfl ?_
       refine AOD.skip ⟨_, rfl, .inl ⟨_, rfl, rfl⟩⟩ rfl ?_
       refine AOD.skip ⟨_, rfl, .inl ⟨_, rfl, rfl⟩⟩ rfl ?_
       refine AOD.skip ⟨_, rfl, .inl ⟨_, rfl, rfl⟩⟩ rfl ?_
       refine AOD.skip ⟨_, rfl, .inr ⟨rfl, rfl⟩⟩ rfl ?_
       refine AOD.skip ⟨_, rfl, .inr ⟨rfl, rfl⟩⟩ rfl ?_
       refine AOD.skip ⟨_, rfl, .inr ⟨rfl, rfl⟩⟩ rfl ?_
       refine AOD.skip ⟨_, rfl, .inr ⟨rfl, rfl⟩⟩ rfl ?_
       refine AOD.skip ⟨_, rfl, .inr ⟨rfl, rfl⟩⟩ rfl ?_
       refine AOD.skip ⟨_, rfl, .inr ⟨rfl, rfl⟩⟩ rfl ?_
       refine AOD.skip ⟨_, rfl, .inr ⟨rfl, rfl⟩⟩ rfl ?_
       refine AOD.skip ⟨_, rfl, .inr ⟨rfl, rfl⟩⟩ rfl ?_
       refine AOD.skip ⟨_, rfl, .inr ⟨rfl, rfl⟩⟩ rfl ?_
       refine AOD.skip ⟨_, rfl, .inl ⟨_, rfl, rfl⟩⟩ rfl ?_
       refine Dp20 (LT.pickT (v := (Bv true)) rfl rfl) rfl ⟨rfl, rfl⟩ rfl rfl ?_
       refine AOD.nil (by kernel_rfl) ?_
       refine AWR.nil ⟨rfl, Ent.of ⟨rfl, rfl, rfl, trivial⟩ ⟨rfl, trivial⟩⟩
      ·refine Dp10 (LT.fieldPl rfl fo62_0) rfl ⟨_, rfl, .inl ⟨_, rfl, (by rw [hb50]; rfl)⟩⟩ rfl ?_
       refine Dp11 (LT.bload1 (c := (iC x42.A)) rfl ag3 (by exact rfl)) rfl rfl ⟨_, rfl, .inl ⟨_, rfl, (by rw [hb50]; rfl)⟩⟩ rfl ?_
       refine Dp10 (LT.fieldPl rfl fo62_1) rfl ⟨_, rfl, .inl ⟨_, rfl, (by rw [hb50]; rfl)⟩⟩ rfl ?_
       refine Dp11 (LT.bload1 (c := (iC x42.B)) rfl ag3 (by exact rfl)) rfl rfl ⟨_, rfl, .inl ⟨_, rfl, (by rw [hb50]; rfl)⟩⟩ rfl ?_
       refine Dp20 (LT.geq rfl) rfl rfl ⟨_, rfl, .inl ⟨_, rfl, (by rw [hb50]; rfl)⟩⟩ rfl ?_
       refine Dp20 (LT.pickF (v := (Bv (decide (x42.B ≤ x42.A)))) rfl hb50) rfl rfl rfl rfl ?_
       refine Dp10 (LT.move (v := (Bv (decide (x42.B ≤ x42.A)))) rfl) rfl rfl rfl ?_
       refine AOD.split (fun hb51 => ?_) (fun hb51 => ?_)
       ·refine AOD.skip ⟨_, rfl, .inl ⟨_, rfl, (by rw [hb51]; rfl)⟩⟩ rfl ?_
        refine AOD.skip ⟨_, rfl, .inl ⟨_, rfl, (by rw [hb51]; rfl)⟩⟩ rfl ?_
        refine AOD.skip ⟨_, rfl, .inl ⟨_, rfl, (by rw [hb51]; rfl)⟩⟩ rfl ?_
        refine AOD.skip ⟨_, rfl, .inl ⟨_, rfl, (by rw [hb51]; rfl)⟩⟩ rfl ?_
        refine AOD.skip ⟨_, rfl, .inl ⟨_, rfl, (by rw [hb51]; rfl)⟩⟩ rfl ?_
        refine Dp20 (LT.pickT (v := (Bv true)) rfl hb51) rfl ⟨rfl, rfl⟩ rfl rfl ?_
        refine Dp10 (LT.move (v := (Bv true)) rfl) rfl rfl rfl ?_
        refine AOD.skip ⟨_, rfl, .inl ⟨_, rfl, rfl⟩⟩ rfl ?_
        refine AOD.skip ⟨_, rfl, .inl ⟨_, rfl, rfl⟩⟩ rfl ?_
        refine AOD.skip ⟨_, rfl, .inl ⟨_, rfl, rfl⟩⟩ rfl ?_
        refine AOD.skip ⟨_, rfl, .inr ⟨rfl, rfl⟩⟩ rfl ?_
        refine AOD.skip ⟨_, rfl, .inr ⟨rfl, rfl⟩⟩ rfl ?_
        refine AOD.skip ⟨_, rfl, .inr ⟨rfl, rfl⟩⟩ rfl ?_
        refine AOD.skip ⟨_, rfl, .inr ⟨rfl, rfl⟩⟩ rfl ?_
        refine AOD.skip ⟨_, rfl, .inr ⟨rfl, rfl⟩⟩ rfl ?_
        refine AOD.skip ⟨_, rfl, .inr ⟨rfl, rfl⟩⟩ rfl ?_
        refine AOD.skip ⟨_, rfl, .inr ⟨rfl, rfl⟩⟩ rfl ?_
        refine AOD.skip ⟨_, rfl, .inr ⟨rfl, rfl⟩⟩ rfl ?_
        refine AOD.skip ⟨_, rfl, .inr ⟨rfl, rfl⟩⟩ rfl ?_
        refine AOD.skip ⟨_, rfl, .inl ⟨_, rfl, rfl⟩⟩ rfl ?_
        refine Dp20 (LT.pickT (v := (Bv true)) rfl rfl) rfl ⟨rfl, rfl⟩ rfl rfl ?_
        refine AOD.nil (by kernel_rfl) ?_
        refine AWR.nil ⟨rfl, Ent.of ⟨rfl, rfl, rfl, trivial⟩ ⟨rfl, trivial⟩⟩
       ·refine Dp10 (LT.fieldPl rfl fo62_1) rfl ⟨_, rfl, .inl ⟨_, rfl, (by rw [hb51]; rfl)⟩⟩ rfl ?_
        refine Dp11 (LT.bload1 (c := (iC x42.B)) rfl ag3 (by exact rfl)) rfl rfl ⟨_, rfl, .inl ⟨_, rfl, (by rw [hb51]; rfl)⟩⟩ rfl ?_
        refine Dp10 (LT.fieldPl rfl fo26_0) rfl ⟨_, rfl, .inl ⟨_, rfl, (by rw [hb51]; rfl)⟩⟩ rfl ?_
        refine Dp11 (LT.bload1 (c := (iC g.Points)) rfl ag3 (by exact rfl)) rfl rfl ⟨_, rfl, .inl ⟨_, rfl, (by rw [hb51]; rfl)⟩⟩ rfl ?_
        refine Dp20 (LT.geq rfl) rfl rfl ⟨_, rfl, .inl ⟨_, rfl, (by rw [hb51]; rfl)⟩⟩ rfl ?_
        refine Dp20 (LT.pickF (v := (Bv (decide (g.Points ≤ x42.B)))) rfl hb51) rfl rfl rfl rfl ?_
        refine Dp10 (LT.move (v := (Bv (decide (g.Points ≤ x42.B)))) rfl) rfl rfl rfl ?_
        refine AOD.split (fun hb52 => ?_) (fun hb52 => ?_)
        ·refine AOD.skip ⟨_, rfl, .inl ⟨_, rfl, (by rw [hb52]; rfl)⟩⟩ rfl ?_
         refine AOD.skip ⟨_, rfl, .inl ⟨_, rfl, (by rw [hb52]; rfl)⟩⟩ rfl ?_
         refine AOD.skip ⟨_, rfl, .inl ⟨_, rfl, (by rw [hb52]; rfl)⟩⟩ rfl ?_
         refine AOD.skip ⟨_, rfl, .inr ⟨rfl, rfl⟩⟩ rfl ?_
         refine AOD.skip ⟨_, rfl, .inr ⟨rfl, rfl⟩⟩ rfl ?_
         refine AOD.skip ⟨_, rfl, .inr ⟨rfl, rfl⟩⟩ rfl ?_
         refine AOD.skip ⟨_, rfl, .inr ⟨rfl, rfl⟩⟩ rfl ?_
         refine AOD.skip ⟨_, rfl, .inr ⟨rfl, rfl⟩⟩ rfl ?_
         refine AOD.skip ⟨_, rfl, .inr ⟨rfl, rfl⟩⟩ rfl ?_
         refine AOD.skip ⟨_, rfl, .inr ⟨rfl, rfl⟩⟩ rfl ?_
         refine AOD.skip ⟨_, rfl, .inr ⟨rfl, rfl⟩⟩ rfl ?_
         refine AOD.skip ⟨_, rfl, .inr ⟨rfl, rfl⟩⟩ rfl ?_
         refine AOD.skip ⟨_, rfl, .inl ⟨_, rfl, (by rw [hb52]; rfl)⟩⟩ rfl ?_
         refine Dp20 (LT.pickT (v := (Bv true)) rfl hb52) rfl ⟨rfl, rfl⟩ rfl rfl ?_
         refine AOD.nil (by kernel_rfl) ?_
         refine AWR.nil ⟨rfl, Ent.of ⟨rfl, rfl, rfl, trivial⟩ ⟨rfl, trivial⟩⟩
        ·refine Dp10 (LT.move (v := (Iv s7)) rfl) rfl ⟨_, rfl, .inl ⟨_, rfl, (by rw [hb52]; rfl)⟩⟩ rfl ?_
         refine Dp20 (LT.gtr rfl) rfl ⟨rfl, rfl⟩ ⟨_, rfl, .inl ⟨_, rfl, (by rw [hb52]; rfl)⟩⟩ rfl ?_
         refine Dp10 (LT.move (v := (Bv (decide (0 < s7)))) rfl) rfl ⟨_, rfl, .inl ⟨_, rfl, (by rw [hb52]; rfl)⟩⟩ rfl ?_
         refine AOD.split (fun hb53 => ?_) (fun hb53 => ?_)
         ·refine Dp10 (LT.fieldPl rfl fo26_1) rfl ⟨_, rfl, .inl ⟨_, rfl, (by rw [hb53]; rfl)⟩⟩ rfl ?_
          refine Dp11 (LT.bload1 (c := (xF encTBar g.Bars)) rfl ag24 (by exact rfl)) rfl rfl ⟨_, rfl, .inl ⟨_, rfl, (by rw [hb53]; rfl)⟩⟩ rfl ?_
          refine Dp10 (LT.move (v := (Iv s7)) rfl) rfl ⟨_, rfl, .inl ⟨_, rfl, (by rw [hb53]; rfl)⟩⟩ rfl ?_
          refine Dp20 (LT.sub rfl) rfl ⟨rfl, rfl⟩ ⟨_, rfl, .inl ⟨_, rfl, (by rw [hb53]; rfl)⟩⟩ rfl ?_
          refine AOD.bind fun x54 hx54 => ?_
          refine Dp20 (LT.tindexRO (enc := encTBar) rfl el24 hx54 sz62) rfl rfl ⟨_, rfl, .inl ⟨_, rfl, (by rw [hb53]; rfl)⟩⟩ rfl ?_
          refine Dp10 (LT.loadPxN rfl ag62 (infS inf62) (by exact sz62.symm)) rfl ⟨_, rfl, .inl ⟨_, rfl, (by rw [hb53]; rfl)⟩⟩ rfl ?_
          refine Dp11 (LT.bloadN (out := [(iC x42.A), (iC x42.B)]) rfl ag62 (infS inf62) sz62 (by exact rfl) (by exact rfl)) rfl rfl ⟨_, rfl, .inl ⟨_, rfl, (by rw [hb53]; rfl)⟩⟩ rfl ?_
          refine AOD.bind fun r55 hr55 => ?_
          refine AOD.pure (@LT.callF Try.prog _ _ 207 _ _ [(.agg [(iC x54.A), (iC x54.B)]), (.agg [(iC x42.A), (iC x42.B)])] _ _ [] _ _ _ _ (w_spec_l2After x54 x42 r55 hr55) rfl cb207 (.cons (.agg (.cons (.same rfl) (.cons (.same rfl) .nil))) (.cons (.agg (.cons (.same rfl) (.cons (.same rfl) .nil))) .nil)) rfl rfl trivial) ⟨rfl, rfl, rfl, trivial⟩ trivial ⟨_, rfl, .inl ⟨_, rfl, (by rw [hb53]; rfl)⟩⟩ rfl ?_
          refine Dp10 (LT.not rfl) rfl ⟨_, rfl, .inl ⟨_, rfl, (by rw [hb53]; rfl)⟩⟩ rfl ?_
          refine Dp20 (LT.pickT (v := (Bv (!r55))) rfl hb53) rfl rfl ⟨_, rfl, .inl ⟨_, rfl, (by rw [hb52]; rfl)⟩⟩ rfl ?_
          refine Dp20 (LT.pickF (v := (Bv (!r55))) rfl hb52) rfl rfl rfl rfl ?_
          refine AOD.nil (by kernel_rfl) ?_
          refine AWR.nil ⟨rfl, Ent.of ⟨rfl, rfl, rfl, trivial⟩ ⟨rfl, trivial⟩⟩
         ·refine AOD.skip ⟨_, rfl, .inl ⟨_, rfl, (by rw [hb53]; rfl)⟩⟩ rfl ?_
          refine AOD.skip ⟨_, rfl, .inl ⟨_, rfl, (by rw [hb53]; rfl)⟩⟩ rfl ?_
          refine AOD.skip ⟨_, rfl, .inl ⟨_, rfl, (by rw [hb53]; rfl)⟩⟩ rfl ?_
          refine AOD.skip ⟨_, rfl, .inl ⟨_, rfl, (by rw [hb53]; rfl)⟩⟩ rfl ?_
          refine AOD.skip ⟨_, rfl, .inl ⟨_, rfl, (by rw [hb53]; rfl)⟩⟩ rfl ?_
          refine AOD.skip ⟨_, rfl, .inl ⟨_, rfl, (by rw [hb53]; rfl)⟩⟩ rfl ?_
          refine AOD.skip ⟨_, rfl, .inl ⟨_, rfl, (by rw [hb53]; rfl)⟩⟩ rfl ?_
          refine AOD.skip ⟨_, rfl, .inl ⟨_, rfl, (by rw [hb53]; rfl)⟩⟩ rfl ?_
          refine AOD.skip ⟨_, rfl, .inl ⟨_, rfl, (by rw [hb53]; rfl)⟩⟩ rfl ?_
          refine Dp20 (LT.pickF (v := (Bv false)) rfl hb53) rfl ⟨rfl, rfl⟩ ⟨_, rfl, .inl ⟨_, rfl, (by rw [hb52]; rfl)⟩⟩ rfl ?_
          refine Dp20 (LT.pickF (v := (Bv false)) rfl hb52) rfl rfl rfl rfl ?_
          refine AOD.nil (by kernel_rfl) ?_
          refine AWR.nil ⟨rfl, Ent.of ⟨rfl, rfl, rfl, trivial⟩ ⟨rfl, trivial⟩⟩
     ·refine AWR.cond rfl (fun hc56 => ?_) (fun hc56 => ?_)
      ·refine Ws (Wr ?_)
       refine asg (Bv false) rfl ⟨rfl, rfl⟩ rfl rfl ?_
       refine On ?_
       refine AWR.ret ⟨rfl, FPost.mk (.inr rfl) ⟨rfl, trivial⟩ trivial rfl ⟨PermP.sc, trivial⟩ trivial⟩
      ·refine AWR.skip (AWR.blk (Wr ?_))
       refine mv (Iv s7) rfl rfl rfl rfl ?_
       refine Op20 (LT.add rfl) rfl ⟨rfl, rfl⟩ rfl rfl ?_
       refine asg (Iv (w64 (s7 + 1))) rfl rfl rfl rfl ?_
       refine On ?_
       refine AWR.nil ⟨rfl, Ent.of ⟨rfl, rfl, trivial⟩ ⟨rfl, trivial⟩⟩
    ·refine AWR.exit_end rfl ⟨rfl, Ent.of trivial trivial⟩
   ·refine Ws (Wr ?_)
    refine asg (Bv true) rfl ⟨rfl, rfl⟩ rfl rfl ?_
    refine On ?_
    refine AWR.ret (FPost.mk (.inr rfl) ⟨rfl, trivial⟩ trivial rfl ⟨PermP.sc, trivial⟩ trivial)
theorem w_impl_within (x : Int) (lo : Int) (hi : Int) : ∀ t, m_impl_within x lo hi = some t → Fw.Fn Try.prog 128 [(.c (iC x)), (.c (iC lo)), (.c (iC hi))] [] (.s (.c (bC t))) [] [] [] := by
 refine Fw.Fn.of (P := Try.prog) (X := []) (pn := []) (rs := (fun (t : Bool) => [(.c (bC t))])) (dfs := (fun (t : Bool) => [])) Try.func128 rfl Try.ntmps128 (Nat.le_of_ble_eq_true rfl) rfl ?_
 intro w0 U0 R0 g0
 unfold m_impl_within
 refine Ws (Wr ?_)
 refine asg (Bv false) rfl ⟨rfl, rfl⟩ rfl rfl ?_
 refine On (Ws ?_)
 refine AWR.joinK (fun j2 => ([(6, (Bv j2))], [])) ?_ (fun j2 _ => ?_)
 ·refine Wr ?_
  refine mv (Iv x) rfl rfl rfl rfl ?_
  refine mv (Iv lo) rfl rfl rfl rfl ?_
  refine Op20 (LT.geq rfl) rfl rfl rfl rfl ?_
  refine mv (Bv (decide (lo ≤ x))) rfl rfl rfl rfl ?_
  refine AOR.split (fun hb3 => ?_) (fun hb3 => ?_)
  ·refine mv (Iv x) rfl rfl ⟨_, rfl, .inl ⟨_, rfl, (by rw [hb3]; rfl)⟩⟩ rfl ?_
   refine mv (Iv hi) rfl rfl ⟨_, rfl, .inl ⟨_, rfl, (by rw [hb3]; rfl)⟩⟩ rfl ?_
   refine Op20 (LT.leq rfl) rfl rfl ⟨_, rfl, .inl ⟨_, rfl, (by rw [hb3]; rfl)⟩⟩ rfl ?_
   refine Op20 (LT.pickT (v := (Bv (decide (x ≤ hi)))) rfl hb3) rfl rfl rfl rfl ?_
   refine asg (Bv (decide (x ≤ hi))) rfl rfl rfl rfl ?_
   refine On ?_
   refine AWR.nil ⟨rfl, Ent.of ⟨rfl, trivial⟩ trivial⟩
  ·refine Ok rfl rfl rfl (by rw [hb3]; rfl) rfl ?_
   refine Ok rfl rfl rfl (by rw [hb3]; rfl) rfl ?_
   refine Ok rfl rfl rfl (by rw [hb3]; rfl) rfl ?_
   refine Op20 (LT.pickF (v := (Bv false)) rfl hb3) rfl ⟨rfl, rfl⟩ rfl rfl ?_
   refine asg (Bv false) rfl rfl rfl rfl ?_
   refine On ?_
   refine AWR.nil ⟨rfl, Ent.of ⟨rfl, trivial⟩ trivial⟩
 ·refine AWR.ret (FPost.mk (.inr rfl) ⟨rfl, trivial⟩ trivial rfl ⟨PermP.sc, trivial⟩ trivial)
theorem w_impl_compareInts (a : Int) (b : Int) : ∀ t, m_impl_compareInts a b = some t → Fw.Fn Try.prog 248 [(.c (iC a)), (.c (iC b))] [] (.s (.c (iC t))) [] [] [] := by
 refine Fw.Fn.of (P := Try.prog) (X := []) (pn := []) (rs := (fun (t : Int) => [(.c (iC t))])) (dfs := (fun (t : Int) => [])) Try.func248 rfl Try.ntmps248 (Nat.le_of_ble_eq_true rfl) rfl ?_
 intro w0 U0 R0 g0
 unfold m_impl_compareInts
 refine Ws (Wr ?_)
 refine asg (Iv 0) rfl ⟨rfl, rfl⟩ rfl rfl ?_
 refine On (Ws (AWR.block (Ws (Wr ?_))))
 refine mv (Iv a) rfl rfl rfl rfl ?_
 refine mv (Iv b) rfl rfl rfl rfl ?_
 refine Op20 (LT.lss rfl) rfl rfl rfl rfl ?_
 refine asg (Bv (decide (a < b))) rfl rfl rfl rfl ?_
 refine On ?_
 refine AWR.cond rfl (fun hc1 => ?_) (fun hc1 => ?_)
 ·refine Ws (Wr ?_)
  refine asg (Iv (-1)) rfl ⟨rfl, rfl⟩ rfl rfl ?_
  refine On ?_
  refine AWR.ret (FPost.mk (.inr rfl) ⟨rfl, trivial⟩ trivial rfl ⟨PermP.sc, trivial⟩ trivial)
 ·refine Ws (Wr ?_)
  refine mv (Iv a) rfl rfl rfl rfl ?_
  refine mv (Iv b) rfl rfl rfl rfl ?_
  refine Op20 (LT.gtr rfl) rfl rfl rfl rfl ?_
  refine asg (Bv (decide (b < a))) rfl rfl rfl rfl ?_
  refine On ?_
  refine AWR.cond rfl (fun hc2 => ?_) (fun hc2 => ?_)
  ·refine Ws (Wr ?_)
   refine asg (Iv 1) rfl ⟨rfl, rfl⟩ rfl rfl ?_
   refine On ?_
   refine AWR.ret (FPost.mk (.inr rfl) ⟨rfl, trivial⟩ trivial rfl ⟨PermP.sc, trivial⟩ trivial)
  ·refine AWR.skip (AWR.blk (Ws (Wr ?_)))
   refine asg (Iv 0) rfl ⟨rfl, rfl⟩ rfl rfl ?_
   refine On ?_
   refine AWR.ret (FPost.mk (.inr rfl) ⟨rfl, trivial⟩ trivial rfl ⟨PermP.sc, trivial⟩ trivial)
theorem w_impl_compareBars (x : TBar) (y : TBar) : ∀ t, m_impl_compareBars x y = some t → Fw.Fn Try.prog 227 [(.agg [(iC x.A), (iC x.B)]), (.agg [(iC y.A), (iC y.B)])] [] (.s (.c (iC t))) [] [] [] := by
 refine Fw.Fn.of (P := Try.prog) (X := []) (pn := []) (rs := (fun (t : Int) => [(.c (iC t))])) (dfs := (fun (t : Int) => [])) Try.func227 rfl Try.ntmps227 (Nat.le_of_ble_eq_true rfl) rfl ?_
 intro w0 U0 R0 g0
 unfold m_impl_compareBars
 refine Ws (Wr ?_)
 refine Os10 (LT.box (n := 21) (v := (.agg [(iC x.A), (iC x.B)])) rfl sz62 (by exact rfl)) rfl rfl rfl ?_
 refine Os10 (LT.box (n := 22) (v := (.agg [(iC y.A), (iC y.B)])) rfl sz62 (by exact rfl)) rfl rfl rfl ?_
 refine asg (Iv 0) rfl ⟨rfl, rfl⟩ rfl rfl ?_
 refine On (Ws (Ws (Wr ?_)))
 refine Op10 (LT.fieldPl rfl fo62_0) rfl rfl rfl ?_
 refine Op11 (LT.bload1 (c := (iC x.A)) rfl ag3 (by exact rfl)) rfl rfl rfl rfl ?_
 refine Op10 (LT.fieldPl rfl fo62_0) rfl rfl rfl ?_
 refine Op11 (LT.bload1 (c := (iC y.A)) rfl ag3 (by exact rfl)) rfl rfl rfl rfl ?_
 refine Ob' fun r1 hr1 => ?_
 refine AOR.pure (@LT.callF Try.prog _ _ 248 _ _ [(.c (iC x.A)), (.c (iC y.A))] _ _ [] _ _ _ _ (w_impl_compareInts x.A y.A r1 hr1) rfl cb248 (.cons (.c (.same rfl)) (.cons (.c (.same rfl)) .nil)) rfl rfl trivial) ⟨rfl, rfl, rfl, trivial⟩ trivial rfl rfl ?_
 refine asg (Iv r1) rfl rfl rfl rfl ?_
 refine On (Ws ?_)
 refine en [(2, (Cc (.pl 21 0))), (3, (Cc (.pl 22 0))), (5, (Iv r1))] [(21, (.row 62 [[(iC x.A), (iC x.B)]])), (22, (.row 62 [[(iC y.A), (iC y.B)]]))] ⟨rfl, rfl, rfl, trivial⟩ ⟨rfl, rfl, trivial⟩ ?_
 refine Wr ?_
 refine mv (Iv r1) rfl rfl rfl rfl ?_
 refine Op20 (LT.neq rfl) rfl ⟨rfl, rfl⟩ rfl rfl ?_
 refine On ?_
 refine AWR.cond rfl (fun hc2 => ?_) (fun hc2 => ?_)
 ·refine Ws (Wr ?_)
  refine mv (Iv r1) rfl rfl rfl rfl ?_
  refine asg (Iv r1) rfl rfl rfl rfl ?_
  refine On ?_
  refine AWR.ret (FPost.mk (.inr rfl) ⟨rfl, trivial⟩ trivial rfl ⟨PermP.sc, trivial⟩ trivial)
 ·refine AWR.skip (Ws (Wr ?_))
  refine Op10 (LT.fieldPl rfl fo62_1) rfl rfl rfl ?_
  refine Op11 (LT.bload1 (c := (iC x.B)) rfl ag3 (by exact rfl)) rfl rfl rfl rfl ?_
  refine Op10 (LT.fieldPl rfl fo62_1) rfl rfl rfl ?_
  refine Op11 (LT.bload1 (c := (iC y.B)) rfl ag3 (by exact rfl)) rfl rfl rfl rfl ?_
  refine Ob' fun r3 hr3 => ?_
  refine AOR.pure (@LT.callF Try.prog _ _ 248 _ _ [(.c (iC x.B)), (.c (iC y.B))] _ _ [] _ _ _ _ (w_impl_compareInts x.B y.B r3 hr3) rfl cb248 (.cons (.c (.same rfl)) (.cons (.c (.same rfl)) .nil)) rfl rfl trivial) ⟨rfl, rfl, rfl, trivial⟩ trivial rfl rfl ?_
  refine asg (Iv r3) rfl rfl rfl rfl ?_
  refine On ?_
  refine AWR.ret (FPost.mk (.inr rfl) ⟨rfl, trivial⟩ trivial rfl ⟨PermP.sc, trivial⟩ trivial)
theorem w_impl_IsGraph (g : TGraph) : ∀ t, m_impl_IsGraph g = some t → Fw.Fn Try.prog 173 [(.agg [(iC g.Points), (xF encTBar g.Bars)])] [] (.s (.c (bC t))) [] [] [] := by
 refine Fw.Fn.of (P := Try.prog) (X := []) (pn := []) (rs := (fun (t : Bool) => [(.c (bC t))])) (dfs := (fun (t : Bool) => [])) Try.func173 rfl Try.ntmps173 (Nat.le_of_ble_eq_true rfl) rfl ?_
 intro w0 U0 R0 g0
 unfold m_impl_IsGraph
 refine Ws (Wr ?_)
 refine Os10 (LT.box (n := 21) (v := (.agg [(iC g.Points), (xF encTBar g.Bars)])) rfl sz26 (by exact rfl)) rfl rfl rfl ?_
 refine asg (Bv false) rfl ⟨rfl, rfl⟩ rfl rfl ?_
 refine On (Ws (Ws ?_))
 refine AWR.joinK (fun j3 => ([(1, (Cc (.pl 21 0))), (14, (Bv j3))], [(21, (.row 26 [[(iC g.Points), (xF encTBar g.Bars)]]))])) ?_ (fun j3 _ => ?_)
 ·refine Wr ?_
  refine Op10 (LT.fieldPl rfl fo26_0) rfl rfl rfl ?_
  refine Op11 (LT.bload1 (c := (iC g.Points)) rfl ag3 (by exact rfl)) rfl rfl rfl rfl ?_
  refine Ob' fun r4 hr4 => ?_
  refine AOR.pure (@LT.callF Try.prog _ _ 128 _ _ [(.c (iC g.Points)), (.c (iC 1)), (.c (iC 8))] _ _ [] _ _ _ _ (w_impl_within g.Points 1 8 r4 hr4) rfl cb128 (.cons (.c (.same rfl)) (.cons (.c (.same rfl)) (.cons (.c (.same rfl)) .nil))) rfl rfl trivial) ⟨rfl, rfl, ⟨rfl, rfl⟩, ⟨rfl, rfl⟩, trivial⟩ trivial rfl rfl ?_
  refine Op10 (LT.not rfl) rfl rfl rfl ?_
  refine mv (Bv (!r4)) rfl rfl rfl rfl ?_
  refine AOR.split (fun hb5 => ?_) (fun hb5 => ?_)
  ·refine Ok rfl rfl rfl (by rw [hb5]; rfl) rfl ?_
   refine Ok rfl rfl rfl (by rw [hb5]; rfl) rfl ?_
   refine Ok rfl rfl rfl (by rw [hb5]; rfl) rfl ?_
   refine Ok rfl rfl rfl (by rw [hb5]; rfl) rfl ?_
   refine Op20 (LT.pickT (v := (Bv true)) rfl hb5) rfl ⟨rfl, rfl⟩ rfl rfl ?_
   refine On ?_
   refine AWR.nil ⟨rfl, Ent.of ⟨rfl, rfl, trivial⟩ ⟨rfl, trivial⟩⟩
  ·refine Op10 (LT.fieldPl rfl fo26_1) rfl ⟨_, rfl, .inl ⟨_, rfl, (by rw [hb5]; rfl)⟩⟩ rfl ?_
   refine Op11 (LT.bload1 (c := (xF encTBar g.Bars)) rfl ag24 (by exact rfl)) rfl rfl ⟨_, rfl, .inl ⟨_, rfl, (by rw [hb5]; rfl)⟩⟩ rfl ?_
   refine Op10 (LT.tlenRO rfl und24) rfl ⟨_, rfl, .inl ⟨_, rfl, (by rw [hb5]; rfl)⟩⟩ rfl ?_
   refine Op20 (LT.gtr rfl) rfl ⟨rfl, rfl⟩ ⟨_, rfl, .inl ⟨_, rfl, (by rw [hb5]; rfl)⟩⟩ rfl ?_
   refine Op20 (LT.pickF (v := (Bv (decide (24 < (g.Bars.length : Int))))) rfl hb5) rfl rfl rfl rfl ?_
   refine On ?_
   refine AWR.nil ⟨rfl, Ent.of ⟨rfl, rfl, trivial⟩ ⟨rfl, trivial⟩⟩
 ·refine AWR.cond rfl (fun hc6 => ?_) (fun hc6 => ?_)
  ·refine Ws (Wr ?_)
   refine asg (Bv false) rfl ⟨rfl, rfl⟩ rfl rfl ?_
   refine On ?_
   refine AWR.ret (FPost.mk (.inr rfl) ⟨rfl, trivial⟩ trivial rfl ⟨PermP.sc, trivial⟩ trivial)
  ·refine AWR.skip (Ws (Ws (Wr ?_)))
   refine Op10 (LT.fieldPl rfl fo26_1) rfl rfl rfl ?_
   refine Op11 (LT.bload1 (c := (xF encTBar g.Bars)) rfl ag24 (by exact rfl)) rfl rfl rfl rfl ?_
   refine Op10 (LT.tlenRO rfl und24) rfl rfl rfl ?_
   refine mv (Iv 0) rfl ⟨rfl, rfl⟩ rfl rfl ?_
   refine On (AWR.block ?_)
   refine AWR.loopR (id := 0) (m_impl_IsGraph_L1 g) (fun s7 => ([(1, (Cc (.pl 21 0))), (16, (Cc (xF encTBar g.Bars))), (17, (Iv (g.Bars.length : Int))), (18, (Iv s7))], [(21, (.row 26 [[(iC g.Points), (xF encTBar g.Bars)]]))])) (fun b40 => ([], [])) (FPost Try.prog Try.f173.results.toList [] [] (fun (t : Bool) => [(.c (bC t))]) (fun (t : Bool) => [])) ?_ (Ent.of ⟨rfl, rfl, rfl, rfl, trivial⟩ ⟨rfl, trivial⟩) rfl (fun b40 _ => ?_) (by intro r t σ m ht hk; injection ht with ht; subst ht; exact hk)
   ·intro s7
    unfold m_impl_IsGraph_L1
    refine Ws (Wr ?_)
    refine Op20 (LT.lss rfl) rfl rfl rfl rfl ?_
    refine On (Ws ?_)
    refine AWR.cond rfl (fun hc41 => ?_) (fun hc41 => ?_)
    ·refine AWR.skip (Ws (AWR.block (Ws (Wr ?_))))
     refine mv (Iv s7) rfl rfl rfl rfl ?_
     refine Ob' fun x42 hx42 => ?_
     refine Op20 (LT.tindexRO (enc := encTBar) rfl el24 hx42 sz62) rfl rfl rfl rfl ?_
     refine Op10 (LT.loadPxN rfl ag62 (infS inf62) (by exact sz62.symm)) rfl rfl rfl ?_
     refine Os00 (LT.alloc (n := 23) (cells := [(iC 0), (iC 0)]) rfl ti62 rfl rfl rfl) rfl rfl ?_
     refine asg (Iv s7) rfl rfl rfl rfl ?_
     refine Os21 (LT.bstore (v := (.agg [(iC x42.A), (iC x42.B)])) (out := [(iC x42.A), (iC x42.B)]) rfl rfl (infS inf62) sz62 (by exact rfl) (by exact Nat.le_of_ble_eq_true rfl) (by exact rfl)) rfl rfl rfl rfl rfl ?_
     refine On (Ws ?_)
     refine AWR.joinK (fun j49 => ([(1, (Cc (.pl 21 0))), (16, (Cc (xF encTBar g.Bars))), (17, (Iv (g.Bars.length : Int))), (18, (Iv s7)), (54, (Bv j49))], [(21, (.row 26 [[(iC g.Points), (xF encTBar g.Bars)]]))])) ?_ (fun j49 _ => ?_)
     ·refine en [(1, (Cc (.pl 21 0))), (3, (Iv s7)), (4, (Cc (.pl 23 0))), (16, (Cc (xF encTBar g.Bars))), (17, (Iv (g.Bars.length : Int))), (18, (Iv s7))] [(21, (.row 26 [[(iC g.Points), (xF encTBar g.Bars)]])), (23, (.row 62 [[(iC x42.A), (iC x42.B)]]))] ⟨rfl, rfl, rfl, rfl, rfl, rfl, trivial⟩ ⟨rfl, rfl, trivial⟩ ?_
      refine AWR.draw mixed ?_
      refine Dp10 (LT.fieldPl rfl fo62_0) rfl rfl rfl ?_
      refine Dp11 (LT.bload1 (c := (iC x42.A)) rfl ag3 (by exact rfl)) rfl rfl rfl rfl ?_
      refine Dp20 (LT.lss rfl) rfl ⟨rfl, rfl⟩ rfl rfl ?_
      refine Dp10 (LT.move (v := (Bv (decide (x42.A < 0)))) rfl) rfl rfl rfl ?_
      refine AOD.split (fun hb50 => ?_) (fun hb50 => ?_)
      ·refine AOD.skip ⟨_, rfl, .inl ⟨_, rfl, (by rw [hb50]; rfl)⟩⟩ rfl ?_
       refine AOD.skip ⟨_, rfl, .inl ⟨_, rfl, (by rw [hb50]; rfl)⟩⟩ rfl ?_
       refine AOD.skip ⟨_, rfl, .inl ⟨_, rfl, (by rw [hb50]; rfl)⟩⟩ rfl ?_
       refine AOD.skip ⟨_, rfl, .inl ⟨_, rfl, (by rw [hb50]; rfl)⟩⟩ rfl ?_
       refine AOD.skip ⟨_, rfl, .inl ⟨_, rfl, (by rw [hb50]; rfl)⟩⟩ rfl ?_
       refine Dp20 (LT.pickT (v := (Bv true)) rfl hb50) rfl ⟨rfl, rfl⟩ rfl rfl ?_
       refine Dp10 (LT.move (v := (Bv true)) rfl) rfl rfl rfl ?_
       refine AOD.skip ⟨_, rfl, .inl ⟨_, rfl, rfl⟩⟩ rfl ?_
       refine AOD.skip ⟨_, rfl, .inl ⟨_, rfl, rfl⟩⟩ rfl ?_
       refine AOD.skip ⟨_, rfl, .inl ⟨_, rfl, rfl⟩⟩ rfl ?_
       refine AOD.skip ⟨_, rfl, .inl ⟨_, rfl, rfl⟩⟩ rfl ?_
       refine AOD.skip ⟨_, rfl, .inl ⟨_, rfl, rfl⟩⟩ rfl ?_
       refine Dp20 (LT.pickT (v := (Bv true)) rfl rfl) rfl ⟨rfl, rfl⟩ rfl rfl ?_
       refine Dp10 (LT.move (v := (Bv true)) rfl) rfl rfl rfl ?_
       refine AOD.skip ⟨_, rfl, .inl ⟨_, rfl, rfl⟩⟩ rfl ?_
       refine AOD.skip ⟨_, rfl, .inl ⟨_, rfl, rfl⟩⟩ rfl ?_
       refine AOD.skip ⟨_, rfl, .inl ⟨_, rfl, rfl⟩⟩ rfl ?_
       refine AOD.skip ⟨_, rfl, .inr ⟨rfl, rfl⟩⟩ rfl ?_
       refine AOD.skip ⟨_, rfl, .inr ⟨rfl, rfl⟩⟩ rfl ?_
       refine AOD.skip ⟨_, rfl, .inr ⟨rfl, rfl⟩⟩ rfl ?_
       refine AOD.skip ⟨_, rfl, .inr ⟨rfl, rfl⟩⟩ rfl ?_
       refine AOD.skip ⟨_, rfl, .inr ⟨rfl, rfl⟩⟩ rfl ?_
       refine AOD.skip ⟨_, rfl, .inr ⟨rfl, rfl⟩⟩ rfl ?_
       refine AOD.skip ⟨_, rfl, .inr ⟨rfl, rfl⟩⟩ rfl ?_
       refine AOD.skip ⟨_, rfl, .inr ⟨rfl, rfl⟩⟩ rfl ?_
       refine AOD.skip ⟨_, rfl, .inr ⟨rfl, rfl⟩⟩ rfl ?_
       refine AOD.skip ⟨_, rfl, .inl ⟨_, rfl, rfl⟩⟩ rfl ?_
       refine Dp20 (LT.pickT (v := (Bv true)) rfl rfl) rfl ⟨rfl, rfl⟩ rfl rfl ?_
       refine AOD.nil (by kernel_rfl) ?_
       refine AWR.nil ⟨rfl, Ent.of ⟨rfl, rfl, rfl, rfl, rfl, trivial⟩ ⟨rfl, trivial⟩⟩
      ·refine Dp10 (LT.fieldPl rfl fo62_0) rfl ⟨_, rfl, .inl ⟨_, rfl, (by rw [hb50]; rfl)⟩⟩ rfl ?_
       refine Dp11 (LT.bload1 (c := (iC x42.A)) rfl ag3 (by exact rfl)) rfl rfl ⟨_, rfl, .inl ⟨_, rfl, (by rw [hb50]; rfl)⟩⟩ rfl ?_
       refine Dp10 (LT.fieldPl rfl fo62_1) rfl ⟨_, rfl, .inl ⟨_, rfl, (by rw [hb50]; rfl)⟩⟩ rfl ?_
       refine Dp11 (LT.bload1 (c := (iC x42.B)) rfl ag3 (by exact rfl)) rfl rfl ⟨_, rfl, .inl ⟨_, rfl, (by rw [hb50]; rfl)⟩⟩ rfl ?_
       refine Dp20 (LT.geq rfl) rfl rfl ⟨_, rfl, .inl ⟨_, rfl, (by rw [hb50]; rfl)⟩⟩ rfl ?_
       refine Dp20 (LT.pickF (v := (Bv (decide (x42.B ≤ x42.A)))) rfl hb50) rfl rfl rfl rfl ?_
       refine Dp10 (LT.move (v := (Bv (decide (x42.B ≤ x42.A)))) rfl) rfl rfl rfl ?_
       refine AOD.split (fun hb51 => ?_) (fun hb51 => ?_)
       ·refine AOD.skip ⟨_, rfl, .inl ⟨_, rfl, (by rw [hb51]; rfl)⟩⟩ rfl ?_
        refine AOD.skip ⟨_, rfl, .inl ⟨_, rfl, (by rw [hb51]; rfl)⟩⟩ rfl ?_
        refine AOD.skip ⟨_, rfl, .inl ⟨_, rfl, (by rw [hb51]; rfl)⟩⟩ rfl ?_
        refine AOD.skip ⟨_, rfl, .inl ⟨_, rfl, (by rw [hb51]; rfl)⟩⟩ rfl ?_
        refine AOD.skip ⟨_, rfl, .inl ⟨_, rfl, (by rw [hb51]; rfl)⟩⟩ rfl ?_
        refine Dp20 (LT.pickT (v := (Bv true)) rfl hb51) rfl ⟨rfl, rfl⟩ rfl rfl ?_
        refine Dp10 (LT.move (v := (Bv true)) rfl) rfl rfl rfl ?_
        refine AOD.skip ⟨_, rfl, .inl ⟨_, rfl, rfl⟩⟩ rfl ?_
        refine AOD.skip ⟨_, rfl, .inl ⟨_, rfl, rfl⟩⟩ rfl ?_
        refine AOD.skip ⟨_, rfl, .inl ⟨_, rfl, rfl⟩⟩ rfl ?_
        refine AOD.skip ⟨_, rfl, .inr ⟨rfl, rfl⟩⟩ rfl ?_
        refine AOD.skip ⟨_, rfl, .inr ⟨rfl, rfl⟩⟩ rfl ?_
        refine AOD.skip ⟨_, rfl, .inr ⟨rfl, rfl⟩⟩ rfl ?_
        refine AOD.skip ⟨_, rfl, .inr ⟨rfl, rfl⟩⟩ rfl ?_
        refine AOD.skip ⟨_, rfl, .inr ⟨rfl, rfl⟩⟩ rfl ?_
        refine AOD.skip ⟨_, rfl, .inr ⟨rfl, rfl⟩⟩ rfl ?_
        refine AOD.skip ⟨_, rfl, .inr ⟨rfl, rfl⟩⟩ rfl ?_
        refine AOD.skip ⟨_, rfl, .inr ⟨rfl, rfl⟩⟩ rfl ?_
        refine AOD.skip ⟨_, rfl, .inr ⟨rfl, rfl⟩⟩ rfl ?_
        refine AOD.skip ⟨_, rfl, .inl ⟨_, rfl, rfl⟩⟩ rfl ?_
        refine Dp20 (LT.pickT (v := (Bv true)) rfl rfl) rfl ⟨rfl, rfl⟩ rfl rfl ?_
        refine AOD.nil (by kernel_rfl) ?_
        refine AWR.nil ⟨rfl, Ent.of ⟨rfl, rfl, rfl, rfl, rfl, trivial⟩ ⟨rfl, trivial⟩⟩
       ·refine Dp10 (LT.fieldPl rfl fo62_1) rfl ⟨_, rfl, .inl ⟨_, rfl, (by rw [hb51]; rfl)⟩⟩ rfl ?_
        refine Dp11 (LT.bload1 (c := (iC x42.B)) rfl ag3 (by exact rfl)) rfl rfl ⟨_, rfl, .inl ⟨_, rfl, (by rw [hb51]; rfl)⟩⟩ rfl ?_
        refine Dp10 (LT.fieldPl rfl fo26_0) rfl ⟨_, rfl, .inl ⟨_, rfl, (by rw [hb51]; rfl)⟩⟩ rfl ?_
        refine Dp11 (LT.bload1 (c := (iC g.Points)) rfl ag3 (by exact rfl)) rfl rfl ⟨_, rfl, .inl ⟨_, rfl, (by rw [hb51]; rfl)⟩⟩ rfl ?_
        refine Dp20 (LT.geq rfl) rfl rfl ⟨_, rfl, .inl ⟨_, rfl, (by rw [hb51]; rfl)⟩⟩ rfl ?_
        refine Dp20 (LT.pickF (v := (Bv (decide (g.Points ≤ x42.B)))) rfl hb51) rfl rfl rfl rfl ?_
        refine Dp10 (LT.move (v := (Bv (decide (g.Points ≤ x42.B)))) rfl) rfl rfl rfl ?_
        refine AOD.split (fun hb52 => ?_) (fun hb52 => ?_)
        ·refine AOD.skip ⟨_, rfl, .inl ⟨_, rfl, (by rw [hb52]; rfl)⟩⟩ rfl ?_
         refine AOD.skip ⟨_, rfl, .inl ⟨_, rfl, (by rw [hb52]; rfl)⟩⟩ rfl ?_
         refine AOD.skip ⟨_, rfl, .inl ⟨_, rfl, (by rw [hb52]; rfl)⟩⟩ rfl ?_
         refine AOD.skip ⟨_, rfl, .inr ⟨rfl, rfl⟩⟩ rfl ?_
         refine AOD.skip ⟨_, rfl, .inr ⟨rfl, rfl⟩⟩ rfl ?_
         refine AOD.skip ⟨_, rfl, .inr ⟨rfl, rfl⟩⟩ rfl ?_
         refine AOD.skip ⟨_, rfl, .inr ⟨rfl, rfl⟩⟩ rfl ?_
         refine AOD.skip ⟨_, rfl, .inr ⟨rfl, rfl⟩⟩ rfl ?_
         refine AOD.skip ⟨_, rfl, .inr ⟨rfl, rfl⟩⟩ rfl ?_
         refine AOD.skip ⟨_, rfl, .inr ⟨rfl, rfl⟩⟩ rfl ?_
         refine AOD.skip ⟨_, rfl, .inr ⟨rfl, rfl⟩⟩ rfl ?_
         refine AOD.skip ⟨_, rfl, .inr ⟨rfl, rfl⟩⟩ rfl ?_
         refine AOD.skip ⟨_, rfl, .inl ⟨_, rfl, (by rw [hb52]; rfl)⟩⟩ rfl ?_
         refine Dp20 (LT.pickT (v := (Bv true)) rfl hb52) rfl ⟨rfl, rfl⟩ rfl rfl ?_
         refine AOD.nil (by kernel_rfl) ?_
         refine AWR.nil ⟨rfl, Ent.of ⟨rfl, rfl, rfl, rfl, rfl, trivial⟩ ⟨rfl, trivial⟩⟩
        ·refine Dp10 (LT.move (v := (Iv s7)) rfl) rfl ⟨_, rfl, .inl ⟨_, rfl, (by rw [hb52]; rfl)⟩⟩ rfl ?_
         refine Dp20 (LT.gtr rfl) rfl ⟨rfl, rfl⟩ ⟨_, rfl, .inl ⟨_, rfl, (by rw [hb52]; rfl)⟩⟩ rfl ?_
         refine Dp10 (LT.move (v := (Bv (decide (0 < s7)))) rfl) rfl ⟨_, rfl, .inl ⟨_, rfl, (by rw [hb52]; rfl)⟩⟩ rfl ?_
         refine AOD.split (fun hb53 => ?_) (fun hb53 => ?_)
         ·refine Dp10 (LT.fieldPl rfl fo26_1) rfl ⟨_, rfl, .inl ⟨_, rfl, (by rw [hb53]; rfl)⟩⟩ rfl ?_
          refine Dp11 (LT.bload1 (c := (xF encTBar g.Bars)) rfl ag24 (by exact rfl)) rfl rfl ⟨_, rfl, .inl ⟨_, rfl, (by rw [hb53]; rfl)⟩⟩ rfl ?_
          refine Dp10 (LT.move (v := (Iv s7)) rfl) rfl ⟨_, rfl, .inl ⟨_, rfl, (by rw [hb53]; rfl)⟩⟩ rfl ?_
          refine Dp20 (LT.sub rfl) rfl ⟨rfl, rfl⟩ ⟨_, rfl, .inl ⟨_, rfl, (by rw [hb53]; rfl)⟩⟩ rfl ?_
          refine AOD.bind fun x54 hx54 => ?_
          refine Dp20 (LT.tindexRO (enc := encTBar) rfl el24 hx54 sz62) rfl rfl ⟨_, rfl, .inl ⟨_, rfl, (by rw [hb53]; rfl)⟩⟩ rfl ?_
          refine Dp10 (LT.loadPxN rfl ag62 (infS inf62) (by exact sz62.symm)) rfl ⟨_, rfl, .inl ⟨_, rfl, (by rw [hb53]; rfl)⟩⟩ rfl ?_
          refine Dp11 (LT.bloadN (out := [(iC x42.A), (iC x42.B)]) rfl ag62 (infS inf62) sz62 (by exact rfl) (by exact rfl)) rfl rfl ⟨_, rfl, .inl ⟨_, rfl, (by rw [hb53]; rfl)⟩⟩ rfl ?_
          refine AOD.bind fun r55 hr55 => ?_
          refine AOD.pure (@LT.callF Try.prog _ _ 227 _ _ [(.agg [(iC x54.A), (iC x54.B)]), (.agg [(iC x42.A), (iC x42.B)])] _ _ [] _ _ _ _ (w_impl_compareBars x54 x42 r55 hr55) rfl cb227 (.cons (.agg (.cons (.same rfl) (.cons (.same rfl) .nil))) (.cons (.agg (.cons (.same rfl) (.cons (.same rfl) .nil))) .nil)) rfl rfl trivial) ⟨rfl, rfl, rfl, trivial⟩ trivial ⟨_, rfl, .inl ⟨_, rfl, (by rw [hb53]; rfl)⟩⟩ rfl ?_
          refine Dp20 (LT.gtr rfl) rfl ⟨rfl, rfl⟩ ⟨_, rfl, .inl ⟨_, rfl, (by rw [hb53]; rfl)⟩⟩ rfl ?_
          refine Dp20 (LT.pickT (v := (Bv (decide (0 < r55)))) rfl hb53) rfl rfl ⟨_, rfl, .inl ⟨_, rfl, (by rw [hb52]; rfl)⟩⟩ rfl ?_
          refine Dp20 (LT.pickF (v := (Bv (decide (0 < r55)))) rfl hb52) rfl rfl rfl rfl ?_
          refine AOD.nil (by kernel_rfl) ?_
          refine AWR.nil ⟨rfl, Ent.of ⟨rfl, rfl, rfl, rfl, rfl, trivial⟩ ⟨rfl, trivial⟩⟩
         ·refine AOD.skip ⟨_, rfl, .inl ⟨_, rfl, (by rw [hb53]; rfl)⟩⟩ rfl ?_
          refine AOD.skip ⟨_, rfl, .inl ⟨_, rfl, (by rw [hb53]; rfl)⟩⟩ rfl ?_
          refine AOD.skip ⟨_, rfl, .inl ⟨_, rfl, (by rw [hb53]; rfl)⟩⟩ rfl ?_
          refine AOD.skip ⟨_, rfl, .inl ⟨_, rfl, (by rw [hb53]; rfl)⟩⟩ rfl ?_
          refine AOD.skip ⟨_, rfl, .inl ⟨_, rfl, (by rw [hb53]; rfl)⟩⟩ rfl ?_
          refine AOD.skip ⟨_, rfl, .inl ⟨_, rfl, (by rw [hb53]; rfl)⟩⟩ rfl ?_
          refine AOD.skip ⟨_, rfl, .inl ⟨_, rfl, (by rw [hb53]; rfl)⟩⟩ rfl ?_
          refine AOD.skip ⟨_, rfl, .inl ⟨_, rfl, (by rw [hb53]; rfl)⟩⟩ rfl ?_
          refine AOD.skip ⟨_, rfl, .inl ⟨_, rfl, (by rw [hb53]; rfl)⟩⟩ rfl ?_
          refine Dp20 (LT.pickF (v := (Bv false)) rfl hb53) rfl ⟨rfl, rfl⟩ ⟨_, rfl, .inl ⟨_, rfl, (by rw [hb52]; rfl)⟩⟩ rfl ?_
          refine Dp20 (LT.pickF (v := (Bv false)) rfl hb52) rfl rfl rfl rfl ?_
          refine AOD.nil (by kernel_rfl) ?_
          refine AWR.nil ⟨rfl, Ent.of ⟨rfl, rfl, rfl, rfl, rfl, trivial⟩ ⟨rfl, trivial⟩⟩
     ·refine AWR.cond rfl (fun hc56 => ?_) (fun hc56 => ?_)
      ·refine Ws (Wr ?_)
       refine asg (Bv false) rfl ⟨rfl, rfl⟩ rfl rfl ?_
       refine On ?_
       refine AWR.ret ⟨rfl, FPost.mk (.inr rfl) ⟨rfl, trivial⟩ trivial rfl ⟨PermP.sc, trivial⟩ trivial⟩
      ·refine AWR.skip (AWR.blk (Wr ?_))
       refine Op20 (LT.add rfl) rfl ⟨rfl, rfl⟩ rfl rfl ?_
       refine mv (Iv (w64 (s7 + 1))) rfl rfl rfl rfl ?_
       refine On ?_
       refine AWR.nil ⟨rfl, Ent.of ⟨rfl, rfl, rfl, rfl, trivial⟩ ⟨rfl, trivial⟩⟩
    ·refine AWR.exit_end rfl ⟨rfl, Ent.of trivial trivial⟩
   ·refine Ws (Wr ?_)
    refine asg (Bv true) rfl ⟨rfl, rfl⟩ rfl rfl ?_
    refine On ?_
    refine AWR.ret (FPost.mk (.inr rfl) ⟨rfl, trivial⟩ trivial rfl ⟨PermP.sc, trivial⟩ trivial)
theorem w_impl_isPlace (p : TPlace) : ∀ t, m_impl_isPlace p = some t → Fw.Fn Try.prog 174 [(.agg [(iC p.X), (iC p.Y)])] [] (.s (.c (bC t))) [] [] [] := by
 refine Fw.Fn.of (P := Try.prog) (X := []) (pn := []) (rs := (fun (t : Bool) => [(.c (bC t))])) (dfs := (fun (t : Bool) => [])) Try.func174 rfl Try.ntmps174 (Nat.le_of_ble_eq_true rfl) rfl ?_
 intro w0 U0 R0 g0
 unfold m_impl_isPlace
 refine Ws (Wr ?_)
 refine Os10 (LT.box (n := 21) (v := (.agg [(iC p.X), (iC p.Y)])) rfl sz94 (by exact rfl)) rfl rfl rfl ?_
 refine asg (Bv false) rfl ⟨rfl, rfl⟩ rfl rfl ?_
 refine On (Ws ?_)
 refine AWR.joinK (fun j4 => ([(2, (Bv j4))], [])) ?_ (fun j4 _ => ?_)
 ·refine Wr ?_
  refine Op10 (LT.fieldPl rfl fo94_0) rfl rfl rfl ?_
  refine Op11 (LT.bload1 (c := (iC p.X)) rfl ag3 (by exact rfl)) rfl rfl rfl rfl ?_
  refine Ob' fun r5 hr5 => ?_
  refine AOR.pure (@LT.callF Try.prog _ _ 128 _ _ [(.c (iC p.X)), (.c (iC 0)), (.c (iC 4))] _ _ [] _ _ _ _ (w_impl_within p.X 0 4 r5 hr5) rfl cb128 (.cons (.c (.same rfl)) (.cons (.c (.same rfl)) (.cons (.c (.same rfl)) .nil))) rfl rfl trivial) ⟨rfl, rfl, ⟨rfl, rfl⟩, ⟨rfl, rfl⟩, trivial⟩ trivial rfl rfl ?_
  refine mv (Bv r5) rfl rfl rfl rfl ?_
  refine AOR.split (fun hb6 => ?_) (fun hb6 => ?_)
  ·refine Op10 (LT.fieldPl rfl fo94_1) rfl ⟨_, rfl, .inl ⟨_, rfl, (by rw [hb6]; rfl)⟩⟩ rfl ?_
   refine Op11 (LT.bload1 (c := (iC p.Y)) rfl ag3 (by exact rfl)) rfl rfl ⟨_, rfl, .inl ⟨_, rfl, (by rw [hb6]; rfl)⟩⟩ rfl ?_
   refine Ob' fun r7 hr7 => ?_
   refine AOR.pure (@LT.callF Try.prog _ _ 128 _ _ [(.c (iC p.Y)), (.c (iC 0)), (.c (iC 4))] _ _ [] _ _ _ _ (w_impl_within p.Y 0 4 r7 hr7) rfl cb128 (.cons (.c (.same rfl)) (.cons (.c (.same rfl)) (.cons (.c (.same rfl)) .nil))) rfl rfl trivial) ⟨rfl, rfl, ⟨rfl, rfl⟩, ⟨rfl, rfl⟩, trivial⟩ trivial ⟨_, rfl, .inl ⟨_, rfl, (by rw [hb6]; rfl)⟩⟩ rfl ?_
   refine Op20 (LT.pickT (v := (Bv r7)) rfl hb6) rfl rfl rfl rfl ?_
   refine asg (Bv r7) rfl rfl rfl rfl ?_
   refine On ?_
   refine AWR.nil ⟨rfl, Ent.of ⟨rfl, trivial⟩ trivial⟩
  ·refine Ok rfl rfl rfl (by rw [hb6]; rfl) rfl ?_
   refine Ok rfl rfl rfl (by rw [hb6]; rfl) rfl ?_
   refine Ok rfl rfl rfl (by rw [hb6]; rfl) rfl ?_
   refine Op20 (LT.pickF (v := (Bv false)) rfl hb6) rfl ⟨rfl, rfl⟩ rfl rfl ?_
   refine asg (Bv false) rfl rfl rfl rfl ?_
   refine On ?_
   refine AWR.nil ⟨rfl, Ent.of ⟨rfl, trivial⟩ trivial⟩
 ·refine AWR.ret (FPost.mk (.inr rfl) ⟨rfl, trivial⟩ trivial rfl ⟨PermP.sc, trivial⟩ trivial)
end Go.Proofs.Ytghofbijdnenoaa
end
