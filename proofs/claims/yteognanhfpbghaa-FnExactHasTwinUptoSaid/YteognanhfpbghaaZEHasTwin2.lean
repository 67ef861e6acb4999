/- Parts of a proof that a law of the program holds: what the program computes, and why that is right. -/
import Derived.Test.YteognanhfpbghaaProg
import Derived.Test.YteognanhfpbghaaZEHasTwin1
section
set_option linter.unusedVariables false
set_option linter.unusedSimpArgs false
set_option linter.unnecessarySimpa false
open Go Go.Fw
namespace Go.Proofs.Yteognanhfpbghaa
theorem PB.weak {P : Int} {bars : List TBar} {k : Int} {m : Nat} {p : TPebbles} (h : PB P bars k m p) : PB P bars k (m + 1) p :=
  ⟨h.k1, h.k3, h.fl, h.tl, by have := h.pl; omega, fun hx => by have := h.pr hx; omega, h.inc, h.ends, h.fr⟩
theorem snoc_get {α : Type} {l : List α} {x y : α} {i : Nat} (h : (l ++ [x])[i]? = some y) : (i < l.length ∧ l[i]? = some y) ∨ (i = l.length ∧ y = x) := by
  rw [List.getElem?_append] at h
  split at h
  · exact .inl ⟨by assumption, h⟩
  · right
    have : i - l.length = 0 := by
      rcases Nat.eq_zero_or_pos (i - l.length) with h0 | h0
      · exact h0
      · rw [List.getElem?_eq_none (by simp; omega)] at h
        cases h
    rw [this] at h
    simp at h
    exact ⟨by omega, h.symm⟩
theorem PB.place {P : Int} {bars : List TBar} {k : Int} {m : Nat} {p : TPebbles} (hg : GB P bars) (hp : PB P bars k m p) (hml : m < bars.length) {x : TBar} (hx : bars[m]? = some x) {t f : Int} (ht : t = x.A ∨ t = x.B) (hf : p.Free[t.toNat]? = some f) (hpos : 0 < f) :
    PB P bars k (m + 1) ⟨p.Free.set t.toNat (f - 1), p.Tails ++ [t], p.Placed ++ [(m : Int)]⟩ := by
  have hpl := hp.pl
  have htl := hp.tl
  have t0 : 0 ≤ t := by
    rcases ht with rfl | rfl
    · exact hg.a0 hx
    · exact hg.b0 hx
  have hlast : ∀ {i : Nat} {v : Int}, (p.Placed ++ [(m : Int)])[i]? = some v → (i < p.Placed.length ∧ p.Placed[i]? = some v) ∨ (i = p.Placed.length ∧ v = (m : Int)) := fun h => snoc_get h
  refine ⟨hp.k1, hp.k3, by simpa using hp.fl, by simp [htl], by simp; omega, fun {i e} he => ?_, fun {i e e'} he he' => ?_, fun {i v} hv => ?_, fun {v w} hv => ?_⟩
  · rcases hlast he with ⟨_, h⟩ | ⟨_, rfl⟩
    · have := hp.pr h
      omega
    · omega
  · rcases hlast he' with ⟨h1, h2⟩ | ⟨h1, rfl⟩
    · rcases hlast he with ⟨_, h3⟩ | ⟨h3, _⟩
      · exact hp.inc h3 h2
      · omega
    · rcases hlast he with ⟨_, h3⟩ | ⟨h3, _⟩
      · have := hp.pr h3
        omega
      · omega
  · change (p.Tails ++ [t])[i]? = some v at hv
    rcases snoc_get hv with ⟨h1, h2⟩ | ⟨h1, rfl⟩
    · have := hp.ends h2
      have e : pbar bars ⟨p.Free.set t.toNat (f - 1), p.Tails ++ [t], p.Placed ++ [(m : Int)]⟩ i = pbar bars p i := by
        unfold pbar
        simp only
        rw [List.getElem?_append_left (by omega)]
      rw [e]
      exact this
    · have e : pbar bars ⟨p.Free.set v.toNat (f - 1), p.Tails ++ [v], p.Placed ++ [(m : Int)]⟩ i = x := by
        unfold pbar
        simp only
        rw [List.getElem?_append_right (by omega), h1, htl, Nat.sub_self]
        simp [hx]
      rw [e]
      exact ht
  · change 0 ≤ w ∧ w + ((p.Tails ++ [t]).count (v : Int) : Int) = k
    rw [List.count_append]
    rcases set_get hv with ⟨h1, rfl⟩ | ⟨h1, h2⟩
    · have hvt : (v : Int) = t := by omega
      have := hp.fr hf
      rw [Int.toNat_of_nonneg t0] at this
      rw [hvt]
      simp
      omega
    · have := hp.fr h2
      have h3 : ([t] : List Int).count (v : Int) = 0 := by
        rw [List.count_eq_zero]
        simp
        omega
      rw [h3]
      omega
theorem isRangeS_eq (k l : Int) : m_spec_IsRange k l = some ((decide (1 ≤ k) && decide (k ≤ 3)) && (decide (0 ≤ l) && decide (l ≤ 2 * k - 1))) := by
  unfold m_spec_IsRange
  rw [l1In_eq]
  cases h : decide (1 ≤ k) && decide (k ≤ 3)
  · rfl
  · simp only [Bool.and_eq_true, decide_eq_true_eq] at h
    rw [w64_small (n := 2 * k) (by omega) (by omega)]
    have : decide (l < 2 * k) = decide (l ≤ 2 * k - 1) := by rw [decide_eq_decide]; omega
    rw [this]
    cases decide (0 ≤ l) <;> rfl
def placeI (bars : List TBar) (l : Int) (p : TPebbles) (m : Nat) : TPebbles := match m_impl_place bars l p (m : Int) with
  | some (true, q) => q
  | _ => p
theorem place_both {P : Int} {bars : List TBar} {k l : Int} {m : Nat} {p : TPebbles} (hg : GB P bars) (hp : PB P bars k m p) (hml : m < bars.length) (hl : 0 ≤ l ∧ l ≤ 2 * k - 1) {g : TGraph} (hgp : g.Points = P) (hgb : g.Bars = bars) :
    PB P bars k (m + 1) (placeI bars l p m) ∧ (∃ ok q, m_impl_place bars l p (m : Int) = some (ok, q) ∧ placeI bars l p m = bif ok then q else p) ∧
      (m_spec_IsPebbles g k p = some true → m_spec_PlaceBar g k l p (m : Int) = some (placeI bars l p m, true) ∨ m_spec_PlaceBar g k l p (m : Int) = some (placeI bars l p m, false)) := by
  have hlen := hg.len
  have k3 := hp.k3
  have k1 := hp.k1
  have hx := List.getElem?_eq_getElem hml
  have hxi := idx_of (k := m) hx
  generalize bars[m] = x at hx hxi
  have hw : w64 (l + 1) = l + 1 := w64_small (by omega) (by omega)
  have hpre : m_spec_IsPebbles g k p = some true → ∀ M : Option (TPebbles × Bool), (((m_spec_IsPebbles g k p).bind fun r10 => bif (!r10) then some true else (m_spec_IsRange k l).bind fun r12 => bif (!r12) then some true else bif decide ((m : Int) < 0) then some true else bif decide ((g.Bars.length : Int) ≤ (m : Int)) then some true
      else bif decide (0 < (p.Placed.length : Int)) then (idx p.Placed (w64 ((p.Placed.length : Int) - 1))).bind fun x17 => some (decide ((m : Int) ≤ x17)) else some false : Option Bool).bind fun j9 => bif j9 then (m_spec_l4Copy p).bind fun r19 => some (r19, false) else M) = M := by
    intro h M
    have hpl := hp.pl
    rw [h, isRangeS_eq, decide_eq_true k1, decide_eq_true k3, decide_eq_true hl.1, decide_eq_true hl.2, decide_eq_false (show ¬ (m : Int) < 0 by omega), hgb, decide_eq_false (show ¬ (bars.length : Int) ≤ (m : Int) by omega)]
    simp only [Option.bind_some, Bool.and_self, Bool.not_true, cond_false]
    by_cases h0 : 0 < p.Placed.length
    · have hi : p.Placed[p.Placed.length - 1]? = some (p.Placed[p.Placed.length - 1]'(by omega)) := List.getElem?_eq_getElem (by omega)
      have hlt := hp.pr hi
      have e : w64 ((p.Placed.length : Int) - 1) = ((p.Placed.length - 1 : Nat) : Int) := by rw [w64_small (by omega) (by omega)]; omega
      rw [decide_eq_true (show 0 < (p.Placed.length : Int) by omega), e, idx_of hi]
      simp only [Option.bind_some, cond_true]
      rw [decide_eq_false (by omega)]
      rfl
    · rw [decide_eq_false (show ¬ 0 < (p.Placed.length : Int) by omega)]
      rfl
  rcases gather_both hg hp (by omega) hgp hgb (hg.a0 hx) (hg.ap hx) (hg.b0 hx) (hg.bp hx) (hg.ab hx) (want := l + 1) (by omega) with ⟨p', s1, i1, hp', hpl, htwo⟩ | ⟨p'', s1, i1, _⟩
  · obtain ⟨fa, hfa, hia, fa0, fak⟩ := hp'.free_in (hg.a0 hx) (hg.ap hx)
    obtain ⟨fb, hfb, hib, fb0, fbk⟩ := hp'.free_in (hg.b0 hx) (hg.bp hx)
    unfold two at htwo
    rw [hfa, hfb] at htwo
    simp only [Option.getD_some] at htwo
    have hpll := hp'.pl
    have htl := hp'.tl
    -- the tail and its pebbles
    obtain ⟨t, f, hte, htf, hti, hpos, hfk, htail⟩ : ∃ t f, (t = x.A ∨ t = x.B) ∧ p'.Free[t.toNat]? = some f ∧ idx p'.Free t = some f ∧ 0 < f ∧ f ≤ k ∧ (bif fa == 0 then some x.B else some x.A : Option Int) = some t := by
      by_cases h0 : fa = 0
      · exact ⟨x.B, fb, .inr rfl, hfb, hib, by omega, fbk, by simp [h0]⟩
      · have : (fa == 0) = false := by simp [h0]
        exact ⟨x.A, fa, .inl rfl, hfa, hia, by omega, fak, by simp [this]⟩
    have hI : m_impl_place bars l p (m : Int) = some (true, ⟨p'.Free.set t.toNat (f - 1), p'.Tails ++ [t], p'.Placed ++ [(m : Int)]⟩) := by
      unfold m_impl_place
      simp only [hxi, hw, i1, hia, htail, hti, Option.bind_some, Bool.not_true, cond_false, lim_ok (show p'.Tails.length + ([t] : List Int).length ≤ 2147483648 by simp; omega), lim_ok (show p'.Placed.length + ([(m : Int)] : List Int).length ≤ 2147483648 by simp; omega), w64_small (n := f - 1) (show -4611686018427387904 ≤ f - 1 by omega) (by omega)]
    have hpI : placeI bars l p m = ⟨p'.Free.set t.toNat (f - 1), p'.Tails ++ [t], p'.Placed ++ [(m : Int)]⟩ := by
      unfold placeI
      rw [hI]
    refine ⟨by rw [hpI]; exact hp'.place hg hml hx hte htf hpos, ⟨true, _, hI, hpI⟩, fun h => .inl ?_⟩
    rw [hpI]
    unfold m_spec_PlaceBar
    rw [hpre h]
    simp only [hgb, hxi, hw, s1, hia, htail, hti, Option.bind_some, Bool.not_true, cond_false, lim_ok (show p'.Tails.length + ([t] : List Int).length ≤ 2147483648 by simp; omega), lim_ok (show p'.Placed.length + ([(m : Int)] : List Int).length ≤ 2147483648 by simp; omega), w64_small (n := f - 1) (show -4611686018427387904 ≤ f - 1 by omega) (by omega)]
  · have hI : m_impl_place bars l p (m : Int) = some (false, p'') := by
      unfold m_impl_place
      simp only [hxi, hw, i1, Option.bind_some, Bool.not_false, cond_true]
    have hpI : placeI bars l p m = p := by
      unfold placeI
      rw [hI]
    refine ⟨by rw [hpI]; exact hp.weak, ⟨false, _, hI, hpI⟩, fun h => .inr ?_⟩
    rw [hpI]
    unfold m_spec_PlaceBar
    rw [hpre h]
    simp only [hgb, hxi, hw, s1, Option.bind_some, Bool.not_false, cond_true, l4Copy_eq hg hp (by omega)]
def played (P : Int) (bars : List TBar) (k l : Int) (n : Nat) : TPebbles := iter (fun m p => placeI bars l p m) n ⟨List.replicate P.toNat k, [], []⟩
theorem played_PB {P : Int} {bars : List TBar} {k l : Int} (hg : GB P bars) (k1 : 1 ≤ k) (k3 : k ≤ 3) (hl : 0 ≤ l ∧ l ≤ 2 * k - 1) : ∀ n, n ≤ bars.length → PB P bars k n (played P bars k l n)
  | 0, _ => by
    have := hg.p1
    refine ⟨k1, k3, by show ((List.replicate P.toNat k).length : Int) = P; simp; omega, rfl, Nat.le_refl _, (fun h => by cases h), (fun h => by cases h), (fun h => by cases h), fun {v f} hv => ?_⟩
    change (List.replicate P.toNat k)[v]? = some f at hv
    rw [List.getElem?_replicate] at hv
    split at hv
    · injection hv with hv
      subst hv
      show 0 ≤ k ∧ k + ((([] : List Int).count (v : Int) : Nat) : Int) = k
      simp
      omega
    · cases hv
  | n + 1, h => (place_both hg (played_PB hg k1 k3 hl n (by omega)) (by omega) hl (g := ⟨P, bars⟩) rfl rfl).1
def only (g : TGraph) (keep : List Int) : TGraph := ⟨g.Points, pieces (fun k => match g.Bars[k]? with | some x => bif hasI keep k then [x] else [] | none => []) g.Bars.length⟩
end Go.Proofs.Yteognanhfpbghaa
end
section
set_option linter.unusedVariables false
set_option linter.unusedSimpArgs false
set_option linter.unnecessarySimpa false
namespace Go.Sp
def su (f : Nat → Nat) : Nat → Nat
  | 0 => 0
  | n + 1 => su f n + f n
theorem su_congr {f g : Nat → Nat} : ∀ n, (∀ i, i < n → f i = g i) → su f n = su g n
  | 0, _ => rfl
  | n + 1, h => by
    show su f n + f n = su g n + g n
    rw [su_congr n fun i hi => h i (by omega), h n (by omega)]
theorem su_le {f g : Nat → Nat} : ∀ n, (∀ i, i < n → f i ≤ g i) → su f n ≤ su g n
  | 0, _ => Nat.le_refl _
  | n + 1, h => by
    have h1 := su_le n fun i hi => h i (by omega)
    have h2 := h n (by omega)
    show su f n + f n ≤ su g n + g n
    omega
theorem su_add (f g : Nat → Nat) : ∀ n, su (fun i => f i + g i) n = su f n + su g n
  | 0 => rfl
  | n + 1 => by
    show su (fun i => f i + g i) n + (f n + g n) = (su f n + f n) + (su g n + g n)
    rw [su_add f g n]
    omega
theorem su_zero {f : Nat → Nat} : ∀ n, (∀ i, i < n → f i = 0) → su f n = 0
  | 0, _ => rfl
  | n + 1, h => by
    show su f n + f n = 0
    rw [su_zero n fun i hi => h i (by omega), h n (by omega)]
theorem su_bump {f g : Nat → Nat} {j c : Nat} : ∀ n, j < n → g j = f j + c → (∀ i, i < n → i ≠ j → g i = f i) → su g n = su f n + c
  | 0, hj, _, _ => by omega
  | n + 1, hj, h1, h2 => by
    show su g n + g n = su f n + f n + c
    by_cases hjn : j = n
    · subst hjn
      rw [su_congr j fun i hi => h2 i (by omega) (by omega), h1]
      omega
    · rw [su_bump n (by omega) h1 fun i hi hne => h2 i (by omega) hne, h2 n (by omega) (fun e => hjn e.symm)]
      omega
theorem su_lt {f g : Nat → Nat} {j : Nat} : ∀ n, (∀ i, i < n → f i ≤ g i) → j < n → f j < g j → su f n < su g n
  | 0, _, hj, _ => by omega
  | n + 1, h, hj, h1 => by
    show su f n + f n < su g n + g n
    by_cases hjn : j = n
    · subst hjn
      have := su_le j fun i hi => h i (by omega)
      omega
    · have := su_lt n (fun i hi => h i (by omega)) (by omega : j < n) h1
      have := h n (by omega)
      omega
theorem su_pos {f : Nat → Nat} : ∀ n, 0 < su f n → ∃ i, i < n ∧ 0 < f i
  | 0, h => by simp [su] at h
  | n + 1, h => by
    change 0 < su f n + f n at h
    by_cases h1 : 0 < f n
    · exact ⟨n, by omega, h1⟩
    · obtain ⟨i, hi, h2⟩ := su_pos n (by omega : 0 < su f n)
      exact ⟨i, by omega, h2⟩
theorem su_one {f : Nat → Nat} {j : Nat} {n : Nat} (hj : j < n) : f j ≤ su f n := by
  have : su (fun i => if i = j then f j else 0) n = 0 + f j := by
    have := su_bump (f := fun _ => 0) (g := fun i => if i = j then f j else 0) (c := f j) n hj (by simp) (fun i _ hne => by simp [hne])
    rw [this, su_zero n fun _ _ => rfl]
  have h2 := su_le (f := fun i => if i = j then f j else 0) (g := f) n fun i _ => by
    show (if i = j then f j else 0) ≤ f i
    split
    · rename_i h; subst h; exact Nat.le_refl _
    · exact Nat.zero_le _
  omega
def inn (X : Nat → Bool) (i : Nat) : Bool := X (i / 8) && X (i % 8)
def size (X : Nat → Bool) : Nat := su (fun v => if X v then 1 else 0) 8
def span (I : Nat → Nat) (X : Nat → Bool) : Nat := su (fun i => if inn X i then I i else 0) 64
def card (I : Nat → Nat) : Nat := su I 64
def cap (X Y : Nat → Bool) (v : Nat) : Bool := X v && Y v
def cup (X Y : Nat → Bool) (v : Nat) : Bool := X v || Y v
def add1 (I : Nat → Nat) (e i : Nat) : Nat := if i = e then I i + 1 else I i
def sub1 (I : Nat → Nat) (e i : Nat) : Nat := if i = e then I i - 1 else I i
theorem inn_cap (X Y : Nat → Bool) (i : Nat) : inn (cap X Y) i = (inn X i && inn Y i) := by
  unfold inn cap
  cases X (i / 8) <;> cases X (i % 8) <;> cases Y (i / 8) <;> cases Y (i % 8) <;> rfl
theorem inn_cup {X Y : Nat → Bool} {i : Nat} (h : inn X i = true ∨ inn Y i = true) : inn (cup X Y) i = true := by
  unfold inn cup at *
  revert h
  cases X (i / 8) <;> cases X (i % 8) <;> cases Y (i / 8) <;> cases Y (i % 8) <;> simp
theorem size_cc (X Y : Nat → Bool) : size (cap X Y) + size (cup X Y) = size X + size Y := by
  unfold size
  rw [← su_add, ← su_add]
  refine su_congr 8 fun v _ => ?_
  unfold cap cup
  cases X v <;> cases Y v <;> rfl
theorem span_cc (I : Nat → Nat) (X Y : Nat → Bool) : span I X + span I Y ≤ span I (cap X Y) + span I (cup X Y) := by
  unfold span
  rw [← su_add, ← su_add]
  refine su_le 64 fun i _ => ?_
  show (if inn X i then I i else 0) + (if inn Y i then I i else 0) ≤ (if inn (cap X Y) i then I i else 0) + (if inn (cup X Y) i then I i else 0)
  rw [inn_cap]
  cases hx : inn X i <;> cases hy : inn Y i
  · simp
  · rw [inn_cup (.inr hy)]; simp
  · rw [inn_cup (.inl hx)]; simp
  · rw [inn_cup (.inl hx)]; simp
theorem size_two {X : Nat → Bool} {a b : Nat} (ha : a < 8) (hb : b < 8) (hab : a ≠ b) (xa : X a = true) (xb : X b = true) : 2 ≤ size X := by
  unfold size
  have h1 : su (fun v => if v = a then 1 else 0) 8 = 1 := by
    have := su_bump (f := fun _ => 0) (g := fun v => if v = a then 1 else 0) (c := 1) 8 ha (by simp) (fun i _ hne => by simp [hne])
    rw [this, su_zero 8 fun _ _ => rfl]
  have h2 : su (fun v => if v = b then 1 else 0) 8 = 1 := by
    have := su_bump (f := fun _ => 0) (g := fun v => if v = b then 1 else 0) (c := 1) 8 hb (by simp) (fun i _ hne => by simp [hne])
    rw [this, su_zero 8 fun _ _ => rfl]
  have h3 := su_le (f := fun v => (if v = a then 1 else 0) + (if v = b then 1 else 0)) (g := fun v => if X v then 1 else 0) 8 fun v _ => by
    show (if v = a then 1 else 0) + (if v = b then 1 else 0) ≤ (if X v then 1 else 0)
    by_cases h1 : v = a
    · subst h1
      rw [if_pos rfl, if_neg hab, xa]
      simp
    · by_cases h2 : v = b
      · subst h2
        rw [if_neg h1, if_pos rfl, xb]
        simp
      · rw [if_neg h1, if_neg h2]
        exact Nat.zero_le _
  rw [su_add, h1, h2] at h3
  exact h3
theorem size_inn {X : Nat → Bool} {i : Nat} (hi : i < 64) (hne : i / 8 ≠ i % 8) (h : inn X i = true) : 2 ≤ size X := by
  unfold inn at h
  rw [Bool.and_eq_true] at h
  exact size_two (by omega) (by omega) hne h.1 h.2
theorem span_add1 (I : Nat → Nat) {e : Nat} (he : e < 64) (X : Nat → Bool) : span (add1 I e) X = span I X + if inn X e then 1 else 0 := by
  unfold span
  refine su_bump (j := e) 64 he ?_ (fun i _ hne => ?_)
  · show (if inn X e then add1 I e e else 0) = (if inn X e then I e else 0) + _
    unfold add1
    cases inn X e <;> simp
  · show (if inn X i then add1 I e i else 0) = (if inn X i then I i else 0)
    unfold add1
    rw [if_neg hne]
theorem span_sub1 {I : Nat → Nat} {e : Nat} (he : e < 64) (hp : 0 < I e) (X : Nat → Bool) : span (sub1 I e) X + (if inn X e then 1 else 0) = span I X := by
  have h : span I X = span (add1 (sub1 I e) e) X := by
    unfold span
    refine su_congr 64 fun i _ => ?_
    have : add1 (sub1 I e) e i = I i := by
      unfold add1 sub1
      by_cases h : i = e
      · subst h
        simp
        omega
      · simp [h]
    rw [this]
  rw [h, span_add1 _ he]
theorem card_add1 (I : Nat → Nat) {e : Nat} (he : e < 64) : card (add1 I e) = card I + 1 :=
  su_bump (j := e) 64 he (by simp [add1]) (fun i _ hne => by simp [add1, hne])
theorem card_sub1 {I : Nat → Nat} {e : Nat} (he : e < 64) (hp : 0 < I e) : card (sub1 I e) + 1 = card I :=
  (su_bump (f := sub1 I e) (g := I) (j := e) 64 he (by simp [sub1]; omega) (fun i _ hne => by simp [sub1, hne])).symm
theorem span_mono {I J : Nat → Nat} (h : ∀ i, i < 64 → I i ≤ J i) (X : Nat → Bool) : span I X ≤ span J X :=
  su_le 64 fun i hi => by
    show (if inn X i then I i else 0) ≤ (if inn X i then J i else 0)
    split
    · exact h i hi
    · exact Nat.le_refl _
theorem span_congr {I J : Nat → Nat} (h : ∀ i, i < 64 → I i = J i) (X : Nat → Bool) : span I X = span J X :=
  su_congr 64 fun i hi => by rw [h i hi]
structure Sparse (k l : Nat) (I : Nat → Nat) : Prop where
  sp : ∀ X, 0 < span I X → span I X + l ≤ k * size X
  ll : ∀ i, i < 64 → 0 < I i → i / 8 ≠ i % 8
def tight (k l : Nat) (I : Nat → Nat) (X : Nat → Bool) : Prop := span I X + l = k * size X
section
variable {k l : Nat} {I J : Nat → Nat}
theorem Sparse.congr (h : Sparse k l I) (e : ∀ i, i < 64 → I i = J i) : Sparse k l J :=
  ⟨fun X hX => by rw [← span_congr e X] at hX ⊢; exact h.sp X hX, fun i hi hp => h.ll i hi (by rw [e i hi]; exact hp)⟩
theorem Sparse.sub (h : Sparse k l I) (e : ∀ i, i < 64 → J i ≤ I i) : Sparse k l J :=
  ⟨fun X hX => by
    have h1 := span_mono e X
    have := h.sp X (by omega)
    omega, fun i hi hp => h.ll i hi (by have := e i hi; omega)⟩
theorem Sparse.bound (hl : l < 2 * k) (h : Sparse k l I) {X : Nat → Bool} (h2 : 2 ≤ size X) : span I X + l ≤ k * size X := by
  by_cases h0 : 0 < span I X
  · exact h.sp X h0
  · have : 2 * k ≤ k * size X := by rw [Nat.mul_comm]; exact Nat.mul_le_mul_left _ h2
    omega
theorem tight_cc (hl : l < 2 * k) (h : Sparse k l I) {X Y : Nat → Bool} (hX : tight k l I X) (hY : tight k l I Y) (h2 : 2 ≤ size (cap X Y)) : tight k l I (cap X Y) ∧ tight k l I (cup X Y) := by
  have h1 := size_cc X Y
  have h3 := span_cc I X Y
  have hsz : size (cap X Y) ≤ size (cup X Y) := su_le 8 fun v _ => by
    show (if cap X Y v then 1 else 0) ≤ (if cup X Y v then 1 else 0)
    unfold cap cup
    cases X v <;> cases Y v <;> simp
  have h4 := h.bound hl h2
  have h5 := h.bound hl (X := cup X Y) (by omega)
  unfold tight at *
  have h6 : k * size (cap X Y) + k * size (cup X Y) = k * size X + k * size Y := by rw [← Nat.mul_add, ← Nat.mul_add, h1]
  omega
theorem not_add (hl : l < 2 * k) (h : Sparse k l I) {e : Nat} (he : e < 64) (hne : e / 8 ≠ e % 8) (hn : ¬ Sparse k l (add1 I e)) : ∃ X, inn X e = true ∧ tight k l I X := by
  apply Classical.byContradiction
  intro hno
  refine hn ⟨fun X hX => ?_, fun i hi hp => ?_⟩
  · rw [span_add1 I he] at hX ⊢
    cases hx : inn X e with
    | false =>
      rw [hx] at hX
      simp only [Bool.false_eq_true, if_false, Nat.add_zero] at hX ⊢
      exact h.sp X hX
    | true =>
      have h2 := size_inn he hne hx
      have h3 := h.bound hl h2
      by_cases ht : tight k l I X
      · exact absurd ⟨X, hx, ht⟩ hno
      · unfold tight at ht
        simp only [if_true]
        omega
  · unfold add1 at hp
    by_cases hie : i = e
    · rw [hie]; exact hne
    · rw [if_neg hie] at hp
      exact h.ll i hi hp
theorem tight_no {e : Nat} (he : e < 64) {X : Nat → Bool} (hx : inn X e = true) (ht : k * size X ≤ span I X + l) : ¬ Sparse k l (add1 I e) := fun h => by
  have := h.sp X (by rw [span_add1 I he, hx]; simp)
  rw [span_add1 I he, hx] at this
  simp only [if_true] at this
  omega
theorem least_tight {e : Nat} : ∀ n, (∃ X, size X ≤ n ∧ inn X e = true ∧ tight k l I X) → ∃ X, inn X e = true ∧ tight k l I X ∧ ∀ Y, inn Y e = true → tight k l I Y → size X ≤ size Y
  | 0, ⟨X, h0, h1, h2⟩ => ⟨X, h1, h2, fun Y _ _ => by omega⟩
  | n + 1, ⟨X, h0, h1, h2⟩ => by
    by_cases h : ∃ Y, size Y ≤ n ∧ inn Y e = true ∧ tight k l I Y
    · exact least_tight n h
    · refine ⟨X, h1, h2, fun Y h3 h4 => ?_⟩
      apply Classical.byContradiction
      intro h5
      exact h ⟨Y, by omega, h3, h4⟩
theorem cap_less {X Y : Nat → Bool} {f : Nat} (hf : f < 64) (hX : inn X f = true) (hY : inn Y f = false) : size (cap X Y) < size X := by
  unfold inn at hX hY
  rw [Bool.and_eq_true] at hX
  have : ∃ v, v < 8 ∧ X v = true ∧ Y v = false := by
    cases h1 : Y (f / 8) with
    | false => exact ⟨f / 8, by omega, hX.1, h1⟩
    | true =>
      rw [h1, Bool.true_and] at hY
      exact ⟨f % 8, by omega, hX.2, hY⟩
  obtain ⟨v, hv, h1, h2⟩ := this
  refine su_lt 8 (fun v _ => ?_) hv ?_
  · show (if cap X Y v then 1 else 0) ≤ (if X v then 1 else 0)
    unfold cap
    cases X v <;> cases Y v <;> simp
  · show (if cap X Y v then 1 else 0) < (if X v then 1 else 0)
    unfold cap
    rw [h1, h2]
    simp
theorem exch (hl : l < 2 * k) : ∀ n (I J : Nat → Nat), Sparse k l I → Sparse k l J → su (fun i => J i - I i) 64 ≤ n → card I < card J → ∃ e, e < 64 ∧ I e < J e ∧ Sparse k l (add1 I e) := by
  intro n
  induction n with
  | zero =>
    intro I J hI hJ hn hc
    have : card J ≤ card I := su_le 64 fun i hi => by
      have : J i - I i ≤ su (fun i => J i - I i) 64 := su_one (f := fun i => J i - I i) hi
      omega
    omega
  | succ n ih =>
    intro I J hI hJ hn hc
    apply Classical.byContradiction
    intro hno
    have hnot : ∀ e, e < 64 → I e < J e → ¬ Sparse k l (add1 I e) := fun e h1 h2 h3 => hno ⟨e, h1, h2, h3⟩
    -- a bar of J more
    have : ∃ e, e < 64 ∧ I e < J e := by
      apply Classical.byContradiction
      intro hx
      have : card J ≤ card I := su_le 64 fun i hi => by
        apply Classical.byContradiction
        intro h
        exact hx ⟨i, hi, by omega⟩
      omega
    obtain ⟨e, he, hle⟩ := this
    have hne := hJ.ll e he (by omega)
    obtain ⟨X0, hx0, ht0⟩ := not_add hl hI he hne (hnot e he hle)
    obtain ⟨X, hx, ht, hmin⟩ := least_tight (size X0) ⟨X0, Nat.le_refl _, hx0, ht0⟩
    -- a bar of I more, in X
    have : ∃ f, f < 64 ∧ inn X f = true ∧ J f < I f := by
      apply Classical.byContradiction
      intro hno2
      have h1 : span I X < span J X := su_lt (j := e) 64 (fun i hi => by
        show (if inn X i then I i else 0) ≤ (if inn X i then J i else 0)
        cases hxi : inn X i with
        | false => exact Nat.le_refl _
        | true =>
          simp only [if_true]
          apply Classical.byContradiction
          intro h
          exact hno2 ⟨i, hi, hxi, by omega⟩) he (by
        show (if inn X e then I e else 0) < (if inn X e then J e else 0)
        rw [hx]
        exact hle)
      have h2 := hJ.sp X (by omega)
      unfold tight at ht
      omega
    obtain ⟨f, hf, hxf, hlf⟩ := this
    have hfe : f ≠ e := fun h => by subst h; omega
    have hfne := hI.ll f hf (by omega)
    have hpf : 0 < add1 I e f := by unfold add1; rw [if_neg hfe]; omega
    -- the exchange
    have hspan : ∀ Y, span (sub1 (add1 I e) f) Y + (if inn Y f then 1 else 0) = span I Y + (if inn Y e then 1 else 0) := fun Y => by
      rw [span_sub1 hf hpf, span_add1 I he]
    have hI' : Sparse k l (sub1 (add1 I e) f) := by
      refine ⟨fun Y hY => ?_, fun i hi hp => ?_⟩
      · have hs := hspan Y
        obtain ⟨i, hi, hpi⟩ := su_pos 64 hY
        have hyi : inn Y i = true := by
          cases h : inn Y i with
          | true => rfl
          | false => rw [h] at hpi; simp at hpi
        have hine : i / 8 ≠ i % 8 := by
          rw [hyi] at hpi
          simp only [if_true] at hpi
          unfold sub1 add1 at hpi
          by_cases hie : i = e
          · rw [hie]; exact hne
          · by_cases hif : i = f
            · rw [hif]; exact hfne
            · rw [if_neg hif, if_neg hie] at hpi
              exact hI.ll i hi hpi
        have h2 := size_inn hi hine hyi
        have hb := hI.bound hl h2
        cases hye : inn Y e with
        | false =>
          rw [hye] at hs
          simp only [Bool.false_eq_true, if_false] at hs
          omega
        | true =>
          cases hyf : inn Y f with
          | true =>
            rw [hye, hyf] at hs
            simp only [if_true] at hs
            omega
          | false =>
            rw [hye, hyf] at hs
            simp only [if_true, Bool.false_eq_true, if_false] at hs
            by_cases hty : tight k l I Y
            · have hc2 : inn (cap X Y) e = true := by rw [inn_cap, hx, hye]; rfl
              have h3 := size_inn he hne hc2
              have h4 := (tight_cc hl hI ht hty h3).1
              have h5 := hmin _ hc2 h4
              have h6 := cap_less hf hxf hyf
              omega
            · unfold tight at hty
              omega
      · unfold sub1 add1 at hp
        by_cases hie : i = e
        · rw [hie]; exact hne
        · by_cases hif : i = f
          · rw [hif]; exact hfne
          · rw [if_neg hif, if_neg hie] at hp
            exact hI.ll i hi hp
    have hcard : card (sub1 (add1 I e) f) = card I := by
      have h1 := card_sub1 hf hpf
      have h2 := card_add1 I he
      omega
    have hdist : su (fun i => J i - sub1 (add1 I e) f i) 64 ≤ n := by
      have h1 := su_bump (f := fun i => J i - sub1 (add1 I e) f i) (g := fun i => J i - I i) (j := e) (c := 1) 64 he (by
        show J e - I e = J e - sub1 (add1 I e) f e + 1
        unfold sub1 add1
        rw [if_neg (Ne.symm hfe), if_pos rfl]
        omega) (fun i _ hie => by
        show J i - I i = J i - sub1 (add1 I e) f i
        unfold sub1 add1
        by_cases hif : i = f
        · subst hif
          rw [if_pos rfl, if_neg hie]
          omega
        · rw [if_neg hif, if_neg hie])
      omega
    obtain ⟨e', he', hle', hs'⟩ := ih _ J hI' hJ hdist (by omega)
    have hef : e' ≠ f := fun h => by
      subst h
      unfold sub1 add1 at hle'
      rw [if_pos rfl, if_neg hfe] at hle'
      omega
    have hlI : I e' < J e' := by
      unfold sub1 add1 at hle'
      rw [if_neg hef] at hle'
      by_cases h : e' = e
      · rw [if_pos h] at hle'
        omega
      · rw [if_neg h] at hle'
        exact hle'
    obtain ⟨X', hx', ht'⟩ := not_add hl hI he' (hJ.ll e' he' (by omega)) (hnot e' he' hlI)
    cases hxf' : inn X' f with
    | false =>
      have hs := hspan X'
      rw [hxf'] at hs
      simp only [Bool.false_eq_true, if_false] at hs
      refine tight_no he' hx' ?_ hs'
      unfold tight at ht'
      omega
    | true =>
      have hc2 : inn (cap X X') f = true := by rw [inn_cap, hxf, hxf']; rfl
      have h4 := (tight_cc hl hI ht ht' (size_inn hf hfne hc2)).2
      have hs := hspan (cup X X')
      rw [inn_cup (.inl hx), inn_cup (.inl hxf)] at hs
      simp only [if_true] at hs
      refine tight_no (X := cup X X') he' (inn_cup (.inr hx')) ?_ hs'
      unfold tight at h4
      omega
structure IsRank (k l : Nat) (M : Nat → Nat) (r : Nat) : Prop where
  ex : ∃ I, (∀ i, i < 64 → I i ≤ M i) ∧ Sparse k l I ∧ card I = r
  mx : ∀ J, (∀ i, i < 64 → J i ≤ M i) → Sparse k l J → card J ≤ r
variable {M N : Nat → Nat} {r s : Nat}
theorem IsRank.mono (h : IsRank k l M r) (h2 : IsRank k l N s) (hMN : ∀ i, i < 64 → M i ≤ N i) : r ≤ s := by
  obtain ⟨I, h3, h4, h5⟩ := h.ex
  have := h2.mx I (fun i hi => Nat.le_trans (h3 i hi) (hMN i hi)) h4
  omega
theorem IsRank.uniq (h : IsRank k l M r) (h2 : IsRank k l N s) (hMN : ∀ i, i < 64 → M i = N i) : r = s :=
  Nat.le_antisymm (h.mono h2 fun i hi => Nat.le_of_eq (hMN i hi)) (h2.mono h fun i hi => Nat.le_of_eq (hMN i hi).symm)
theorem IsRank.of_max (hl : l < 2 * k) (hI : Sparse k l I) (h1 : ∀ i, i < 64 → I i ≤ M i) (h2 : ∀ e, e < 64 → I e < M e → ¬ Sparse k l (add1 I e)) : IsRank k l M (card I) :=
  ⟨⟨I, h1, hI, rfl⟩, fun J hJ hs => by
    apply Classical.byContradiction
    intro h
    obtain ⟨e, he, hlt, hsp⟩ := exch hl _ I J hI hs (Nat.le_refl _) (by omega)
    exact h2 e he (Nat.lt_of_lt_of_le hlt (hJ e he)) hsp⟩
theorem IsRank.extend (hl : l < 2 * k) (h : IsRank k l M r) : ∀ n (I : Nat → Nat), Sparse k l I → (∀ i, i < 64 → I i ≤ M i) → card I + n = r → ∃ I', (∀ i, i < 64 → I i ≤ I' i) ∧ (∀ i, i < 64 → I' i ≤ M i) ∧ Sparse k l I' ∧ card I' = r := by
  intro n
  induction n with
  | zero => intro I hI h1 h2; exact ⟨I, fun _ _ => Nat.le_refl _, h1, hI, by omega⟩
  | succ n ih =>
    intro I hI h1 h2
    obtain ⟨B, b1, b2, b3⟩ := h.ex
    obtain ⟨e, he, hlt, hsp⟩ := exch hl _ I B hI b2 (Nat.le_refl _) (by omega)
    obtain ⟨I', c1, c2, c3, c4⟩ := ih (add1 I e) hsp (fun i hi => by
      unfold add1
      by_cases hie : i = e
      · rw [if_pos hie]
        subst hie
        have := b1 i hi
        omega
      · rw [if_neg hie]
        exact h1 i hi) (by rw [card_add1 I he]; omega)
    refine ⟨I', fun i hi => ?_, c2, c3, c4⟩
    have := c1 i hi
    unfold add1 at this
    split at this <;> omega
theorem IsRank.fill (hl : l < 2 * k) (h : IsRank k l M r) (hI : Sparse k l I) (h1 : ∀ i, i < 64 → I i ≤ M i) {S : Nat → Bool} (ht : tight k l I S) (hMN : ∀ i, i < 64 → M i ≤ N i) (hS : ∀ i, i < 64 → M i < N i → inn S i = true) : IsRank k l N r := by
  have hc := h.mx I h1 hI
  obtain ⟨I', c1, c2, c3, c4⟩ := h.extend hl (r - card I) I hI h1 (by omega)
  have : IsRank k l N (card I') := IsRank.of_max hl c3 (fun i hi => Nat.le_trans (c2 i hi) (hMN i hi)) fun e he hlt => by
    by_cases hM : I' e < M e
    · intro hsp
      have := h.mx (add1 I' e) (fun i hi => by
        unfold add1
        by_cases hie : i = e
        · rw [if_pos hie]; subst hie; omega
        · rw [if_neg hie]; exact c2 i hi) hsp
      rw [card_add1 I' he] at this
      omega
    · have hin := hS e he (by have := c2 e he; omega)
      refine tight_no he hin ?_
      have := span_mono c1 S
      unfold tight at ht
      omega
  rw [c4] at this
  exact this
theorem IsRank.add (h : IsRank k l M r) {e : Nat} (he : e < 64) (h2 : IsRank k l (add1 M e) s) : r ≤ s ∧ s ≤ r + 1 := by
  refine ⟨h.mono h2 fun i hi => by unfold add1; split <;> omega, ?_⟩
  obtain ⟨I, h3, h4, h5⟩ := h2.ex
  by_cases hle : I e ≤ M e
  · have := h.mx I (fun i hi => by
      have := h3 i hi
      unfold add1 at this
      by_cases hie : i = e
      · subst hie; exact hle
      · rw [if_neg hie] at this; exact this) h4
    omega
  · have hp : 0 < I e := by omega
    have := h.mx (sub1 I e) (fun i hi => by
      have := h3 i hi
      unfold add1 at this
      unfold sub1
      by_cases hie : i = e
      · rw [if_pos hie] at this ⊢; omega
      · rw [if_neg hie] at this ⊢; exact this) (h4.sub fun i hi => by unfold sub1; split <;> omega)
    have := card_sub1 he hp
    omega
theorem IsRank.split (h : IsRank k l M r) {A B : Nat → Nat} {a b : Nat} (hA : IsRank k l A a) (hB : IsRank k l B b) (hM : ∀ i, i < 64 → M i ≤ A i + B i) : r ≤ a + b := by
  obtain ⟨I, h3, h4, h5⟩ := h.ex
  have h6 := hA.mx (fun i => min (I i) (A i)) (fun i _ => Nat.min_le_right _ _) (h4.sub fun i _ => Nat.min_le_left _ _)
  have h7 := hB.mx (fun i => I i - A i) (fun i hi => by have := h3 i hi; have := hM i hi; omega) (h4.sub fun i _ => Nat.sub_le _ _)
  have h8 : card I = card (fun i => min (I i) (A i)) + card (fun i => I i - A i) := by
    unfold card
    rw [← su_add]
    exact su_congr 64 fun i _ => by omega
  omega
end
end Go.Sp
end
section
set_option linter.unusedVariables false
set_option linter.unusedSimpArgs false
set_option linter.unnecessarySimpa false
open Go Go.Fw Go.Sp
namespace Go.Proofs.Yteognanhfpbghaa
def codeB (x : TBar) : Nat := x.A.toNat * 8 + x.B.toNat
def mult : List TBar → Nat → Nat
  | [], _ => 0
  | x :: L, i => add1 (mult L) (codeB x) i
structure OkB (x : TBar) : Prop where
  a0 : 0 ≤ x.A
  a8 : x.A < 8
  b0 : 0 ≤ x.B
  b8 : x.B < 8
  ab : x.A ≠ x.B
theorem OkB.lt {x : TBar} (h : OkB x) : codeB x < 64 := by
  have := h.a0; have := h.a8; have := h.b0; have := h.b8
  unfold codeB
  omega
theorem OkB.dm {x : TBar} (h : OkB x) : codeB x / 8 = x.A.toNat ∧ codeB x % 8 = x.B.toNat := by
  have := h.a0; have := h.a8; have := h.b0; have := h.b8
  unfold codeB
  omega
theorem OkB.ne {x : TBar} (h : OkB x) : codeB x / 8 ≠ codeB x % 8 := by
  have := h.a0; have := h.a8; have := h.b0; have := h.b8; have := h.ab
  rw [h.dm.1, h.dm.2]
  omega
theorem OkB.inn {x : TBar} (h : OkB x) (X : Nat → Bool) : Sp.inn X (codeB x) = (X x.A.toNat && X x.B.toNat) := by
  unfold Sp.inn
  rw [h.dm.1, h.dm.2]
theorem mult_append (L L' : List TBar) (i : Nat) : mult (L ++ L') i = mult L i + mult L' i := by
  induction L with
  | nil => simp [mult]
  | cons x L ih =>
    simp only [List.cons_append, mult, add1]
    split <;> omega
theorem mult_snoc (L : List TBar) (x : TBar) (i : Nat) : mult (L ++ [x]) i = add1 (mult L) (codeB x) i := by
  rw [mult_append]
  simp only [mult, add1]
  split <;> omega
theorem mult_perm {L L' : List TBar} (h : L.Perm L') (i : Nat) : mult L i = mult L' i := by
  induction h with
  | nil => rfl
  | cons x _ ih => simp only [mult, add1, ih]
  | swap x y L =>
    simp only [mult, add1]
    split <;> split <;> rfl
  | trans _ _ ih1 ih2 => exact ih1.trans ih2
theorem mult_pos {L : List TBar} {i : Nat} (h : 0 < mult L i) : ∃ x ∈ L, codeB x = i := by
  induction L with
  | nil => simp [mult] at h
  | cons x L ih =>
    by_cases hi : i = codeB x
    · exact ⟨x, List.mem_cons_self .., hi.symm⟩
    · simp only [mult, add1, if_neg hi] at h
      obtain ⟨y, h1, h2⟩ := ih h
      exact ⟨y, List.mem_cons_of_mem _ h1, h2⟩
theorem card_mult {L : List TBar} (h : ∀ x ∈ L, OkB x) : card (mult L) = L.length := by
  induction L with
  | nil => exact su_zero 64 fun _ _ => rfl
  | cons x L ih =>
    show card (add1 (mult L) (codeB x)) = L.length + 1
    rw [card_add1 _ (h x (List.mem_cons_self ..)).lt, ih fun y hy => h y (List.mem_cons_of_mem _ hy)]
theorem span_mult {L : List TBar} (h : ∀ x ∈ L, OkB x) (X : Nat → Bool) : span (mult L) X = L.countP fun x => X x.A.toNat && X x.B.toNat := by
  induction L with
  | nil =>
    refine su_zero 64 fun i _ => ?_
    show (if inn X i then 0 else 0) = 0
    split <;> rfl
  | cons x L ih =>
    have hx := h x (List.mem_cons_self ..)
    show span (add1 (mult L) (codeB x)) X = _
    rw [span_add1 _ hx.lt, hx.inn, ih fun y hy => h y (List.mem_cons_of_mem _ hy), List.countP_cons]
theorem mult_ll {L : List TBar} (h : ∀ x ∈ L, OkB x) (i : Nat) (_ : i < 64) (hp : 0 < mult L i) : i / 8 ≠ i % 8 := by
  obtain ⟨x, hx, rfl⟩ := mult_pos hp
  exact (h x hx).ne
theorem su_mul (c : Nat) (f : Nat → Nat) : ∀ n, su (fun i => c * f i) n = c * su f n
  | 0 => by simp [su]
  | n + 1 => by
    show su (fun i => c * f i) n + c * f n = c * (su f n + f n)
    rw [su_mul c f n, Nat.mul_add]
theorem su_at (f : Nat → Nat) {j n : Nat} (hj : j < n) : su (fun i => if i = j then f j else 0) n = f j := by
  have := su_bump (f := fun _ => 0) (g := fun i => if i = j then f j else 0) (c := f j) n hj (by simp) (fun i _ hne => by simp [hne])
  rw [this, su_zero n fun _ _ => rfl]
  omega
theorem su_pair (f : Nat → Nat) {a b n : Nat} (ha : a < n) (hb : b < n) (hab : a ≠ b) : f a + f b ≤ su f n := by
  have h3 := su_le (f := fun v => (if v = a then f a else 0) + (if v = b then f b else 0)) (g := f) n fun v _ => by
    show (if v = a then f a else 0) + (if v = b then f b else 0) ≤ f v
    by_cases h1 : v = a
    · subst h1
      rw [if_pos rfl, if_neg hab]
      exact Nat.le_refl _
    · by_cases h2 : v = b
      · subst h2
        rw [if_neg h1, if_pos rfl]
        omega
      · rw [if_neg h1, if_neg h2]
        exact Nat.zero_le _
  rw [su_add, su_at f ha, su_at f hb] at h3
  exact h3
theorem tails_sum (X : Nat → Bool) : ∀ T : List Int, (∀ t ∈ T, 0 ≤ t ∧ t < 8) → su (fun v => if X v then T.count (v : Int) else 0) 8 = T.countP fun t => X t.toNat
  | [], _ => by
    refine su_zero 8 fun v _ => ?_
    show (if X v then ([] : List Int).count (v : Int) else 0) = 0
    split <;> rfl
  | t :: T, h => by
    have ht := h t (List.mem_cons_self ..)
    rw [List.countP_cons, ← tails_sum X T fun s hs => h s (List.mem_cons_of_mem _ hs)]
    refine su_bump (j := t.toNat) 8 (by omega) ?_ (fun i _ hne => ?_)
    · show (if X t.toNat then (t :: T).count ((t.toNat : Nat) : Int) else 0) = _
      rw [Int.toNat_of_nonneg ht.1, List.count_cons_self]
      cases X t.toNat <;> simp
    · show (if X i then (t :: T).count (i : Int) else 0) = (if X i then T.count (i : Int) else 0)
      rw [List.count_cons_of_ne (by omega)]
theorem countP_le2 {α β : Type} {p : α → Bool} {q : β → Bool} : ∀ (L : List α) (T : List β), L.length = T.length → (∀ (i : Nat) x t, L[i]? = some x → T[i]? = some t → p x = true → q t = true) → L.countP p ≤ T.countP q
  | [], _, _, _ => by simp
  | x :: L, [], h, _ => by simp at h
  | x :: L, t :: T, h, hh => by
    have h1 := countP_le2 L T (by simpa using h) fun i x t hx ht => hh (i + 1) x t (by simpa using hx) (by simpa using ht)
    have h2 := hh 0 x t rfl rfl
    rw [List.countP_cons, List.countP_cons]
    cases hp : p x with
    | false => simp; split <;> omega
    | true => rw [h2 hp]; simp; exact h1
section
variable {P : Int} {bars : List TBar} {k : Int} {m : Nat} {p : TPebbles}
def plc (bars : List TBar) (p : TPebbles) : List TBar := (List.range p.Placed.length).map (pbar bars p)
theorem GB.ok (hg : GB P bars) {i : Nat} {x : TBar} (h : bars[i]? = some x) : OkB x := by
  have := hg.p8
  exact ⟨hg.a0 h, by have := hg.ap h; omega, hg.b0 h, by have := hg.bp h; omega, hg.ab h⟩
theorem plc_len : (plc bars p).length = p.Placed.length := by simp [plc]
theorem plc_get {i : Nat} {x : TBar} (h : (plc bars p)[i]? = some x) : i < p.Placed.length ∧ x = pbar bars p i := by
  unfold plc at h
  rw [List.getElem?_map] at h
  cases hr : (List.range p.Placed.length)[i]? with
  | none => rw [hr] at h; cases h
  | some j =>
    rw [hr] at h
    have hj := List.getElem?_eq_some_iff.1 hr
    obtain ⟨h1, h2⟩ := hj
    simp at h1 h2 h
    subst h2
    exact ⟨h1, h.symm⟩
theorem PB.plc_ok (hg : GB P bars) (hp : PB P bars k m p) : ∀ x ∈ plc bars p, OkB x := fun x hx => by
  obtain ⟨i, hi⟩ := List.getElem?_of_mem hx
  obtain ⟨h1, rfl⟩ := plc_get hi
  obtain ⟨_, _, _, h2⟩ := hp.bar hg h1
  exact hg.ok h2
theorem plc_congr {p' : TPebbles} (h : p'.Placed = p.Placed) : plc bars p' = plc bars p := by
  unfold plc
  rw [h]
  refine List.map_congr_left fun i _ => ?_
  unfold pbar
  rw [h]
theorem plc_snoc {F T : List Int} {x : TBar} (hx : bars[m]? = some x) : plc bars ⟨F, T, p.Placed ++ [(m : Int)]⟩ = plc bars p ++ [x] := by
  unfold plc
  simp only [List.length_append, List.length_singleton]
  rw [List.range_succ, List.map_append]
  congr 1
  · refine List.map_congr_left fun i hi => ?_
    rw [List.mem_range] at hi
    unfold pbar
    simp only
    rw [List.getElem?_append_left hi]
  · simp only [List.map_cons, List.map_nil]
    unfold pbar
    simp only
    rw [List.getElem?_append_right (Nat.le_refl _), Nat.sub_self]
    simp [hx]
theorem PB.tail_in (hg : GB P bars) (hp : PB P bars k m p) {i : Nat} {t : Int} (h : p.Tails[i]? = some t) : i < p.Placed.length ∧ 0 ≤ t ∧ t < P := by
  have hi := (List.getElem?_eq_some_iff.1 h).1
  have htl := hp.tl
  have := hp.pbar_ok hg (i := i) (by omega)
  rcases hp.ends h with rfl | rfl
  · exact ⟨by omega, by omega, by omega⟩
  · exact ⟨by omega, by omega, by omega⟩
def inP (P : Int) (X : Nat → Bool) (v : Nat) : Bool := X v && decide ((v : Int) < P)
def freeOf (p : TPebbles) (v : Nat) : Nat := ((p.Free[v]?).getD 0).toNat
theorem PB.sum (hg : GB P bars) (hp : PB P bars k m p) (X : Nat → Bool) : su (fun v => if inP P X v then freeOf p v else 0) 8 + p.Tails.countP (fun t => X t.toNat) = k.toNat * size (inP P X) := by
  have h8 := hg.p8
  rw [← tails_sum X p.Tails fun t ht => by
    obtain ⟨i, hi⟩ := List.getElem?_of_mem ht
    have := hp.tail_in hg hi
    omega]
  unfold size
  rw [← su_mul, ← su_add]
  refine su_congr 8 fun v hv => ?_
  show (if inP P X v then freeOf p v else 0) + (if X v then p.Tails.count (v : Int) else 0) = k.toNat * (if inP P X v then 1 else 0)
  unfold inP
  cases hx : X v with
  | false => simp
  | true =>
    by_cases hvP : (v : Int) < P
    · obtain ⟨f, hf, _, f0, fk⟩ := hp.free_in (v := (v : Int)) (by omega) hvP
      rw [Int.toNat_natCast] at hf
      have := hp.fr hf
      unfold freeOf
      rw [hf, decide_eq_true hvP]
      simp
      omega
    · have : p.Tails.count (v : Int) = 0 := by
        rw [List.count_eq_zero]
        intro hm
        obtain ⟨i, hi⟩ := List.getElem?_of_mem hm
        have := hp.tail_in hg hi
        omega
      rw [this, decide_eq_false hvP]
      simp
theorem size_inP (X : Nat → Bool) : size (inP P X) ≤ size X := su_le 8 fun v _ => by
  show (if inP P X v then 1 else 0) ≤ (if X v then 1 else 0)
  unfold inP
  cases X v <;> simp
  split <;> omega
theorem PB.span_tails (hg : GB P bars) (hp : PB P bars k m p) (X : Nat → Bool) : span (mult (plc bars p)) X ≤ p.Tails.countP fun t => X t.toNat := by
  rw [span_mult (hp.plc_ok hg)]
  refine countP_le2 _ _ (by rw [plc_len, hp.tl]) fun i x t hx ht h => ?_
  obtain ⟨h1, rfl⟩ := plc_get hx
  rw [Bool.and_eq_true] at h
  rcases hp.ends ht with rfl | rfl
  · exact h.1
  · exact h.2
theorem PB.tails_span (hg : GB P bars) (hp : PB P bars k m p) {X : Nat → Bool} (hc : ∀ (i : Nat) (t : Int), p.Tails[i]? = some t → X t.toNat = true → X (otherE (pbar bars p i) t).toNat = true) : p.Tails.countP (fun t => X t.toNat) ≤ span (mult (plc bars p)) X := by
  rw [span_mult (hp.plc_ok hg)]
  refine countP_le2 _ _ (by rw [plc_len, hp.tl]) fun i t x ht hx h => ?_
  obtain ⟨h1, rfl⟩ := plc_get hx
  have h2 := hc i t ht h
  have h3 := hp.pbar_ok hg h1
  rw [Bool.and_eq_true]
  unfold otherE at h2
  rcases hp.ends ht with rfl | rfl
  · simp only [beq_self_eq_true, cond_true] at h2
    exact ⟨h, h2⟩
  · have e : ((pbar bars p i).A == (pbar bars p i).B) = false := by simp; exact h3.2.2.1
    rw [e, cond_false] at h2
    exact ⟨h2, h⟩
theorem PB.span_le (hg : GB P bars) (hp : PB P bars k m p) {a b : Int} (a0 : 0 ≤ a) (a1 : a < P) (b0 : 0 ≤ b) (b1 : b < P) (hab : a ≠ b) {X : Nat → Bool} (xa : X a.toNat = true) (xb : X b.toNat = true) : span (mult (plc bars p)) X + (two p a b).toNat ≤ k.toNat * size X := by
  have h8 := hg.p8
  have h1 := hp.sum hg X
  have h2 := hp.span_tails hg X
  have h3 : k.toNat * size (inP P X) ≤ k.toNat * size X := Nat.mul_le_mul_left _ (size_inP X)
  have h4 := su_pair (fun v => if inP P X v then freeOf p v else 0) (a := a.toNat) (b := b.toNat) (n := 8) (by omega) (by omega) (by omega)
  have ia : inP P X a.toNat = true := by unfold inP; rw [xa]; simp; omega
  have ib : inP P X b.toNat = true := by unfold inP; rw [xb]; simp; omega
  simp only [ia, ib, if_true] at h4
  obtain ⟨fa, ha, _, fa0, _⟩ := hp.free_in a0 a1
  obtain ⟨fb, hb, _, fb0, _⟩ := hp.free_in b0 b1
  unfold freeOf at h1 h4
  unfold two
  rw [ha, hb] at h4 ⊢
  simp only [Option.getD_some] at h4 ⊢
  omega
theorem PB.blocked (hg : GB P bars) (hp : PB P bars k m p) {a b : Int} (hab : a ≠ b) {q q' : List Int} (hq : Reach P bars p a b q) (hq' : Reach P bars p b a q') : ∃ X : Nat → Bool, X a.toNat = true ∧ X b.toNat = true ∧ k.toNat * size X ≤ span (mult (plc bars p)) X + (two p a b).toNat := by
  have h8 := hg.p8
  obtain ⟨a0, a1⟩ := hq.rng a hq.fst
  obtain ⟨b0, b1⟩ := hq'.rng b hq'.fst
  have hX : ∀ v : Int, 0 ≤ v → (decide (((v.toNat : Nat) : Int) ∈ q ∨ ((v.toNat : Nat) : Int) ∈ q') = true ↔ (v ∈ q ∨ v ∈ q')) := fun v hv => by rw [decide_eq_true_eq, Int.toNat_of_nonneg hv]
  refine ⟨fun v => decide ((v : Int) ∈ q ∨ (v : Int) ∈ q'), (hX a a0).2 (.inl hq.fst), (hX b b0).2 (.inr hq'.fst), ?_⟩
  generalize hXd : (fun v : Nat => decide ((v : Int) ∈ q ∨ (v : Int) ∈ q')) = X
  have hXe : ∀ v : Nat, X v = true ↔ ((v : Int) ∈ q ∨ (v : Int) ∈ q') := fun v => by rw [← hXd]; exact decide_eq_true_iff
  have hin : ∀ v, inP P X v = X v := fun v => by
    unfold inP
    cases hx : X v with
    | false => rfl
    | true =>
      have : (v : Int) < P := by
        rcases (hXe v).1 hx with h | h
        · exact (hq.rng _ h).2
        · exact (hq'.rng _ h).2
      simp [this]
  have h1 := hp.sum hg X
  rw [show inP P X = X from funext hin] at h1
  have h2 := hp.tails_span hg (X := X) fun i t ht hx => by
    obtain ⟨hi, t0, t1⟩ := hp.tail_in hg ht
    have ho := (other_ok (hp.pbar_ok hg hi) (hp.ends ht)).1
    rw [hXe, Int.toNat_of_nonneg t0] at hx
    rw [hXe, Int.toNat_of_nonneg ho]
    rcases hx with h | h
    · exact .inl (hq.clo i t ht h)
    · exact .inr (hq'.clo i t ht h)
  have h3 := su_le (f := fun v => if X v then freeOf p v else 0) (g := fun v => (if v = a.toNat then freeOf p a.toNat else 0) + (if v = b.toNat then freeOf p b.toNat else 0)) 8 fun v _ => by
    show (if X v then freeOf p v else 0) ≤ (if v = a.toNat then freeOf p a.toNat else 0) + (if v = b.toNat then freeOf p b.toNat else 0)
    by_cases hva : v = a.toNat
    · subst hva
      rw [if_pos rfl]
      split <;> omega
    · by_cases hvb : v = b.toNat
      · subst hvb
        rw [if_pos rfl]
        split <;> omega
      · rw [if_neg hva, if_neg hvb]
        cases hx : X v with
        | false => simp
        | true =>
          have h0 : p.Free[v]? = some 0 := by
            rcases (hXe v).1 hx with h | h
            · have := hq.zero _ h (by omega) (by omega)
              rwa [Int.toNat_natCast] at this
            · have := hq'.zero _ h (by omega) (by omega)
              rwa [Int.toNat_natCast] at this
          unfold freeOf
          rw [h0]
          simp
  rw [su_add, su_at (freeOf p) (show a.toNat < 8 by omega), su_at (freeOf p) (show b.toNat < 8 by omega)] at h3
  obtain ⟨fa, ha, _, fa0, _⟩ := hp.free_in a0 a1
  obtain ⟨fb, hb, _, fb0, _⟩ := hp.free_in b0 b1
  unfold freeOf at h3 h1
  unfold two
  rw [ha, hb] at h3 ⊢
  simp only [Option.getD_some] at h3 ⊢
  omega
theorem place_info {l : Int} (hg : GB P bars) (hp : PB P bars k m p) (hml : m < bars.length) (hl : 0 ≤ l ∧ l ≤ 2 * k - 1) {x : TBar} (hx : bars[m]? = some x) :
    (∃ p' F T, PB P bars k m p' ∧ p'.Placed = p.Placed ∧ l + 1 ≤ two p' x.A x.B ∧ placeI bars l p m = ⟨F, T, p.Placed ++ [(m : Int)]⟩) ∨
      (placeI bars l p m = p ∧ ∃ p' q q', PB P bars k m p' ∧ p'.Placed = p.Placed ∧ two p' x.A x.B < l + 1 ∧ Reach P bars p' x.A x.B q ∧ Reach P bars p' x.B x.A q') := by
  have hlen := hg.len
  have k3 := hp.k3
  have k1 := hp.k1
  have hxi := idx_of (k := m) hx
  have hw : w64 (l + 1) = l + 1 := w64_small (by omega) (by omega)
  rcases gather_both hg hp (by omega) (g := ⟨P, bars⟩) rfl rfl (hg.a0 hx) (hg.ap hx) (hg.b0 hx) (hg.bp hx) (hg.ab hx) (want := l + 1) (by omega) with ⟨p', s1, i1, hp', hpl, htwo⟩ | ⟨p', s1, i1, hp', hpl, hlt, ⟨q, hq⟩, q', hq'⟩
  · obtain ⟨fa, hfa, hia, fa0, fak⟩ := hp'.free_in (hg.a0 hx) (hg.ap hx)
    obtain ⟨fb, hfb, hib, fb0, fbk⟩ := hp'.free_in (hg.b0 hx) (hg.bp hx)
    have htwo2 := htwo
    unfold two at htwo
    rw [hfa, hfb] at htwo
    simp only [Option.getD_some] at htwo
    have hpll := hp'.pl
    have htl := hp'.tl
    obtain ⟨t, f, hte, htf, hti, hpos, hfk, htail⟩ : ∃ t f, (t = x.A ∨ t = x.B) ∧ p'.Free[t.toNat]? = some f ∧ idx p'.Free t = some f ∧ 0 < f ∧ f ≤ k ∧ (bif fa == 0 then some x.B else some x.A : Option Int) = some t := by
      by_cases h0 : fa = 0
      · exact ⟨x.B, fb, .inr rfl, hfb, hib, by omega, fbk, by simp [h0]⟩
      · have : (fa == 0) = false := by simp [h0]
        exact ⟨x.A, fa, .inl rfl, hfa, hia, by omega, fak, by simp [this]⟩
    have hI : m_impl_place bars l p (m : Int) = some (true, ⟨p'.Free.set t.toNat (f - 1), p'.Tails ++ [t], p'.Placed ++ [(m : Int)]⟩) := by
      unfold m_impl_place
      simp only [hxi, hw, i1, hia, htail, hti, Option.bind_some, Bool.not_true, cond_false, lim_ok (show p'.Tails.length + ([t] : List Int).length ≤ 2147483648 by simp; omega), lim_ok (show p'.Placed.length + ([(m : Int)] : List Int).length ≤ 2147483648 by simp; omega), w64_small (n := f - 1) (show -4611686018427387904 ≤ f - 1 by omega) (by omega)]
    refine .inl ⟨p', p'.Free.set t.toNat (f - 1), p'.Tails ++ [t], hp', hpl, htwo2, ?_⟩
    unfold placeI
    rw [hI, ← hpl]
  · have hI : m_impl_place bars l p (m : Int) = some (false, p') := by
      unfold m_impl_place
      simp only [hxi, hw, i1, Option.bind_some, Bool.not_false, cond_true]
    refine .inr ⟨?_, p', q, q', hp', hpl, hlt, hq, hq'⟩
    unfold placeI
    rw [hI]
structure Game (bars : List TBar) (k l : Int) (m : Nat) (p : TPebbles) : Prop where
  sp : Sparse k.toNat l.toNat (mult (plc bars p))
  rej : ∃ R : List TBar, (∀ i, mult (bars.take m) i = mult (plc bars p) i + mult R i) ∧ ∀ x ∈ R, OkB x ∧ ∃ X, Sp.inn X (codeB x) = true ∧ k.toNat * size X ≤ span (mult (plc bars p)) X + l.toNat
theorem sparse_nil {a b : Nat} : Sparse a b (mult []) := ⟨fun X hX => by
  have : span (mult []) X = 0 := span_mult (L := []) (fun _ h => by cases h) X
  omega, fun i _ h => by simp [mult] at h⟩
theorem played_game {l : Int} (hg : GB P bars) (k1 : 1 ≤ k) (k3 : k ≤ 3) (hl : 0 ≤ l ∧ l ≤ 2 * k - 1) : ∀ n, n ≤ bars.length → Game bars k l n (played P bars k l n)
  | 0, _ => ⟨sparse_nil, [], fun i => by simp [played, iter, plc, mult], fun x h => by cases h⟩
  | n + 1, h => by
    have hG := played_game hg k1 k3 hl n (by omega)
    have hp := played_PB hg k1 k3 hl n (by omega)
    have hx := List.getElem?_eq_getElem (show n < bars.length by omega)
    generalize bars[n] = x at hx
    have hok := hg.ok hx
    have htk : bars.take (n + 1) = bars.take n ++ [x] := by rw [List.take_add_one, hx]; rfl
    show Game bars k l (n + 1) (placeI bars l (played P bars k l n) n)
    obtain ⟨R, hR1, hR2⟩ := hG.rej
    rcases place_info hg hp (by omega) hl hx with ⟨p', F, T, hp', hpl, htwo, he⟩ | ⟨he, p', q, q', hp', hpl, hlt, hq, hq'⟩
    · rw [he]
      have hplc : plc bars ⟨F, T, (played P bars k l n).Placed ++ [(n : Int)]⟩ = plc bars (played P bars k l n) ++ [x] := plc_snoc hx
      have hm : ∀ i, i < 64 → add1 (mult (plc bars (played P bars k l n))) (codeB x) i = mult (plc bars ⟨F, T, (played P bars k l n).Placed ++ [(n : Int)]⟩) i := fun i _ => by rw [hplc, mult_snoc]
      refine ⟨Sparse.congr ⟨fun X hX => ?_, fun i hi h0 => ?_⟩ hm, R, fun i => ?_, fun y hy => ?_⟩
      · rw [span_add1 _ hok.lt] at hX ⊢
        cases hin : Sp.inn X (codeB x) with
        | false =>
          rw [hin] at hX
          simp only [Bool.false_eq_true, if_false, Nat.add_zero] at hX ⊢
          exact hG.sp.sp X hX
        | true =>
          rw [hok.inn, Bool.and_eq_true] at hin
          have := hp'.span_le hg (hg.a0 hx) (hg.ap hx) (hg.b0 hx) (hg.bp hx) (hg.ab hx) (X := X) hin.1 hin.2
          rw [plc_congr hpl] at this
          simp only [if_true]
          omega
      · unfold add1 at h0
        by_cases hie : i = codeB x
        · rw [hie]; exact hok.ne
        · rw [if_neg hie] at h0
          exact hG.sp.ll i hi h0
      · rw [htk, mult_append, hplc, mult_append, hR1]
        omega
      · obtain ⟨h1, X, h2, h3⟩ := hR2 y hy
        refine ⟨h1, X, h2, ?_⟩
        rw [hplc]
        have := span_mono (I := mult (plc bars (played P bars k l n))) (J := mult (plc bars (played P bars k l n) ++ [x])) (fun i _ => by rw [mult_append]; omega) X
        omega
    · rw [he]
      refine ⟨hG.sp, R ++ [x], fun i => ?_, fun y hy => ?_⟩
      · rw [htk, mult_append, mult_append, hR1]
        omega
      · rcases List.mem_append.1 hy with hy | hy
        · exact hR2 y hy
        · rw [List.mem_singleton] at hy
          subst hy
          obtain ⟨X, xa, xb, hX⟩ := hp'.blocked hg hok.ab hq hq'
          refine ⟨hok, X, by rw [hok.inn, xa, xb]; rfl, ?_⟩
          rw [plc_congr hpl] at hX
          omega
theorem played_rank {l : Int} (hg : GB P bars) (k1 : 1 ≤ k) (k3 : k ≤ 3) (hl : 0 ≤ l ∧ l ≤ 2 * k - 1) : IsRank k.toNat l.toNat (mult bars) (played P bars k l bars.length).Placed.length := by
  have hG := played_game hg k1 k3 hl bars.length (Nat.le_refl _)
  have hp := played_PB hg k1 k3 hl bars.length (Nat.le_refl _)
  obtain ⟨R, hR1, hR2⟩ := hG.rej
  rw [List.take_length] at hR1
  have := IsRank.of_max (M := mult bars) (by omega) hG.sp (fun i _ => by rw [hR1]; omega) fun e he hlt => by
    rw [hR1] at hlt
    obtain ⟨x, hx, rfl⟩ := mult_pos (L := R) (i := e) (by omega)
    obtain ⟨h1, X, h2, h3⟩ := hR2 x hx
    exact tight_no he h2 h3
  rw [card_mult (hp.plc_ok hg), plc_len] at this
  exact this
end
end Go.Proofs.Yteognanhfpbghaa
end
section
set_option linter.unusedVariables false
set_option linter.unusedSimpArgs false
set_option linter.unnecessarySimpa false
open Go Go.Fw Go.Sp
namespace Go.Proofs.Yteognanhfpbghaa
def insB (x : TBar) : List TBar → List TBar
  | [] => [x]
  | y :: L => bif barGt y x then x :: y :: L else y :: insB x L
theorem insB_perm (x : TBar) : ∀ L, (insB x L).Perm (x :: L)
  | [] => List.Perm.refl _
  | y :: L => by
    unfold insB
    cases barGt y x with
    | true => exact List.Perm.refl _
    | false => exact ((insB_perm x L).cons y).trans (List.Perm.swap ..)
theorem insB_len (x : TBar) (L : List TBar) : (insB x L).length = L.length + 1 := (insB_perm x L).length_eq
def pr (P : Int) (L : List TBar) : Nat := (played P L 2 3 L.length).Placed.length
theorem pr_rank {P : Int} {L : List TBar} (hg : GB P L) : IsRank 2 3 (mult L) (pr P L) := played_rank hg (k := 2) (l := 3) (by omega) (by omega) (by omega)
theorem GB.congr {P : Int} {L L' : List TBar} (h : GB P L) (h2 : ∀ x ∈ L', x ∈ L) (hl : L'.length ≤ 1000) : GB P L' := by
  have hm : ∀ {k : Nat} {x : TBar}, L'[k]? = some x → ∃ j, L[j]? = some x := fun hk => List.getElem?_of_mem (h2 _ (List.mem_of_getElem? hk))
  exact ⟨h.p1, h.p8, hl, fun hk => (hm hk).elim fun _ hj => h.a0 hj, fun hk => (hm hk).elim fun _ hj => h.ab hj, fun hk => (hm hk).elim fun _ hj => h.b0 hj, fun hk => (hm hk).elim fun _ hj => h.ap hj, fun hk => (hm hk).elim fun _ hj => h.bp hj⟩
structure InB (P : Int) (x : TBar) : Prop where
  a0 : 0 ≤ x.A
  ab : x.A ≠ x.B
  b0 : 0 ≤ x.B
  ap : x.A < P
  bp : x.B < P
theorem GB.of {P : Int} {L : List TBar} (p1 : 1 ≤ P) (p8 : P ≤ 8) (hl : L.length ≤ 1000) (h : ∀ x ∈ L, InB P x) : GB P L :=
  ⟨p1, p8, hl, fun hk => (h _ (List.mem_of_getElem? hk)).a0, fun hk => (h _ (List.mem_of_getElem? hk)).ab, fun hk => (h _ (List.mem_of_getElem? hk)).b0, fun hk => (h _ (List.mem_of_getElem? hk)).ap, fun hk => (h _ (List.mem_of_getElem? hk)).bp⟩
theorem GB.inb {P : Int} {L : List TBar} (h : GB P L) : ∀ x ∈ L, InB P x := fun x hx => by
  obtain ⟨j, hj⟩ := List.getElem?_of_mem hx
  exact ⟨h.a0 hj, h.ab hj, h.b0 hj, h.ap hj, h.bp hj⟩
theorem GB.ins {P : Int} {L : List TBar} (h : GB P L) {x : TBar} (hx : InB P x) (hl : L.length ≤ 999) : GB P (insB x L) := GB.of h.p1 h.p8 (by rw [insB_len]; omega) fun y hy => by
  rcases List.mem_cons.1 ((insB_perm x L).mem_iff.1 hy) with h1 | h1
  · subst h1; exact hx
  · exact h.inb y h1
end Go.Proofs.Yteognanhfpbghaa
end
section
set_option linter.unusedVariables false
set_option linter.unusedSimpArgs false
set_option linter.unnecessarySimpa false
open Go Go.Fw Go.Sp
namespace Go.Proofs.Yteognanhfpbghaa
theorem henne {I : Nat → Nat} (hI : Sparse 2 3 I) {e f v : Nat} (he : e < 64) (hf : f < 64) (hv : v < 8) (hev : e / 8 ≠ v) (hev2 : e % 8 = v) (hfv : f / 8 ≠ v) (hfv2 : f % 8 = v) (hef : e ≠ f) (hno : ∀ i, i < 64 → 0 < I i → i / 8 ≠ v ∧ i % 8 ≠ v) : Sparse 2 3 (add1 (add1 I e) f) := by
  refine ⟨fun X hX => ?_, fun i hi hp => ?_⟩
  · rw [span_add1 _ hf, span_add1 _ he] at hX ⊢
    cases hXv : X v with
    | false =>
      have h1 : Sp.inn X e = false := by unfold Sp.inn; rw [hev2, hXv, Bool.and_false]
      have h2 : Sp.inn X f = false := by unfold Sp.inn; rw [hfv2, hXv, Bool.and_false]
      rw [h1, h2] at hX ⊢
      simp only [Bool.false_eq_true, if_false, Nat.add_zero] at hX ⊢
      exact hI.sp X hX
    | true =>
      have hs : span I X = span I (fun u => X u && u != v) := su_congr 64 fun i hi => by
        by_cases h0 : 0 < I i
        · obtain ⟨n1, n2⟩ := hno i hi h0
          have e1 : Sp.inn (fun u => X u && u != v) i = Sp.inn X i := by
            show ((X (i / 8) && i / 8 != v) && (X (i % 8) && i % 8 != v)) = (X (i / 8) && X (i % 8))
            rw [show (i / 8 != v) = true by simp [n1], show (i % 8 != v) = true by simp [n2], Bool.and_true, Bool.and_true]
          rw [e1]
        · have : I i = 0 := by omega
          rw [this]
          split <;> split <;> rfl
      have hz : size X = size (fun u => X u && u != v) + 1 := su_bump (j := v) 8 hv (by simp [hXv]) (fun i _ hne => by
        have : (i != v) = true := by simp [hne]
        simp [this])
      by_cases h0 : 0 < span I X
      · have h1 := hI.sp (fun u => X u && u != v) (by rw [← hs]; exact h0)
        have h2 : (if Sp.inn X e = true then 1 else 0) ≤ 1 := by split <;> omega
        have h3 : (if Sp.inn X f = true then 1 else 0) ≤ 1 := by split <;> omega
        omega
      · cases h1 : Sp.inn X e with
        | false =>
          rw [h1] at hX
          cases h2 : Sp.inn X f with
          | false => rw [h2] at hX; simp at hX; omega
          | true =>
            have h3 := size_inn hf (by omega) h2
            simp only [Bool.false_eq_true, if_false, if_true]
            omega
        | true =>
          have h3 := size_inn he (by omega) h1
          cases h2 : Sp.inn X f with
          | false =>
            simp only [Bool.false_eq_true, if_false, if_true]
            omega
          | true =>
            have h4 : 2 ≤ size (fun u => X u && u != v) := by
              unfold Sp.inn at h1 h2
              rw [Bool.and_eq_true] at h1 h2
              refine size_two (a := e / 8) (b := f / 8) (by omega) (by omega) (by omega) ?_ ?_
              · simp [h1.1, hev]
              · simp [h2.1, hfv]
            simp only [if_true]
            omega
  · unfold add1 at hp
    by_cases hif : i = f
    · omega
    · rw [if_neg hif] at hp
      by_cases hie : i = e
      · omega
      · rw [if_neg hie] at hp
        exact hI.ll i hi hp
def fan (a b : Int) : List Int → List TBar
  | [] => [⟨a, b⟩]
  | t :: T => ⟨a, t⟩ :: ⟨b, t⟩ :: fan a b T
theorem fan_len (a b : Int) : ∀ T, (fan a b T).length = 2 * T.length + 1
  | [] => rfl
  | t :: T => by simp [fan, fan_len a b T]; omega
theorem fan_mem {a b : Int} {x : TBar} : ∀ {T : List Int}, x ∈ fan a b T → x = ⟨a, b⟩ ∨ ∃ t ∈ T, x = ⟨a, t⟩ ∨ x = ⟨b, t⟩
  | [], h => by
    unfold fan at h
    rw [List.mem_singleton] at h
    exact .inl h
  | t :: T, h => by
    unfold fan at h
    rcases List.mem_cons.1 h with h | h
    · exact .inr ⟨t, List.mem_cons_self .., .inl h⟩
    · rcases List.mem_cons.1 h with h | h
      · exact .inr ⟨t, List.mem_cons_self .., .inr h⟩
      · rcases fan_mem h with h | ⟨s, hs, h⟩
        · exact .inl h
        · exact .inr ⟨s, List.mem_cons_of_mem _ hs, h⟩
structure Asc (P : Int) (L : List Int) : Prop where
  p1 : 1 ≤ P
  p8 : P ≤ 8
  rng : ∀ v ∈ L, 0 ≤ v ∧ v < P
  lt : L.Pairwise (· < ·)
section
variable {P a b : Int} {T : List Int}
theorem Asc.ab (h : Asc P (a :: b :: T)) : a < b ∧ (∀ t ∈ T, a < t ∧ b < t) := by
  have h1 := List.pairwise_cons.1 h.lt
  have h2 := List.pairwise_cons.1 h1.2
  exact ⟨h1.1 b (List.mem_cons_self ..), fun t ht => ⟨h1.1 t (List.mem_cons_of_mem _ ht), h2.1 t ht⟩⟩
theorem Asc.tail {s : Int} (h : Asc P (a :: b :: s :: T)) : Asc P (a :: b :: T) := by
  refine ⟨h.p1, h.p8, fun v hv => h.rng v ?_, ?_⟩
  · simp only [List.mem_cons] at hv ⊢
    rcases hv with h | h | h
    · exact .inl h
    · exact .inr (.inl h)
    · exact .inr (.inr (.inr h))
  · refine h.lt.sublist ?_
    exact ((List.sublist_cons_self s T).cons_cons b).cons_cons a
theorem Asc.fan_in (h : Asc P (a :: b :: T)) : ∀ x ∈ fan a b T, InB P x ∧ x.A ∈ a :: b :: T ∧ x.B ∈ a :: b :: T := fun x hx => by
  obtain ⟨h1, h2⟩ := h.ab
  have ha := h.rng a (by simp)
  have hb := h.rng b (by simp)
  rcases fan_mem hx with rfl | ⟨t, ht, rfl | rfl⟩
  · exact ⟨⟨by simp only; omega, by simp only; omega, by simp only; omega, by simp only; omega, by simp only; omega⟩, by simp, by simp⟩
  · have h3 := h2 t ht
    have h4 := h.rng t (by simp [ht])
    exact ⟨⟨by simp only; omega, by simp only; omega, by simp only; omega, by simp only; omega, by simp only; omega⟩, by simp, by simp [ht]⟩
  · have h3 := h2 t ht
    have h4 := h.rng t (by simp [ht])
    exact ⟨⟨by simp only; omega, by simp only; omega, by simp only; omega, by simp only; omega, by simp only; omega⟩, by simp, by simp [ht]⟩
theorem InB.ok {x : TBar} (h : InB P x) (h8 : P ≤ 8) : OkB x := by
  have := h.a0; have := h.ap; have := h.b0; have := h.bp
  exact ⟨by omega, by omega, by omega, by omega, h.ab⟩
theorem Asc.fan_ok (h : Asc P (a :: b :: T)) : ∀ x ∈ fan a b T, OkB x := fun x hx => (h.fan_in x hx).1.ok h.p8
theorem code_mk {u v : Int} (hu : 0 ≤ u) (hv : 0 ≤ v) (h8 : v < 8) : codeB ⟨u, v⟩ / 8 = u.toNat ∧ codeB ⟨u, v⟩ % 8 = v.toNat := by
  unfold codeB
  simp only
  omega
theorem fan_sparse : ∀ {T : List Int}, Asc P (a :: b :: T) → Sparse 2 3 (mult (fan a b T))
  | [], h => by
    have ho : OkB ⟨a, b⟩ := h.fan_ok _ (by simp [fan])
    refine ⟨fun X hX => ?_, fun i hi hp => mult_ll (fun x hx => h.fan_ok x hx) i hi hp⟩
    have e : span (mult (fan a b [])) X = 0 + if Sp.inn X (codeB ⟨a, b⟩) then 1 else 0 := by
      have := span_add1 (mult []) ho.lt X
      rw [show span (mult []) X = 0 from span_mult (L := []) (fun _ h => by cases h) X] at this
      exact this
    rw [e] at hX ⊢
    cases h1 : Sp.inn X (codeB ⟨a, b⟩) with
    | false => rw [h1] at hX; simp at hX
    | true =>
      have := size_inn ho.lt ho.ne h1
      simp only [if_true]
      omega
  | t :: T, h => by
    have ih := fan_sparse h.tail
    have ha := h.rng a (by simp)
    have hb := h.rng b (by simp)
    have ht := h.rng t (by simp)
    have h8 := h.p8
    obtain ⟨h1, h2⟩ := h.ab
    have h3 := h2 t (by simp)
    obtain ⟨c1, c2⟩ := code_mk hb.1 ht.1 (by omega : t < 8)
    obtain ⟨c3, c4⟩ := code_mk ha.1 ht.1 (by omega : t < 8)
    refine henne ih (e := codeB ⟨b, t⟩) (f := codeB ⟨a, t⟩) (v := t.toNat) ?_ ?_ (by omega) (by omega) c2 (by omega) c4 (fun e => ?_) (fun i hi hp => ?_)
    · omega
    · omega
    · rw [e] at c1
      omega
    · obtain ⟨x, hx, rfl⟩ := mult_pos hp
      obtain ⟨hin, hA, hB⟩ := h.tail.fan_in x hx
      have hxo := (hin.ok h8).dm
      have hne : ∀ v ∈ a :: b :: T, v ≠ t := fun v hv => by
        simp only [List.mem_cons] at hv
        rcases hv with rfl | rfl | hv
        · omega
        · omega
        · have := List.pairwise_cons.1 (List.pairwise_cons.1 (List.pairwise_cons.1 h.lt).2).2
          have := this.1 v hv
          omega
      have n1 := hne _ hA
      have n2 := hne _ hB
      have := hin.a0
      have := hin.b0
      omega
def inL (G : List Int) (v : Nat) : Bool := decide ((v : Int) ∈ G)
theorem Asc.sz (h : Asc P (a :: b :: T)) : size (inL (a :: b :: T)) = T.length + 2 := by
  have h8 := h.p8
  have h1 := tails_sum (inL (a :: b :: T)) (a :: b :: T) fun t ht => by have := h.rng t ht; omega
  have h2 : (a :: b :: T).countP (fun t => inL (a :: b :: T) t.toNat) = T.length + 2 := by
    rw [List.countP_eq_length.2]
    · rfl
    · intro t ht
      have := h.rng t ht
      unfold inL
      rw [Int.toNat_of_nonneg this.1]
      exact decide_eq_true ht
  rw [← h2, ← h1]
  refine su_congr 8 fun v _ => ?_
  show (if inL (a :: b :: T) v then 1 else 0) = (if inL (a :: b :: T) v then (a :: b :: T).count (v : Int) else 0)
  cases hv : inL (a :: b :: T) v with
  | false => rfl
  | true =>
    simp only [if_true]
    have hm : (v : Int) ∈ a :: b :: T := of_decide_eq_true hv
    have hnd : (a :: b :: T).Nodup := h.lt.imp fun hlt => by omega
    rw [hnd.count, if_pos hm]
theorem Asc.tgt (h : Asc P (a :: b :: T)) : Sp.tight 2 3 (mult (fan a b T)) (inL (a :: b :: T)) := by
  unfold Sp.tight
  rw [h.sz, span_mult h.fan_ok, List.countP_eq_length.2, fan_len]
  · omega
  · intro x hx
    obtain ⟨hin, hA, hB⟩ := h.fan_in x hx
    unfold inL
    rw [Int.toNat_of_nonneg hin.a0, Int.toNat_of_nonneg hin.b0, decide_eq_true hA, decide_eq_true hB]
    rfl
theorem Asc.same (h : Asc P (a :: b :: T)) {H F B : List TBar} (hF : F.Perm (fan a b T ++ B)) (hgF : GB P F) (hgH : GB P (H ++ B)) (hH : ∀ x ∈ H, x.A ∈ a :: b :: T ∧ x.B ∈ a :: b :: T) (hle : ∀ i, mult (fan a b T) i ≤ mult H i) : pr P (H ++ B) = pr P F := by
  have h1 := pr_rank hgF
  have hm : ∀ i, mult F i = mult (fan a b T) i + mult B i := fun i => by rw [mult_perm hF, mult_append]
  have h2 := h1.fill (N := mult (H ++ B)) (by omega) (fan_sparse h) (fun i _ => by rw [hm]; omega) h.tgt (fun i _ => by rw [hm, mult_append]; have := hle i; omega) (fun i _ hlt => by
    rw [hm, mult_append] at hlt
    obtain ⟨x, hx, rfl⟩ := mult_pos (L := H) (i := i) (by omega)
    obtain ⟨hA, hB⟩ := hH x hx
    have hin := hgH.inb x (List.mem_append_left _ hx)
    rw [(hin.ok h.p8).inn]
    unfold inL
    rw [Int.toNat_of_nonneg hin.a0, Int.toNat_of_nonneg hin.b0, decide_eq_true hA, decide_eq_true hB]
    rfl)
  exact (pr_rank hgH).uniq h2 fun _ _ => rfl
end
section
variable {p : TPinned}
end
end Go.Proofs.Yteognanhfpbghaa
end
section
set_option linter.unusedVariables false
set_option linter.unusedSimpArgs false
set_option linter.unnecessarySimpa false
open Go Go.Fw
namespace Go.Proofs.Yteognanhfpbghaa
def eqL {α : Type} (e : α → α → Bool) : List α → List α → Bool
  | [], [] => true
  | x :: a, y :: b => e x y && eqL e a b
  | _, _ => false
theorem eqL_range {α : Type} {e : α → α → Bool} : ∀ (a b : List α), a.length = b.length → (List.range' 0 a.length).any (fun k => match a[k]?, b[k]? with | some x, some y => !e x y | _, _ => false) = !eqL e a b
  | [], [], _ => rfl
  | [], y :: b, h => by simp at h
  | x :: a, [], h => by simp at h
  | x :: a, y :: b, h => by
    have ih := eqL_range (e := e) a b (by simpa using h)
    rw [List.length_cons, List.range'_succ, List.any_cons]
    unfold eqL
    rw [Bool.not_and, ← ih, List.range'_eq_map_range, List.range'_eq_map_range, List.any_map, List.any_map]
    congr 1
    congr 1
    funext k
    simp [Function.comp, Nat.add_comm]
theorem eqL_loop {α : Type} {b : Int → Option (Int ⊕ (Unit ⊕ Bool))} (e : α → α → Bool) (a c : List α) (ha : SM a.length) (hl : a.length = c.length) (h : ∀ (k : Nat) x y, k < a.length → a[k]? = some x → c[k]? = some y → b k = bif !e x y then some (.inr (.inr false)) else some (.inl (w64 ((k : Int) + 1)))) (hr : b a.length = some (.inr (.inl ()))) :
    ((loopM b BIG 0).bind (Sum.elim (fun _ => some true) (fun r => some r))) = some (eqL e a c) := by
  have h1 := any_loop0 (b := b) (fun k => match a[k]?, c[k]? with | some x, some y => !e x y | _, _ => false) false a.length (by omega) (fun k hk => by
    rw [h k a[k] (c[k]'(by omega)) hk (List.getElem?_eq_getElem hk) (List.getElem?_eq_getElem (by omega)), List.getElem?_eq_getElem hk, List.getElem?_eq_getElem (by omega)]) hr
  rw [h1, eqL_range a c hl]
  cases eqL e a c <;> rfl
theorem eqL_len {α : Type} {e : α → α → Bool} : ∀ {a b : List α}, eqL e a b = true → a.length = b.length
  | [], [], _ => rfl
  | [], y :: b, h => by simp [eqL] at h
  | x :: a, [], h => by simp [eqL] at h
  | x :: a, y :: b, h => by
    unfold eqL at h
    rw [Bool.and_eq_true] at h
    simp [eqL_len h.2]
def eBar (x y : TBar) : Bool := eqI [x.A, x.B] [y.A, y.B]
def eqG (a b : TGraph) : Bool := (a.Points == b.Points) && eqL eBar a.Bars b.Bars
theorem bne_len {α : Type} {a b : List α} (h : ¬ a.length = b.length) : ((a.length : Int) != (b.length : Int)) = true := by simp; omega
theorem eqL_false {α : Type} {e : α → α → Bool} {a b : List α} (h : ¬ a.length = b.length) : eqL e a b = false := by
  rw [← Bool.not_eq_true]
  exact fun h2 => h (eqL_len h2)
theorem sEqualBar_eq (a b : List TBar) (ha : SM a.length) : m_slices_Equal_Bar a b = some (eqL eBar a b) := by
  unfold m_slices_Equal_Bar
  by_cases hl : a.length = b.length
  · rw [bne_int.2 (by rw [hl]), cond_false]
    refine eqL_loop eBar a b ha hl (fun k x y hk hx hy => ?_) (by simp [m_slices_Equal_Bar_L1])
    unfold m_slices_Equal_Bar_L1
    rw [decide_eq_true (by omega), cond_true, idx_of hx, idx_of hy, Option.bind_some, Option.bind_some]
    rfl
  · rw [bne_len hl, eqL_false hl]
    rfl
theorem eqGI_eq (a b : TGraph) (ha : SM a.Bars.length) : m_impl_EqualGraphs a b = some (eqG a b) := by
  unfold m_impl_EqualGraphs eqG
  rw [sEqualBar_eq _ _ ha]
  cases a.Points == b.Points <;> rfl
theorem eqGS_eq (a b : TGraph) (ha : SM a.Bars.length) : m_spec_EqualGraphs a b = some (eqG a b) := by
  unfold m_spec_EqualGraphs eqG
  rw [show (a.Points != b.Points) = !(a.Points == b.Points) from rfl]
  cases a.Points == b.Points
  · rfl
  · simp only [Bool.not_true, cond_false, Option.bind_some, Bool.true_and]
    by_cases hl : a.Bars.length = b.Bars.length
    · rw [bne_int.2 (by rw [hl]), cond_false]
      refine eqL_loop eBar a.Bars b.Bars ha hl (fun k x y hk hx hy => ?_) (by simp [m_spec_EqualGraphs_L1])
      unfold m_spec_EqualGraphs_L1
      rw [decide_eq_true (by omega), cond_true, idx_of hx, idx_of hy, Option.bind_some, Option.bind_some]
      rfl
    · rw [bne_len hl, eqL_false hl]
      rfl
def sqB (f : TFramework) (k : Nat) : List Int := match f.Graph.Bars[k]? with
  | some x => [sqd (plAt f x.A) (plAt f x.B)]
  | none => []
theorem sqB_len (f : TFramework) (k : Nat) : (sqB f k).length ≤ 1 := by
  unfold sqB
  split
  · exact Nat.le_refl _
  · exact Nat.zero_le _
def sqL (f : TFramework) : List Int := bif vF f then pieces (sqB f) f.Graph.Bars.length else []
theorem sqL_len (f : TFramework) : (sqL f).length ≤ f.Graph.Bars.length := by
  unfold sqL
  cases vF f
  · exact Nat.zero_le _
  · have := pieces_len (f := sqB f) (c := 1) f.Graph.Bars.length (fun k _ => sqB_len f k)
    simpa using this
theorem sqLI_eq (f : TFramework) (h0 : SM f.Graph.Bars.length) (h1 : SM f.Places.length) : m_impl_SquareLengths f = some (sqL f) := by
  unfold m_impl_SquareLengths sqL
  rw [isFI_eq f h0 h1]
  cases hv : vF f
  · rfl
  · have h := vF_VF hv
    have hl := h.len
    have := app_loop (b := m_impl_SquareLengths_L1 f) (s := (0, [])) (fun k out => ((k : Int), out)) (sqB f) id 1 f.Graph.Bars.length [] (by omega) rfl (fun k _ => sqB_len f k) (fun k out hk ho => by
      have hx := List.getElem?_eq_getElem hk
      simp only [List.length_nil, Nat.zero_add, Nat.one_mul] at ho
      have a0 := h.g.a0 hx
      have ab := h.g.ab hx
      have bp := h.g.bp hx
      unfold m_impl_SquareLengths_L1 sqB
      simp only [idx_of hx, hx, square_eq h a0 (by omega) (show 0 ≤ f.Graph.Bars[k].B by omega) bp, Option.bind_some, w64_succ (show k ≤ 1099511627776 by omega)]
      rw [decide_eq_true (by omega), cond_true, lim_ok (by simp; omega)]
      rfl) (fun out => by simp [m_impl_SquareLengths_L1])
    simp only [Option.bind_some, Bool.not_true, cond_false, cond_true, this]
    rfl
theorem sqLS_eq (f : TFramework) (h0 : SM f.Graph.Bars.length) (h1 : SM f.Places.length) : m_spec_SquareLengths f = some (sqL f) := by
  unfold m_spec_SquareLengths sqL
  cases hv : vF f
  · have e : loopM (m_spec_SquareLengths_L1 f) BIG (0, []) = some [] := by
      refine loopM_run (fun _ => (0, [])) 0 (by omega) rfl (fun k hk => by omega) ?_
      unfold m_spec_SquareLengths_L1
      rw [isFS_eq f h0 h1, hv]
      cases decide ((0 : Int) < (f.Graph.Bars.length : Int)) <;> rfl
    rw [e]
    rfl
  · have h := vF_VF hv
    have hl := h.len
    have := app_loop (b := m_spec_SquareLengths_L1 f) (s := (0, [])) (fun k out => ((k : Int), out)) (sqB f) id 1 f.Graph.Bars.length [] (by omega) rfl (fun k _ => sqB_len f k) (fun k out hk ho => by
      have hx := List.getElem?_eq_getElem hk
      simp only [List.length_nil, Nat.zero_add, Nat.one_mul] at ho
      have a0 := h.g.a0 hx
      have ab := h.g.ab hx
      have bp := h.g.bp hx
      have ga := h.pl_grid a0 (show f.Graph.Bars[k].A < f.Graph.Points by omega)
      have gb := h.pl_grid (show 0 ≤ f.Graph.Bars[k].B by omega) bp
      unfold m_spec_SquareLengths_L1 sqB
      simp only [isFS_eq f h0 h1, hv, idx_of hx, hx, h.pl_in a0 (show f.Graph.Bars[k].A < f.Graph.Points by omega), h.pl_in (show 0 ≤ f.Graph.Bars[k].B by omega) bp, Option.bind_some, w64_succ (show k ≤ 1099511627776 by omega)]
      rw [w64_add3 ⟨ga.1, ga.2.1⟩ ⟨gb.1, gb.2.1⟩ ⟨ga.2.2.1, ga.2.2.2⟩ ⟨gb.2.2.1, gb.2.2.2⟩, decide_eq_true (by omega), cond_true, Option.bind_some, cond_true, lim_ok (by simp; omega)]
      rfl) (fun out => by simp [m_spec_SquareLengths_L1])
    rw [this]
    rfl
def sameL (a b : TFramework) : Bool := vF a && (vF b && (eqG a.Graph b.Graph && decide (sqL a = sqL b)))
theorem sameLI_eq (a b : TFramework) (h0 : SM a.Graph.Bars.length) (h1 : SM a.Places.length) (h2 : SM b.Graph.Bars.length) (h3 : SM b.Places.length) : m_impl_AreSameLengths a b = some (sameL a b) := by
  have hl := sqL_len a
  unfold m_impl_AreSameLengths sameL
  simp only [isFI_eq a h0 h1, isFI_eq b h2 h3, eqGI_eq _ _ h0, sqLI_eq a h0 h1, sqLI_eq b h2 h3, sEqual_eq (sqL a) _ (by omega), Option.bind_some]
  cases vF a
  · rfl
  · cases vF b
    · rfl
    · cases eqG a.Graph b.Graph <;> rfl
theorem sameLS_eq (a b : TFramework) (h0 : SM a.Graph.Bars.length) (h1 : SM a.Places.length) (h2 : SM b.Graph.Bars.length) (h3 : SM b.Places.length) : m_spec_AreSameLengths a b = some (sameL a b) := by
  have hl := sqL_len a
  unfold m_spec_AreSameLengths sameL
  simp only [isFS_eq a h0 h1, isFS_eq b h2 h3, eqGS_eq _ _ h0, sqLS_eq a h0 h1, sqLS_eq b h2 h3, l6Same_eq (sqL a) _ (by omega), Option.bind_some]
  cases vF a
  · rfl
  · cases vF b
    · rfl
    · cases eqG a.Graph b.Graph <;> rfl
theorem copyFI_eq (f : TFramework) (h0 : SM f.Graph.Bars.length) (h1 : SM f.Places.length) : m_impl_copyFramework f = some f := by
  unfold m_impl_copyFramework m_impl_copyGraph
  rw [lim_ok (by simp; omega), Option.bind_some, Option.bind_some, lim_ok (by simp; omega)]
  rfl
theorem copyFS_eq (f : TFramework) (h0 : SM f.Graph.Bars.length) (h1 : SM f.Places.length) : m_spec_l10Copy f = some f := by
  unfold m_spec_l10Copy m_spec_l2Copy
  rw [lim_ok (by simp; omega), Option.bind_some, Option.bind_some, lim_ok (by simp; omega)]
  rfl
end Go.Proofs.Yteognanhfpbghaa
end
section
set_option linter.unusedVariables false
set_option linter.unusedSimpArgs false
set_option linter.unnecessarySimpa false
open Go Go.Fw
namespace Go.Proofs.Yteognanhfpbghaa
theorem pieces_plus {α : Type} {f : Nat → List α} (a : Nat) : ∀ b, pieces f (a + b) = pieces f a ++ pieces (fun k => f (a + k)) b
  | 0 => by simp [pieces]
  | b + 1 => by
    show pieces f (a + b) ++ f (a + b) = pieces f a ++ (pieces (fun k => f (a + k)) b ++ f (a + b))
    rw [pieces_plus a b, List.append_assoc]
theorem pieces_mul {α : Type} {f : Nat → List α} (a : Nat) : ∀ n, pieces f (a * n) = pieces (fun i => pieces (fun j => f (a * i + j)) a) n
  | 0 => rfl
  | n + 1 => by
    rw [Nat.mul_succ, pieces_plus, pieces_mul a n]
    rfl
def cellAt (d : Nat) : TPlace := ⟨((d % 5 : Nat) : Int), ((d / 5 : Nat) : Int)⟩
def ways : Nat → Nat → List TPlace → List (List TPlace)
  | 0, _, pl => [pl]
  | m + 1, v, pl => pieces (fun d => ways m (v + 1) (pl.set v (cellAt d))) 25
theorem ways_len : ∀ m v pl, (ways m v pl).length ≤ 25 ^ m
  | 0, _, _ => Nat.le_refl _
  | m + 1, v, pl => by
    have := pieces_len (f := fun d => ways m (v + 1) (pl.set v (cellAt d))) (c := 25 ^ m) 25 (fun d _ => ways_len m (v + 1) _)
    rw [Nat.pow_succ]
    exact this
theorem ways_congr : ∀ m v (pl pl' : List TPlace), pl.length = v + m → pl'.length = v + m → (∀ i, i < v → pl[i]? = pl'[i]?) → ways m v pl = ways m v pl'
  | 0, v, pl, pl', h1, h2, h => by
    have : pl = pl' := List.ext_getElem? fun i => by
      by_cases hi : i < v
      · exact h i hi
      · rw [List.getElem?_eq_none (by omega), List.getElem?_eq_none (by omega)]
    rw [this]
  | m + 1, v, pl, pl', h1, h2, h => by
    refine pieces_congr 25 fun d _ => ways_congr m (v + 1) _ _ (by simp; omega) (by simp; omega) fun i hi => ?_
    rw [List.getElem?_set, List.getElem?_set]
    by_cases hiv : v = i
    · rw [if_pos hiv, if_pos hiv, if_pos (by omega), if_pos (by omega)]
    · rw [if_neg hiv, if_neg hiv]
      exact h i (by omega)
theorem ways_mem_len : ∀ m v (pl w : List TPlace), w ∈ ways m v pl → w.length = pl.length
  | 0, v, pl, w, h => by
    unfold ways at h
    rw [List.mem_singleton] at h
    rw [h]
  | m + 1, v, pl, w, h => by
    unfold ways at h
    have hp : ∀ n, w ∈ pieces (fun d => ways m (v + 1) (pl.set v (cellAt d))) n → w.length = pl.length := fun n => by
      induction n with
      | zero => intro h; cases h
      | succ n ih =>
        intro h
        rcases List.mem_append.1 h with h1 | h1
        · exact ih h1
        · have := ways_mem_len m (v + 1) _ w h1
          simpa using this
    exact hp _ h
def filt (f : TFramework) (g : TGraph) (L : List (List TPlace)) : List TFramework := (L.map fun pl => (⟨g, pl⟩ : TFramework)).filter (sameL f)
theorem filt_append (f : TFramework) (g : TGraph) (L M : List (List TPlace)) : filt f g (L ++ M) = filt f g L ++ filt f g M := by simp [filt]
theorem filt_pieces (f : TFramework) (g : TGraph) (F : Nat → List (List TPlace)) : ∀ n, filt f g (pieces F n) = pieces (fun i => filt f g (F i)) n
  | 0 => rfl
  | n + 1 => by
    show filt f g (pieces F n ++ F n) = pieces _ n ++ filt f g (F n)
    rw [filt_append, filt_pieces f g F n]
theorem filt_len (f : TFramework) (g : TGraph) (L : List (List TPlace)) : (filt f g L).length ≤ L.length := by
  have := List.length_filter_le (sameL f) (L.map fun pl => (⟨g, pl⟩ : TFramework))
  simpa [filt] using this
theorem filt_one (f : TFramework) (g : TGraph) (pl : List TPlace) : filt f g [pl] = bif sameL f ⟨g, pl⟩ then [⟨g, pl⟩] else [] := by
  unfold filt
  simp only [List.map_cons, List.map_nil, List.filter_cons, List.filter_nil]
  cases sameL f ⟨g, pl⟩ <;> rfl
section
variable {f : TFramework}
theorem tryC_eq (h0 : SM f.Graph.Bars.length) (h1 : SM f.Places.length) : ∀ (m n v : Nat) (x : TFramework) (out : List TFramework), m < n → v + m ≤ 8 → SM x.Graph.Bars.length → x.Graph.Points = ((v + m : Nat) : Int) → x.Places.length = v + m → out.length + 25 ^ m ≤ 1000000 →
    ∃ pl, m_impl_OtherPlaces_c1 n x (v : Int) f out = some (x.Graph.Bars, pl, f, out ++ filt f x.Graph (ways m v x.Places)) ∧ pl.length = x.Places.length ∧ ∀ i, i < v → pl[i]? = x.Places[i]? := by
  intro m
  induction m with
  | zero =>
    intro n v x out hn hv hb hp hl ho
    obtain ⟨n, rfl⟩ : ∃ k, n = k + 1 := ⟨n - 1, by omega⟩
    refine ⟨x.Places, ?_, rfl, fun _ _ => rfl⟩
    show m_impl_OtherPlaces_c1_B (m_impl_OtherPlaces_c1 n) x (v : Int) f out = _
    unfold m_impl_OtherPlaces_c1_B
    rw [decide_eq_true (by omega), cond_true, sameLI_eq f x h0 h1 hb (by omega), copyFI_eq x hb (by omega)]
    simp only [Option.bind_some]
    rw [lim_ok (show out.length + [x].length ≤ 2147483648 by simp; omega)]
    have e : filt f x.Graph (ways 0 v x.Places) = bif sameL f x then [x] else [] := filt_one f x.Graph x.Places
    rw [e]
    cases sameL f x <;> simp
  | succ m ih =>
    intro n v x out hn hv hb hp hl ho
    obtain ⟨n, rfl⟩ : ∃ k, n = k + 1 := ⟨n - 1, by omega⟩
    have h25 : 25 ^ (m + 1) = 25 ^ m * 25 := Nat.pow_succ ..
    have hpos : 0 < 25 ^ m := Nat.pow_pos (by omega)
    -- what the digit d gives
    let G : Nat → List TFramework := fun d => filt f x.Graph (ways m (v + 1) (x.Places.set v (cellAt d)))
    have hG : ∀ d, (G d).length ≤ 25 ^ m := fun d => Nat.le_trans (filt_len ..) (ways_len ..)
    have hGp : ∀ F : Nat → Nat, ∀ k, (pieces (fun j => G (F j)) k).length ≤ 25 ^ m * k := fun F k => pieces_len k fun j _ => hG _
    have innerL : ∀ (y : Nat) (pl : List TPlace) (o : List TFramework), y < 5 → pl.length = x.Places.length → (∀ i, i < v → pl[i]? = x.Places[i]?) → o.length + 25 ^ m * 5 ≤ 1000000 →
        ∃ pl', loopM (m_impl_OtherPlaces_c1_L4 x (v : Int) ((y : Int), x.Graph.Bars, pl, f.Graph.Points, f.Graph.Bars, f.Places, o) (m_impl_OtherPlaces_c1 n)) BIG (0, x.Graph.Bars, pl, f.Graph.Points, f.Graph.Bars, f.Places, o) = some ((y : Int), x.Graph.Bars, pl', f.Graph.Points, f.Graph.Bars, f.Places, o ++ pieces (fun j => G (5 * y + j)) 5) ∧ pl'.length = x.Places.length ∧ ∀ i, i < v → pl'[i]? = x.Places[i]? := by
      intro y pl o hy hpl hag hol
      obtain ⟨r, hr, pl', rfl, h2, h3⟩ := loop_inv (b := m_impl_OtherPlaces_c1_L4 x (v : Int) ((y : Int), x.Graph.Bars, pl, f.Graph.Points, f.Graph.Bars, f.Places, o) (m_impl_OtherPlaces_c1 n)) (s := (0, x.Graph.Bars, pl, f.Graph.Points, f.Graph.Bars, f.Places, o))
        (fun k s => ∃ q : List TPlace, s = ((k : Int), x.Graph.Bars, q, f.Graph.Points, f.Graph.Bars, f.Places, o ++ pieces (fun j => G (5 * y + j)) k) ∧ q.length = x.Places.length ∧ ∀ i, i < v → q[i]? = x.Places[i]?)
        (fun r => ∃ q : List TPlace, r = ((y : Int), x.Graph.Bars, q, f.Graph.Points, f.Graph.Bars, f.Places, o ++ pieces (fun j => G (5 * y + j)) 5) ∧ q.length = x.Places.length ∧ ∀ i, i < v → q[i]? = x.Places[i]?) 5 (by omega) ⟨pl, by simp [pieces], hpl, hag⟩ (fun k s hk hs => by
          obtain ⟨q, rfl, hq, hqa⟩ := hs
          have hlen := hGp (fun j => 5 * y + j) k
          have hk5 : 25 ^ m * k ≤ 25 ^ m * 4 := Nat.mul_le_mul_left _ (by omega)
          obtain ⟨w, hw, hwl, hwa⟩ := ih n (v + 1) ⟨x.Graph, q.set v (TPlace.mk (k : Int) (y : Int))⟩ (o ++ pieces (fun j => G (5 * y + j)) k) (by omega) (by omega) hb (by simp only [hp]; omega) (by simp; omega) (by simp only [List.length_append]; omega)
          simp only [List.length_set] at hwl
          have hcell : TPlace.mk (k : Int) (y : Int) = cellAt (5 * y + k) := by
            unfold cellAt
            rw [show (5 * y + k) % 5 = k by omega, show (5 * y + k) / 5 = y by omega]
          have hways : ways m (v + 1) (q.set v (TPlace.mk (k : Int) (y : Int))) = ways m (v + 1) (x.Places.set v (cellAt (5 * y + k))) := by
            rw [hcell]
            refine ways_congr m (v + 1) _ _ (by simp; omega) (by simp; omega) fun i hi => ?_
            rw [List.getElem?_set, List.getElem?_set]
            by_cases hiv : v = i
            · rw [if_pos hiv, if_pos hiv, if_pos (by omega), if_pos (by omega)]
            · rw [if_neg hiv, if_neg hiv]
              exact hqa i (by omega)
          have hiv : idx q (v : Int) = some (q[v]'(by omega)) := idx_at (by omega)
          refine .inl ⟨_, ?_, w, rfl, by omega, fun i hi => ?_⟩
          · unfold m_impl_OtherPlaces_c1_L4
            rw [show TFramework.mk (TGraph.mk x.Graph.Points x.Graph.Bars) (q.set v (TPlace.mk (k : Int) (y : Int))) = ⟨x.Graph, q.set v (TPlace.mk (k : Int) (y : Int))⟩ from rfl] at *
            simp only [hiv, Option.bind_some, Int.toNat_natCast, w64_succ (show v ≤ 1099511627776 by omega), w64_succ (show k ≤ 1099511627776 by omega)]
            rw [decide_eq_true (by omega), cond_true]
            rw [show TFramework.mk (TGraph.mk f.Graph.Points f.Graph.Bars) f.Places = f from rfl]
            rw [show TFramework.mk (TGraph.mk x.Graph.Points x.Graph.Bars) (q.set v (TPlace.mk (k : Int) (y : Int))) = ⟨x.Graph, q.set v (TPlace.mk (k : Int) (y : Int))⟩ from rfl, hw]
            simp only [Option.bind_some, same_ok, List.length_set, hwl]
            rw [hways, List.append_assoc]
            rfl
          · rw [hwa i (by omega)]
            show (q.set v _)[i]? = _
            rw [List.getElem?_set, if_neg (by omega)]
            exact hqa i hi) (fun s hs => by
          obtain ⟨q, rfl, hq, hqa⟩ := hs
          refine ⟨_, ?_, q, rfl, hq, hqa⟩
          unfold m_impl_OtherPlaces_c1_L4
          rw [decide_eq_false (by simp only; omega)]
          rfl)
      exact ⟨pl', hr, h2, h3⟩
    obtain ⟨r, hr, pl', rfl, h2, h3⟩ := loop_inv (b := m_impl_OtherPlaces_c1_L3 x (v : Int) (m_impl_OtherPlaces_c1 n)) (s := (0, x.Graph.Bars, x.Places, f.Graph.Points, f.Graph.Bars, f.Places, out))
      (fun y s => ∃ q : List TPlace, s = ((y : Int), x.Graph.Bars, q, f.Graph.Points, f.Graph.Bars, f.Places, out ++ pieces (fun i => pieces (fun j => G (5 * i + j)) 5) y) ∧ q.length = x.Places.length ∧ ∀ i, i < v → q[i]? = x.Places[i]?)
      (fun r => ∃ q : List TPlace, r = (x.Graph.Bars, q, f.Graph.Points, f.Graph.Bars, f.Places, out ++ pieces (fun i => pieces (fun j => G (5 * i + j)) 5) 5) ∧ q.length = x.Places.length ∧ ∀ i, i < v → q[i]? = x.Places[i]?) 5 (by omega) ⟨x.Places, by simp [pieces], rfl, fun _ _ => rfl⟩ (fun y s hy hs => by
        obtain ⟨q, rfl, hq, hqa⟩ := hs
        have hlen := pieces_len (f := fun i => pieces (fun j => G (5 * i + j)) 5) (c := 25 ^ m * 5) y (fun i _ => hGp (fun j => 5 * i + j) 5)
        have hy5 : 25 ^ m * 5 * y ≤ 25 ^ m * 5 * 4 := Nat.mul_le_mul_left _ (by omega)
        obtain ⟨w, hw, hwl, hwa⟩ := innerL y q (out ++ pieces (fun i => pieces (fun j => G (5 * i + j)) 5) y) hy hq hqa (by simp only [List.length_append]; omega)
        refine .inl ⟨_, ?_, w, rfl, hwl, hwa⟩
        unfold m_impl_OtherPlaces_c1_L3
        rw [decide_eq_true (by simp only; omega), cond_true]
        simp only [hw, Option.bind_some, w64_succ (show y ≤ 1099511627776 by omega)]
        rw [List.append_assoc]
        rfl) (fun s hs => by
        obtain ⟨q, rfl, hq, hqa⟩ := hs
        refine ⟨_, ?_, q, rfl, hq, hqa⟩
        unfold m_impl_OtherPlaces_c1_L3
        rw [decide_eq_false (by simp only; omega)]
        rfl)
    refine ⟨pl', ?_, h2, h3⟩
    show m_impl_OtherPlaces_c1_B (m_impl_OtherPlaces_c1 n) x (v : Int) f out = _
    unfold m_impl_OtherPlaces_c1_B
    rw [decide_eq_false (by omega), cond_false, hr]
    simp only [Option.bind_some]
    have e : filt f x.Graph (ways (m + 1) v x.Places) = pieces (fun i => pieces (fun j => G (5 * i + j)) 5) 5 := by
      show filt f x.Graph (pieces (fun d => ways m (v + 1) (x.Places.set v (cellAt d))) 25) = _
      rw [filt_pieces, ← pieces_mul (f := G) 5 5]
    rw [e]
def mvd (f : TFramework) : Nat := f.Graph.Points.toNat - 2
def found (f : TFramework) : List TFramework := filt f f.Graph (ways (mvd f) 2 f.Places)
def fits (f : TFramework) : Bool := vF f && !decide (4 < f.Graph.Points)
def others (f : TFramework) : List TFramework × Bool := bif fits f then (found f, true) else ([], false)
theorem fits_VF {f : TFramework} (h : fits f = true) : VF f ∧ f.Graph.Points ≤ 4 := by
  unfold fits at h
  simp only [Bool.and_eq_true, Bool.not_eq_true', decide_eq_false_iff_not] at h
  exact ⟨vF_VF h.1, by omega⟩
theorem found_small (h : fits f = true) : (found f).length ≤ 625 := by
  obtain ⟨hV, h4⟩ := fits_VF h
  have h1 := filt_len f f.Graph (ways (mvd f) 2 f.Places)
  have h2 := ways_len (mvd f) 2 f.Places
  have h3 : 25 ^ mvd f ≤ 25 ^ 2 := Nat.pow_le_pow_right (by omega) (by unfold mvd; omega)
  unfold found
  omega
theorem tryTop (h0 : SM f.Graph.Bars.length) (h1 : SM f.Places.length) (h : fits f = true) : ∃ pl, m_impl_OtherPlaces_c1 64 f 2 f [] = some (f.Graph.Bars, pl, f, found f) := by
  obtain ⟨hV, h4⟩ := fits_VF h
  have hp := hV.pls
  have hp1 := hV.g.p1
  by_cases h2 : 2 ≤ f.Graph.Points
  · have hm : mvd f ≤ 2 := by unfold mvd; omega
    have hpow : 25 ^ mvd f ≤ 25 ^ 2 := Nat.pow_le_pow_right (by omega) hm
    obtain ⟨pl, e, _⟩ := tryC_eq h0 h1 (mvd f) 64 2 f [] (by omega) (by omega) h0 (by unfold mvd; omega) (by unfold mvd; omega) (by simp only [List.length_nil]; omega)
    exact ⟨pl, by rw [show ((2 : Int)) = ((2 : Nat) : Int) from rfl, e]; rfl⟩
  · have hm : mvd f = 0 := by unfold mvd; omega
    refine ⟨f.Places, ?_⟩
    show m_impl_OtherPlaces_c1_B (m_impl_OtherPlaces_c1 63) f 2 f [] = _
    unfold m_impl_OtherPlaces_c1_B
    rw [decide_eq_true (by omega), cond_true, sameLI_eq f f h0 h1 h0 h1, copyFI_eq f h0 h1]
    simp only [Option.bind_some]
    rw [lim_ok (show ([] : List TFramework).length + [f].length ≤ 2147483648 by simp)]
    have e : found f = bif sameL f f then [f] else [] := by
      unfold found
      rw [hm]
      exact filt_one f f.Graph f.Places
    rw [e]
    cases sameL f f <;> simp
theorem othersI_eq (h0 : SM f.Graph.Bars.length) (h1 : SM f.Places.length) : m_impl_OtherPlaces f = some ((others f).1, (others f).2, f.Graph.Bars, f.Places) := by
  unfold m_impl_OtherPlaces others
  rw [isFI_eq f h0 h1, copyFI_eq f h0 h1]
  cases hf : fits f with
  | true =>
    obtain ⟨pl, e⟩ := tryTop h0 h1 hf
    unfold fits at hf
    rw [Bool.and_eq_true, Bool.not_eq_true'] at hf
    rw [hf.1, hf.2]
    simp only [Option.bind_some, Bool.not_true, cond_false, cond_true, e]
  | false =>
    unfold fits at hf
    cases hv : vF f with
    | false => rfl
    | true =>
      rw [hv, Bool.true_and, Bool.not_eq_false'] at hf
      rw [hf]
      rfl
def placed (m code : Nat) (pl : List TPlace) : List TPlace := match m with
  | 0 => pl
  | 1 => pl.set 2 (cellAt code)
  | _ => (pl.set 3 (cellAt (code % 25))).set 2 (cellAt (code / 25))
theorem set_comm {α : Type} {l : List α} {i j : Nat} {a b : α} (h : i ≠ j) : (l.set i a).set j b = (l.set j b).set i a := List.set_comm a b h
theorem ways_placed {m : Nat} (hm : m ≤ 2) (pl : List TPlace) : ways m 2 pl = pieces (fun code => [placed m code pl]) (25 ^ m) := by
  match m, hm with
  | 0, _ => rfl
  | 1, _ => rfl
  | 2, _ =>
    show pieces (fun d => pieces (fun e => [((pl.set 2 (cellAt d)).set 3 (cellAt e))]) 25) 25 = pieces (fun code => [placed 2 code pl]) (25 * 25)
    rw [pieces_mul]
    refine pieces_congr 25 fun d _ => pieces_congr 25 fun e he => ?_
    show [(pl.set 2 (cellAt d)).set 3 (cellAt e)] = [(pl.set 3 (cellAt ((25 * d + e) % 25))).set 2 (cellAt ((25 * d + e) / 25))]
    rw [show (25 * d + e) % 25 = e by omega, show (25 * d + e) / 25 = d by omega, List.set_comm _ _ (by omega)]
theorem pow0 : m_spec_l17Power 25 0 = some 1 := by kernel_rfl
theorem pow1 : m_spec_l17Power 25 1 = some 25 := by kernel_rfl
theorem pow2 : m_spec_l17Power 25 2 = some 625 := by kernel_rfl
theorem power_eq {m : Nat} (hm : m ≤ 2) : m_spec_l17Power 25 (m : Int) = some ((25 ^ m : Nat) : Int) := by
  have : m = 0 ∨ m = 1 ∨ m = 2 := by omega
  rcases this with rfl | rfl | rfl
  · exact pow0
  · exact pow1
  · exact pow2
theorem digit_cell (c : Nat) (hc : c ≤ 1000) : TPlace.mk (Int.tmod (c : Int) 5) (Int.tmod (w64 (Int.tdiv (c : Int) 5)) 5) = cellAt (c % 25) := by
  unfold cellAt
  have h1 : Int.tmod (c : Int) 5 = ((c % 25 % 5 : Nat) : Int) := by
    rw [show (5 : Int) = ((5 : Nat) : Int) from rfl, ← Int.ofNat_tmod]
    congr 1
    omega
  have h2 : Int.tdiv (c : Int) 5 = ((c / 5 : Nat) : Int) := by
    rw [show (5 : Int) = ((5 : Nat) : Int) from rfl, ← Int.ofNat_tdiv]
  rw [h1, h2, w64_small (by omega) (by omega)]
  congr 1
  rw [show (5 : Int) = ((5 : Nat) : Int) from rfl, ← Int.ofNat_tmod]
  congr 1
  omega
theorem div25 (c : Nat) : Int.tdiv (c : Int) 25 = ((c / 25 : Nat) : Int) := by
  rw [show (25 : Int) = ((25 : Nat) : Int) from rfl, ← Int.ofNat_tdiv]
theorem digitStep (s : Int × List TFramework) (r : TFramework) (c v : Nat) (pl : List TPlace) (hc : c ≤ 1000) (hv : 2 ≤ v) (hv2 : v ≤ 8) (hl : v < pl.length) : m_spec_OtherPlaces_L4 s r ((c : Int), (v : Int), pl) = some (.inl (((c / 25 : Nat) : Int), ((v - 1 : Nat) : Int), pl.set v (cellAt (c % 25)))) := by
  unfold m_spec_OtherPlaces_L4
  rw [decide_eq_true (by simp only; omega), cond_true]
  simp only [idx_at hl, Option.bind_some, div25, digit_cell c hc, Int.toNat_natCast]
  rw [w64_small (by omega) (by omega), w64_small (by omega) (by omega), show (v : Int) - 1 = ((v - 1 : Nat) : Int) by omega]
theorem digitEnd (s : Int × List TFramework) (r : TFramework) (c v : Int) (pl : List TPlace) (hv : v < 2) : m_spec_OtherPlaces_L4 s r (c, v, pl) = some (.inr (s.1, s.2, r.Graph.Bars, pl, r.Graph.Points)) := by
  unfold m_spec_OtherPlaces_L4
  rw [decide_eq_false (by simp only; omega)]
  rfl
theorem digits (s : Int × List TFramework) {r : TFramework} {m n code : Nat} (hm : m ≤ 2) (hn : r.Places.length = n) (hn1 : 1 ≤ n) (hmn : m = n - 2) (hc : code < 25 ^ m) : loopM (m_spec_OtherPlaces_L4 s r) BIG ((code : Int), ((n - 1 : Nat) : Int), r.Places) = some (s.1, s.2, r.Graph.Bars, placed m code r.Places, r.Graph.Points) := by
  match m, hm with
  | 0, _ => exact loopM_run (fun _ => ((code : Int), ((n - 1 : Nat) : Int), r.Places)) 0 (by omega) rfl (fun k hk => by omega) (digitEnd s r _ _ _ (by omega))
  | 1, _ =>
    have hn3 : n = 3 := by omega
    subst hn3
    refine loopM_run (fun k => match k with | 0 => ((code : Int), ((2 : Nat) : Int), r.Places) | _ => (((code / 25 : Nat) : Int), ((1 : Nat) : Int), r.Places.set 2 (cellAt (code % 25)))) 1 (by omega) rfl (fun k hk => ?_) ?_
    · have : k = 0 := by omega
      subst this
      exact digitStep s r code 2 r.Places (by omega) (by omega) (by omega) (by omega)
    · refine (digitEnd s r ((code / 25 : Nat) : Int) ((1 : Nat) : Int) (r.Places.set 2 (cellAt (code % 25))) (by omega)).trans ?_
      show some (Sum.inr (s.1, s.2, r.Graph.Bars, r.Places.set 2 (cellAt (code % 25)), r.Graph.Points)) = some (Sum.inr (s.1, s.2, r.Graph.Bars, r.Places.set 2 (cellAt code), r.Graph.Points))
      rw [show code % 25 = code from Nat.mod_eq_of_lt (by simpa using hc)]
  | 2, _ =>
    have hn4 : n = 4 := by omega
    subst hn4
    have hc2 : code < 625 := hc
    refine loopM_run (fun k => match k with | 0 => ((code : Int), ((3 : Nat) : Int), r.Places) | 1 => (((code / 25 : Nat) : Int), ((2 : Nat) : Int), r.Places.set 3 (cellAt (code % 25))) | _ => (((code / 25 / 25 : Nat) : Int), ((1 : Nat) : Int), (r.Places.set 3 (cellAt (code % 25))).set 2 (cellAt (code / 25 % 25)))) 2 (by omega) rfl (fun k hk => ?_) ?_
    · have : k = 0 ∨ k = 1 := by omega
      rcases this with rfl | rfl
      · exact digitStep s r code 3 r.Places (by omega) (by omega) (by omega) (by omega)
      · exact digitStep s r (code / 25) 2 _ (by omega) (by omega) (by omega) (by simp; omega)
    · refine (digitEnd s r ((code / 25 / 25 : Nat) : Int) ((1 : Nat) : Int) ((r.Places.set 3 (cellAt (code % 25))).set 2 (cellAt (code / 25 % 25))) (by omega)).trans ?_
      show some (Sum.inr (s.1, s.2, r.Graph.Bars, (r.Places.set 3 (cellAt (code % 25))).set 2 (cellAt (code / 25 % 25)), r.Graph.Points)) = some (Sum.inr (s.1, s.2, r.Graph.Bars, (r.Places.set 3 (cellAt (code % 25))).set 2 (cellAt (code / 25)), r.Graph.Points))
      rw [show code / 25 % 25 = code / 25 from Nat.mod_eq_of_lt (by omega)]
theorem othersS_eq (h0 : SM f.Graph.Bars.length) (h1 : SM f.Places.length) : m_spec_OtherPlaces f = some (others f) := by
  unfold m_spec_OtherPlaces others
  rw [isFS_eq f h0 h1]
  cases hf : fits f with
  | true =>
    obtain ⟨hV, h4⟩ := fits_VF hf
    have hp := hV.pls
    have hp1 := hV.g.p1
    have hm : mvd f ≤ 2 := by unfold mvd; omega
    have hpow : 25 ^ mvd f ≤ 25 ^ 2 := Nat.pow_le_pow_right (by omega) hm
    have hn : f.Places.length = f.Graph.Points.toNat := by omega
    have hmx : (if 0 < w64 (f.Graph.Points - 2) then w64 (f.Graph.Points - 2) else 0) = (mvd f : Int) := by
      rw [w64_small (by omega) (by omega)]
      unfold mvd
      split <;> omega
    have := app_loop (b := m_spec_OtherPlaces_L3 f) (s := (0, [])) (fun k out => ((k : Int), out)) (fun code => filt f f.Graph [placed (mvd f) code f.Places]) id 1 (25 ^ mvd f) [] (by omega) rfl (fun k _ => filt_len ..) (fun k out hk ho => by
      simp only [List.length_nil, Nat.zero_add, Nat.one_mul] at ho
      have hd := digits ((k : Int), out) (r := f) hm hn (by omega) (by unfold mvd; rfl) hk
      have hpl : (placed (mvd f) k f.Places).length = f.Places.length := by
        unfold placed
        split <;> simp
      unfold m_spec_OtherPlaces_L3
      rw [hmx, power_eq hm, Option.bind_some, decide_eq_true (by simp only; omega), cond_true, copyFS_eq f h0 h1]
      simp only [Option.bind_some]
      rw [show w64 (f.Graph.Points - 1) = ((f.Graph.Points.toNat - 1 : Nat) : Int) by rw [w64_small (by omega) (by omega)]; omega, hd]
      simp only [Option.bind_some]
      rw [show TFramework.mk (TGraph.mk f.Graph.Points f.Graph.Bars) (placed (mvd f) k f.Places) = ⟨f.Graph, placed (mvd f) k f.Places⟩ from rfl, sameLS_eq f ⟨f.Graph, placed (mvd f) k f.Places⟩ h0 h1 h0 (by rw [hpl]; exact h1), filt_one, w64_succ (by omega)]
      simp only [Option.bind_some]
      rw [lim_ok (by simp; omega)]
      cases sameL f ⟨f.Graph, placed (mvd f) k f.Places⟩ <;> simp) (fun out => by
      unfold m_spec_OtherPlaces_L3
      rw [hmx, power_eq hm, Option.bind_some, decide_eq_false (by simp only; omega)]
      rfl)
    unfold fits at hf
    rw [Bool.and_eq_true, Bool.not_eq_true'] at hf
    rw [hf.1, hf.2]
    simp only [Option.bind_some, Bool.not_true, cond_false, cond_true, this]
    unfold found
    rw [ways_placed hm, filt_pieces]
    rfl
  | false =>
    unfold fits at hf
    cases hv : vF f with
    | false => rfl
    | true =>
      rw [hv, Bool.true_and, Bool.not_eq_false'] at hf
      rw [hf]
      rfl
end
theorem filt_mem {f : TFramework} {g : TGraph} {L : List (List TPlace)} {x : TFramework} (h : x ∈ filt f g L) : ∃ pl ∈ L, x = ⟨g, pl⟩ ∧ sameL f x = true := by
  unfold filt at h
  obtain ⟨h1, h2⟩ := List.mem_filter.1 h
  obtain ⟨pl, h3, rfl⟩ := List.mem_map.1 h1
  exact ⟨pl, h3, rfl, h2⟩
theorem others_mem {f x : TFramework} (h : x ∈ (others f).1) : fits f = true ∧ x.Graph = f.Graph ∧ x.Places.length = f.Places.length ∧ sameL f x = true := by
  unfold others at h
  cases hf : fits f with
  | false => rw [hf] at h; cases h
  | true =>
    rw [hf] at h
    obtain ⟨pl, h1, rfl, h2⟩ := filt_mem (L := ways (mvd f) 2 f.Places) h
    exact ⟨rfl, rfl, ways_mem_len _ _ _ _ h1, h2⟩
theorem others_small (f : TFramework) : (others f).1.length ≤ 625 := by
  unfold others
  cases hf : fits f with
  | false => exact Nat.zero_le _
  | true => exact found_small hf
def twin (f : TFramework) : Bool := (others f).1.any fun x => !congr2 f x
theorem congr_both {f x : TFramework} (h0 : f.Graph.Bars.length ≤ 1048576) (h1 : f.Places.length ≤ 1048576) (hx : x ∈ (others f).1) : m_spec_IsCongruent f x = some (congr2 f x) ∧ m_impl_IsCongruent f x = some (congr2 f x) := by
  obtain ⟨_, hg, hl, _⟩ := others_mem hx
  have h2 : x.Graph.Bars.length ≤ 1048576 := by rw [hg]; exact h0
  have h3 : x.Places.length ≤ 1048576 := by rw [hl]; exact h1
  constructor
  · unfold m_spec_IsCongruent congr2
    simp only [isFS_eq f (by omega) (by omega), isFS_eq x (by omega) (by omega), pairDS_eq f (by omega) (by omega), pairDS_eq x (by omega) (by omega), l6Same_eq _ _ (pairsOf_len f), Option.bind_some]
    cases vF f
    · rfl
    · cases vF x
      · rfl
      · cases (f.Graph.Points == x.Graph.Points) <;> rfl
  · unfold m_impl_IsCongruent congr2
    simp only [isFI_eq f (by omega) (by omega), isFI_eq x (by omega) (by omega), pairDI_eq f (by omega) (by omega), pairDI_eq x (by omega) (by omega), sEqual_eq _ _ (pairsOf_len f), Option.bind_some]
    cases vF f
    · rfl
    · cases vF x
      · rfl
      · cases (f.Graph.Points == x.Graph.Points) <;> rfl
theorem twinS_eq (f : TFramework) (h0 : f.Graph.Bars.length ≤ 1048576) (h1 : f.Places.length ≤ 1048576) : m_spec_HasTwin f = some (twin f) := by
  have hs := others_small f
  unfold m_spec_HasTwin twin
  rw [othersS_eq (by omega) (by omega), Option.bind_some]
  have := any_loop0 (b := m_spec_HasTwin_L1 f (others f)) (atB (others f).1 fun x => !congr2 f x) true (others f).1.length (by omega) (fun k hk => by
    have hx : (others f).1[k] ∈ (others f).1 := List.getElem_mem hk
    unfold m_spec_HasTwin_L1
    rw [decide_eq_true (by omega), cond_true, idx_at hk, Option.bind_some, (congr_both h0 h1 hx).1, Option.bind_some, atB_at hk]) (by simp [m_spec_HasTwin_L1])
  rw [this, range_any]
  cases (others f).1.any fun x => !congr2 f x <;> rfl
theorem twinI_eq (f : TFramework) (h0 : f.Graph.Bars.length ≤ 1048576) (h1 : f.Places.length ≤ 1048576) : m_impl_HasTwin f = some (twin f, f.Graph.Bars, f.Places) := by
  have hs := others_small f
  unfold m_impl_HasTwin twin
  rw [othersI_eq (by omega) (by omega), Option.bind_some]
  simp only [same_ok, Option.bind_some]
  have hL : loopM (m_impl_HasTwin_L1 f ((others f).1, (others f).2, f.Graph.Bars, f.Places)) BIG 0 = some (bif (others f).1.any fun x => !congr2 f x then .inr (true, f.Graph.Bars, f.Places) else .inl (f.Graph.Bars, f.Places)) := by
    obtain ⟨r, hr, hq⟩ := loop_inv (b := m_impl_HasTwin_L1 f ((others f).1, (others f).2, f.Graph.Bars, f.Places)) (s := 0) (fun k s => s = (k : Int) ∧ (List.range' 0 k).any (atB (others f).1 fun x => !congr2 f x) = false) (fun r => r = bif (List.range' 0 (others f).1.length).any (atB (others f).1 fun x => !congr2 f x) then .inr (true, f.Graph.Bars, f.Places) else .inl (f.Graph.Bars, f.Places)) (others f).1.length (by omega) ⟨rfl, rfl⟩ (fun k s hk hs => by
      obtain ⟨rfl, ha⟩ := hs
      have hx : (others f).1[k] ∈ (others f).1 := List.getElem_mem hk
      unfold m_impl_HasTwin_L1
      simp only [idx_at hk, Option.bind_some]
      rw [decide_eq_true (show (k : Int) < ((others f).1.length : Int) by omega), cond_true, show TFramework.mk (TGraph.mk f.Graph.Points f.Graph.Bars) f.Places = f from rfl, (congr_both h0 h1 hx).2]
      simp only [Option.bind_some]
      cases hc : !congr2 f (others f).1[k] with
      | true =>
        refine .inr ⟨_, rfl, ?_⟩
        rw [any_range.2 ⟨k, by omega, by omega, by rw [atB_at hk]; exact hc⟩]
        rfl
      | false =>
        refine .inl ⟨_, rfl, w64_succ (by omega), ?_⟩
        rw [any_range_false] at ha ⊢
        intro j h2 h3
        by_cases hj : j = k
        · subst hj
          rw [atB_at hk]
          exact hc
        · exact ha j h2 (by omega)) (fun s hs => by
      obtain ⟨rfl, ha⟩ := hs
      refine ⟨_, by unfold m_impl_HasTwin_L1; rw [decide_eq_false (show ¬ ((others f).1.length : Int) < ((others f).1.length : Int) by omega)]; rfl, ?_⟩
      rw [ha]
      rfl)
    rw [hr, hq, range_any]
  rw [hL]
  cases (others f).1.any fun x => !congr2 f x <;> rfl
theorem both_HasTwin (f : TFramework) (h0 : f.Graph.Bars.length ≤ 1048576) (h1 : f.Places.length ≤ 1048576) : ∃ w, m_spec_HasTwin f = some w ∧ m_impl_HasTwin f = some (w, f.Graph.Bars, f.Places) :=
  ⟨_, twinS_eq f h0 h1, twinI_eq f h0 h1⟩
end Go.Proofs.Yteognanhfpbghaa
end
section
set_option linter.unusedVariables false
set_option linter.unusedSimpArgs false
set_option linter.unnecessarySimpa false
open Go Go.Fw
namespace Go.Proofs.Yteognanhfpbghaa
theorem law_FnExactHasTwin (aF : TFramework) {p0 : Prop} (_ : p0) (l0 : aF.Graph.Bars.length ≤ 1048576) (l1 : aF.Places.length ≤ 1048576) : m_laws_FnExactHasTwin aF = some true := by
  obtain ⟨w, hs, hi⟩ := both_HasTwin aF l0 l1
  have s0 : SM aF.Graph.Bars.length := by omega
  have s1 : SM aF.Places.length := by omega
  unfold m_laws_FnExactHasTwin
  obtain ⟨z0, e0⟩ := szFramework_some aF 1048576
  rw [e0, Option.bind_some]
  cases decide (z0 < 0)
  rotate_left
  · rfl
  simp only [cond_false]
  simp only [hs, hi, toFramework_eq aF s0 s1, eqFramework_refl aF s0 s1, decide_eq_false (show ¬ ((1 + 2 * (aF.Graph.Bars.length : Int)) + 2 * (aF.Places.length : Int)) < 0 by omega), same_ok, Option.bind_some, bne_self_eq_false, beq_self_eq_true, Bool.not_true, Bool.not_false, cond_true, cond_false]
end Go.Proofs.Yteognanhfpbghaa
end
section
set_option linter.unusedVariables false
set_option linter.unusedSimpArgs false
set_option linter.unnecessarySimpa false
set_option maxRecDepth 100000
set_option maxHeartbeats 8000000
open Go Go.Fw
namespace Go.Proofs.Yteognanhfpbghaa
theorem ag112 : agB Try.prog 112 = some true := by kernel_rfl
theorem ag129 : agB Try.prog 129 = some true := by kernel_rfl
theorem ag149 : agB Try.prog 149 = some true := by kernel_rfl
theorem ag22 : agB Try.prog 22 = some false := by kernel_rfl
theorem ag24 : agB Try.prog 24 = some true := by kernel_rfl
theorem ag25 : agB Try.prog 25 = some false := by kernel_rfl
theorem ag27 : agB Try.prog 27 = some true := by kernel_rfl
theorem ag3 : agB Try.prog 3 = some false := by kernel_rfl
theorem ag30 : agB Try.prog 30 = some false := by kernel_rfl
theorem ag32 : agB Try.prog 32 = some true := by kernel_rfl
theorem ag33 : agB Try.prog 33 = some false := by kernel_rfl
theorem ag35 : agB Try.prog 35 = some true := by kernel_rfl
theorem ag39 : agB Try.prog 39 = some false := by kernel_rfl
theorem ag95 : agB Try.prog 95 = some true := by kernel_rfl
theorem ag96 : agB Try.prog 96 = some false := by kernel_rfl
theorem cb107 : callB Try.prog 107 = true := by kernel_rfl
theorem cb108 : callB Try.prog 108 = true := by kernel_rfl
theorem cb109 : callB Try.prog 109 = true := by kernel_rfl
theorem cb110 : callB Try.prog 110 = true := by kernel_rfl
theorem cb111 : callB Try.prog 111 = true := by kernel_rfl
theorem cb113 : callB Try.prog 113 = true := by kernel_rfl
theorem cb118 : callB Try.prog 118 = true := by kernel_rfl
theorem cb123 : callB Try.prog 123 = true := by kernel_rfl
theorem cb13 : callB Try.prog 13 = true := by kernel_rfl
theorem cb131 : callB Try.prog 131 = true := by kernel_rfl
theorem cb139 : callB Try.prog 139 = true := by kernel_rfl
theorem cb14 : callB Try.prog 14 = true := by kernel_rfl
theorem cb15 : callB Try.prog 15 = true := by kernel_rfl
theorem cb151 : callB Try.prog 151 = true := by kernel_rfl
theorem cb154 : callB Try.prog 154 = true := by kernel_rfl
theorem cb156 : callB Try.prog 156 = true := by kernel_rfl
theorem cb157 : callB Try.prog 157 = true := by kernel_rfl
theorem cb158 : callB Try.prog 158 = true := by kernel_rfl
theorem cb159 : callB Try.prog 159 = true := by kernel_rfl
theorem cb16 : callB Try.prog 16 = true := by kernel_rfl
theorem cb160 : callB Try.prog 160 = true := by kernel_rfl
theorem cb161 : callB Try.prog 161 = true := by kernel_rfl
theorem cb162 : callB Try.prog 162 = true := by kernel_rfl
theorem cb17 : callB Try.prog 17 = true := by kernel_rfl
theorem cb172 : callB Try.prog 172 = true := by kernel_rfl
theorem cb173 : callB Try.prog 173 = true := by kernel_rfl
theorem cb175 : callB Try.prog 175 = true := by kernel_rfl
theorem cb18 : callB Try.prog 18 = true := by kernel_rfl
theorem cb180 : callB Try.prog 180 = true := by kernel_rfl
theorem cb19 : callB Try.prog 19 = true := by kernel_rfl
theorem cb210 : callB Try.prog 210 = true := by kernel_rfl
theorem cb33 : callB Try.prog 33 = true := by kernel_rfl
theorem cb34 : callB Try.prog 34 = true := by kernel_rfl
theorem cb37 : callB Try.prog 37 = true := by kernel_rfl
theorem cb44 : callB Try.prog 44 = true := by kernel_rfl
theorem cb46 : callB Try.prog 46 = true := by kernel_rfl
theorem cb61 : callB Try.prog 61 = true := by kernel_rfl
theorem cb72 : callB Try.prog 72 = true := by kernel_rfl
theorem cb77 : callB Try.prog 77 = true := by kernel_rfl
theorem cb80 : callB Try.prog 80 = true := by kernel_rfl
theorem cb81 : callB Try.prog 81 = true := by kernel_rfl
theorem cb82 : callB Try.prog 82 = true := by kernel_rfl
theorem cb83 : callB Try.prog 83 = true := by kernel_rfl
theorem cb84 : callB Try.prog 84 = true := by kernel_rfl
theorem cb85 : callB Try.prog 85 = true := by kernel_rfl
theorem cb86 : callB Try.prog 86 = true := by kernel_rfl
theorem cb87 : callB Try.prog 87 = true := by kernel_rfl
theorem cb88 : callB Try.prog 88 = true := by kernel_rfl
theorem cb89 : callB Try.prog 89 = true := by kernel_rfl
theorem cb90 : callB Try.prog 90 = true := by kernel_rfl
theorem el22 : elB Try.prog 22 = some 149 := by kernel_rfl
theorem el25 : elB Try.prog 25 = some 129 := by kernel_rfl
theorem el30 : elB Try.prog 30 = some 112 := by kernel_rfl
theorem el33 : elB Try.prog 33 = some 95 := by kernel_rfl
theorem el39 : elB Try.prog 39 = some 35 := by kernel_rfl
theorem el45 : elB Try.prog 45 = some 3 := by kernel_rfl
theorem fo112_0 : foB Try.prog 112 0 = some 0 := by kernel_rfl
theorem fo112_1 : foB Try.prog 112 1 = some 1 := by kernel_rfl
theorem fo129_0 : foB Try.prog 129 0 = some 0 := by kernel_rfl
theorem fo129_1 : foB Try.prog 129 1 = some 1 := by kernel_rfl
theorem fo149_0 : foB Try.prog 149 0 = some 0 := by kernel_rfl
theorem fo149_1 : foB Try.prog 149 1 = some 1 := by kernel_rfl
theorem fo24_0 : foB Try.prog 24 0 = some 0 := by kernel_rfl
theorem fo24_1 : foB Try.prog 24 1 = some 1 := by kernel_rfl
theorem fo27_0 : foB Try.prog 27 0 = some 0 := by kernel_rfl
theorem fo27_1 : foB Try.prog 27 1 = some 2 := by kernel_rfl
theorem fo32_0 : foB Try.prog 32 0 = some 0 := by kernel_rfl
theorem fo32_1 : foB Try.prog 32 1 = some 1 := by kernel_rfl
theorem fo35_0 : foB Try.prog 35 0 = some 0 := by kernel_rfl
theorem fo35_1 : foB Try.prog 35 1 = some 2 := by kernel_rfl
theorem fo95_0 : foB Try.prog 95 0 = some 0 := by kernel_rfl
theorem fo95_1 : foB Try.prog 95 1 = some 1 := by kernel_rfl
theorem inf112 : (Try.prog.info? 112).isSome = true := by kernel_rfl
theorem inf129 : (Try.prog.info? 129).isSome = true := by kernel_rfl
theorem inf149 : (Try.prog.info? 149).isSome = true := by kernel_rfl
theorem inf24 : (Try.prog.info? 24).isSome = true := by kernel_rfl
theorem inf27 : (Try.prog.info? 27).isSome = true := by kernel_rfl
theorem inf3 : (Try.prog.info? 3).isSome = true := by kernel_rfl
theorem inf30 : (Try.prog.info? 30).isSome = true := by kernel_rfl
theorem inf32 : (Try.prog.info? 32).isSome = true := by kernel_rfl
theorem inf33 : (Try.prog.info? 33).isSome = true := by kernel_rfl
theorem inf35 : (Try.prog.info? 35).isSome = true := by kernel_rfl
theorem inf39 : (Try.prog.info? 39).isSome = true := by kernel_rfl
theorem inf95 : (Try.prog.info? 95).isSome = true := by kernel_rfl
theorem inf96 : (Try.prog.info? 96).isSome = true := by kernel_rfl
theorem ist112 : istB Try.prog 112 = some 2 := by kernel_rfl
theorem ist95 : istB Try.prog 95 = some 2 := by kernel_rfl
theorem mixed : Try.prog.follows .mixedOrders = true := by kernel_rfl
theorem pl32 : plB Try.prog 32 = some [(0, 1), (1, 1)] := by kernel_rfl
theorem pl35 : plB Try.prog 35 = some [(0, 2), (2, 1)] := by kernel_rfl
theorem pl95 : plB Try.prog 95 = some [(0, 1), (1, 1)] := by kernel_rfl
theorem sz112 : szP Try.prog 112 = 2 := by kernel_rfl
theorem sz129 : szP Try.prog 129 = 2 := by kernel_rfl
theorem sz149 : szP Try.prog 149 = 2 := by kernel_rfl
theorem sz24 : szP Try.prog 24 = 2 := by kernel_rfl
theorem sz27 : szP Try.prog 27 = 3 := by kernel_rfl
theorem sz3 : szP Try.prog 3 = 1 := by kernel_rfl
theorem sz30 : szP Try.prog 30 = 1 := by kernel_rfl
theorem sz32 : szP Try.prog 32 = 2 := by kernel_rfl
theorem sz33 : szP Try.prog 33 = 1 := by kernel_rfl
theorem sz35 : szP Try.prog 35 = 3 := by kernel_rfl
theorem sz39 : szP Try.prog 39 = 1 := by kernel_rfl
theorem sz95 : szP Try.prog 95 = 2 := by kernel_rfl
theorem sz96 : szP Try.prog 96 = 1 := by kernel_rfl
theorem ti112 : TI Try.prog 112 (.agg #[(.int .i64 0), (.int .i64 0)]) 2 16 := by unfold TI; kernel_rfl
theorem ti3 : TI Try.prog 3 (.int .i64 0) 1 8 := by unfold TI; kernel_rfl
theorem ti32 : TI Try.prog 32 (.agg #[(.int .i64 0), (.slice none 0 0)]) 2 32 := by unfold TI; kernel_rfl
theorem ti35 : TI Try.prog 35 (.agg #[(.int .i64 0), (.slice none 0 0), (.slice none 0 0)]) 3 56 := by unfold TI; kernel_rfl
theorem ti39 : TI Try.prog 39 (.slice none 0 0) 1 24 := by unfold TI; kernel_rfl
theorem ti95 : TI Try.prog 95 (.agg #[(.int .i64 0), (.int .i64 0)]) 2 16 := by unfold TI; kernel_rfl
theorem ti96 : TI Try.prog 96 .nilFunc 1 8 := by unfold TI; kernel_rfl
theorem und22 : Try.prog.underlying 22 = some (.slice 149) := by kernel_rfl
theorem und25 : Try.prog.underlying 25 = some (.slice 129) := by kernel_rfl
theorem und30 : Try.prog.underlying 30 = some (.slice 112) := by kernel_rfl
theorem und33 : Try.prog.underlying 33 = some (.slice 95) := by kernel_rfl
theorem und39 : Try.prog.underlying 39 = some (.slice 35) := by kernel_rfl
theorem und4 : Try.prog.underlying 4 = some .bool := by kernel_rfl
theorem und45 : Try.prog.underlying 45 = some (.slice 3) := by kernel_rfl
end Go.Proofs.Yteognanhfpbghaa
end
section
set_option linter.unusedVariables false
set_option linter.unusedSimpArgs false
set_option linter.unnecessarySimpa false
set_option maxRecDepth 100000
set_option maxHeartbeats 8000000
open Go Go.Fw
namespace Go.Proofs.Yteognanhfpbghaa
theorem w_laws_szBarS (a : (List TBar)) (leftV : Int) : ∀ t, m_laws_szBarS a leftV = some t → Fw.Fn Try.prog 118 [(.c (xF encTBar a)), (.c (iC leftV))] [] (.s (.c (iC t))) [] [] [] := by
 refine Fw.Fn.of (P := Try.prog) (X := []) (pn := []) (rs := (fun (t : Int) => [(.c (iC t))])) (dfs := (fun (t : Int) => [])) Try.func118 rfl Try.ntmps118 (Nat.le_of_ble_eq_true rfl) rfl ?_
 intro w0 U0 R0 g0
 unfold m_laws_szBarS
 refine Ws (Wr ?_)
 refine asg (Iv 0) rfl ⟨rfl, rfl⟩ rfl rfl (On (Ws (Wr ?_)))
 refine mv (Iv leftV) rfl rfl rfl rfl (mv (Cc (xF encTBar a)) rfl rfl rfl rfl (Op10 (LT.tlenRO rfl und22) rfl rfl rfl (Op20 (LT.sub rfl) rfl rfl rfl rfl (asg (Iv (w64 (leftV - (a.length : Int)))) rfl rfl rfl rfl (On (Ws (Ws (Wr ?_))))))))
 refine mv (Iv (w64 (leftV - (a.length : Int)))) rfl rfl rfl rfl (Op20 (LT.lss rfl) rfl ⟨rfl, rfl⟩ rfl rfl (On (AWR.cond rfl (fun hc1 => ?_) (fun hc1 => ?_))))
 ·refine Ws (Wr ?_)
  refine asg (Iv (-1)) rfl ⟨rfl, rfl⟩ rfl rfl (On (AWR.ret (FPost.mk (.inr rfl) ⟨rfl, trivial⟩ trivial rfl ⟨PermP.sc, trivial⟩ trivial)))
 ·refine AWR.skip (Ws (Wr ?_))
  refine mv (Iv (w64 (leftV - (a.length : Int)))) rfl rfl rfl rfl (asg (Iv (w64 (leftV - (a.length : Int)))) rfl rfl rfl rfl (On (AWR.ret (FPost.mk (.inr rfl) ⟨rfl, trivial⟩ trivial rfl ⟨PermP.sc, trivial⟩ trivial))))
theorem w_laws_szGraph (a : TGraph) (leftV : Int) : ∀ t, m_laws_szGraph a leftV = some t → Fw.Fn Try.prog 44 [(.agg [(iC a.Points), (xF encTBar a.Bars)]), (.c (iC leftV))] [] (.s (.c (iC t))) [] [] [] := by
 refine Fw.Fn.of (P := Try.prog) (X := []) (pn := []) (rs := (fun (t : Int) => [(.c (iC t))])) (dfs := (fun (t : Int) => [])) Try.func44 rfl Try.ntmps44 (Nat.le_of_ble_eq_true rfl) rfl ?_
 intro w0 U0 R0 g0
 unfold m_laws_szGraph
 refine Ws (Wr ?_)
 refine Os10 (LT.box (n := 21) (v := (.agg [(iC a.Points), (xF encTBar a.Bars)])) rfl sz24 (by exact rfl)) rfl rfl rfl (asg (Iv 0) rfl ⟨rfl, rfl⟩ rfl rfl (On (Ws (Wr ?_))))
 refine Op10 (LT.fieldPl rfl fo24_1) rfl rfl rfl (Op11 (LT.bload1 (c := (xF encTBar a.Bars)) rfl ag22 (by exact rfl)) rfl rfl rfl rfl (mv (Iv leftV) rfl rfl rfl rfl (Ob' fun r1 hr1 => (AOR.pure (@LT.callF Try.prog _ _ 118 _ _ [(.c (xF encTBar a.Bars)), (.c (iC leftV))] _ _ [] _ _ _ _ (w_laws_szBarS a.Bars leftV r1 hr1) rfl cb118 (.cons (.c (.same rfl)) (.cons (.c (.same rfl)) .nil)) rfl rfl trivial) ⟨rfl, rfl, rfl, trivial⟩ trivial rfl rfl (asg (Iv r1) rfl rfl rfl rfl (On (Ws (Ws (Wr ?_)))))))))
 refine mv (Iv r1) rfl rfl rfl rfl (Op20 (LT.lss rfl) rfl ⟨rfl, rfl⟩ rfl rfl (On (AWR.cond rfl (fun hc2 => ?_) (fun hc2 => ?_))))
 ·refine Ws (en [] [] trivial trivial (Wr (asg (Iv (-1)) rfl ⟨rfl, rfl⟩ rfl rfl (On (AWR.ret (FPost.mk (.inr rfl) ⟨rfl, trivial⟩ trivial rfl ⟨PermP.sc, trivial⟩ trivial))))))
 ·refine AWR.skip (Ws ?_)
  refine en [(1, (Iv r1))] [] ⟨rfl, trivial⟩ trivial (Wr (mv (Iv r1) rfl rfl rfl rfl (asg (Iv r1) rfl rfl rfl rfl (On (AWR.ret (FPost.mk (.inr rfl) ⟨rfl, trivial⟩ trivial rfl ⟨PermP.sc, trivial⟩ trivial))))))
theorem w_laws_toBar (a : TBar) : ∀ t, m_laws_toBar a = some t → Fw.Fn Try.prog 180 [(.agg [(iC a.A), (iC a.B)])] [] (.s (.agg [(iC t.A), (iC t.B)])) [] [] [] := by
 refine Fw.Fn.of (P := Try.prog) (X := []) (pn := []) (rs := (fun (t : TBar) => [(.agg [(iC t.A), (iC t.B)])])) (dfs := (fun (t : TBar) => [])) Try.func180 rfl Try.ntmps180 (Nat.le_of_ble_eq_true rfl) rfl ?_
 intro w0 U0 R0 g0
 unfold m_laws_toBar
 refine Ws (Wr ?_)
 refine Os10 (LT.box (n := 21) (v := (.agg [(iC a.A), (iC a.B)])) rfl sz149 (by exact rfl)) rfl rfl rfl (Os00 (LT.alloc (n := 22) (cells := [(iC 0), (iC 0)]) rfl ti112 rfl rfl rfl) rfl rfl (On (Ws (Wr ?_))))
 refine Os00 (LT.alloc (n := 23) (cells := [(iC 0), (iC 0)]) rfl ti112 rfl rfl rfl) rfl rfl (On (Ws (Wr ?_)))
 refine Op10 (LT.fieldPl rfl fo149_0) rfl rfl rfl (Op11 (LT.bload1 (c := (iC a.A)) rfl ag3 (by exact rfl)) rfl rfl rfl rfl (Op10 (LT.fieldPl rfl fo112_0) rfl rfl rfl (Os21 (LT.bstore (v := (.c (iC a.A))) (out := [(iC a.A), (iC 0)]) rfl rfl (infS inf3) sz3 (by exact rfl) (by exact Nat.le_of_ble_eq_true rfl) (by exact rfl)) rfl rfl rfl rfl rfl (On (Ws ?_)))))
 refine en [(1, (Cc (.pl 21 0))), (2, (Cc (.pl 22 0))), (3, (Cc (.pl 23 0)))] [(21, (.row 149 [[(iC a.A), (iC a.B)]])), (22, (.row 112 [[(iC 0), (iC 0)]])), (23, (.row 112 [[(iC a.A), (iC 0)]]))] ⟨rfl, rfl, rfl, trivial⟩ ⟨rfl, rfl, rfl, trivial⟩ (Wr (Op10 (LT.fieldPl rfl fo149_1) rfl rfl rfl (Op11 (LT.bload1 (c := (iC a.B)) rfl ag3 (by exact rfl)) rfl rfl rfl rfl (Op10 (LT.fieldPl rfl fo112_1) rfl rfl rfl (Os21 (LT.bstore (v := (.c (iC a.B))) (out := [(iC a.A), (iC a.B)]) rfl rfl (infS inf3) sz3 (by exact rfl) (by exact Nat.le_of_ble_eq_true rfl) (by exact rfl)) rfl rfl rfl rfl rfl (On (Ws (Wr ?_))))))))
 refine Op11 (LT.bloadN (out := [(iC a.A), (iC a.B)]) rfl ag112 (infS inf112) sz112 (by exact rfl) (by exact rfl)) rfl rfl rfl rfl (Os21 (LT.bstore (v := (.agg [(iC a.A), (iC a.B)])) (out := [(iC a.A), (iC a.B)]) rfl rfl (infS inf112) sz112 (by exact rfl) (by exact Nat.le_of_ble_eq_true rfl) (by exact rfl)) rfl rfl rfl rfl rfl (On (AWR.ret (FPost.mk (.inr rfl) ⟨⟨_, _, _, rfl, rfl, rfl, ag112, sz112, _, (infS inf112)⟩, trivial⟩ trivial rfl ⟨⟨PermP.sc, PermP.sc, trivial⟩, trivial⟩ trivial))))
theorem w_laws_toBarS (a : (List TBar)) : ∀ t, m_laws_toBarS a = some t → Fw.Fn Try.prog 123 [(.c (xF encTBar a))] [] (.s (.c (lo 0 t.length))) [(0, (pR 112 encTBar t))] [] [0] := by
 refine Fw.Fn.of (P := Try.prog) (X := [0]) (pn := []) (rs := (fun (t : (List TBar)) => [(.c (lo 0 t.length))])) (dfs := (fun (t : (List TBar)) => [(0, (pR 112 encTBar t))])) Try.func123 rfl Try.ntmps123 (Nat.le_of_ble_eq_true rfl) rfl ?_
 intro w0 U0 R0 g0
 unfold m_laws_toBarS
 refine Ws (Wr ?_)
 refine asg (Cc (sC nilV)) rfl ⟨rfl, rfl⟩ rfl rfl (On (Ws (Wr ?_)))
 refine mv (Cc (xF encTBar a)) rfl rfl rfl rfl (Op10 (LT.tlenRO rfl und22) rfl rfl rfl (Ob' fun u1 hu1 => (Os20 (LT.tmake (n := 21) (enc := encTBar) (zc := [(iC 0), (iC 0)]) (TBar.mk (0 : Int) (0 : Int)) rfl und30 ti112 rfl rfl rfl (by decide) (by decide) (lenOk_le hu1) rfl) rfl rfl rfl rfl (asg (Cc (lo 21 ((List.replicate (a.length : Int).toNat (TBar.mk (0 : Int) (0 : Int))).length))) rfl rfl rfl rfl (On (Ws (Ws (Wr ?_))))))))
 refine asg (Iv 0) rfl ⟨rfl, rfl⟩ rfl rfl (On (AWR.block ?_))
 refine AWR.loop1 (id := 0) (m_laws_toBarS_L1 a) (fun s2 => ([(0, (Cc (xF encTBar a))), (3, (Cc (lo 21 s2.2.length))), (4, (Iv s2.1))], [(21, (pR 112 encTBar s2.2))])) (fun b11 => ([(3, (Cc (lo 21 b11.length)))], [(21, (pR 112 encTBar b11))])) ?_ (Ent.of ⟨rfl, rfl, rfl, trivial⟩ ⟨rfl, trivial⟩) rfl (fun b11 _ => ?_)
 ·intro s2
  unfold m_laws_toBarS_L1
  refine Ws (Ws (Wr ?_))
  refine mv (Iv s2.1) rfl rfl rfl rfl (mv (Cc (xF encTBar a)) rfl rfl rfl rfl (Op10 (LT.tlenRO rfl und22) rfl rfl rfl (Op20 (LT.lss rfl) rfl rfl rfl rfl (On (AWR.cond rfl (fun hc12 => ?_) (fun hc12 => ?_))))))
  ·refine AWR.skip (Ws (AWR.block (Wr ?_)))
   refine mv (Cc (lo 21 s2.2.length)) rfl rfl rfl rfl (mv (Iv s2.1) rfl rfl rfl rfl (mv (Cc (xF encTBar a)) rfl rfl rfl rfl (mv (Iv s2.1) rfl rfl rfl rfl (Ob' fun x13 hx13 => (Op20 (LT.tindexRO (enc := encTBar) rfl el22 hx13 sz149) rfl rfl rfl rfl (Op10 (LT.loadPxN rfl ag149 (infS inf149) (by exact sz149.symm)) rfl rfl rfl (Ob' fun r14 hr14 => (AOR.pure (@LT.callF Try.prog _ _ 180 _ _ [(.agg [(iC x13.A), (iC x13.B)])] _ _ [] _ _ _ _ (w_laws_toBar x13 r14 hr14) rfl cb180 (.cons (.agg (.cons (.same rfl) (.cons (.same rfl) .nil))) .nil) rfl rfl trivial) ⟨rfl, rfl, trivial⟩ trivial rfl rfl (Ob' fun x15 hx15 => (Op21 (LT.tindexLoc rfl rfl el30 hx15) rfl rfl rfl rfl rfl (Os21 (LT.tstore (k := 0) (v := (.agg [(iC r14.A), (iC r14.B)])) (b' := r14) rfl rfl (infS inf112) sz112 (by exact rfl) hx15 (by exact rfl) (by exact Nat.le_of_ble_eq_true rfl) (by exact rfl)) rfl rfl rfl rfl rfl ?_)))))))))))
   refine On (AWR.blk ?_)
   refine en [(0, (Cc (xF encTBar a))), (3, (Cc (lo 21 s2.2.length))), (4, (Iv s2.1))] [(21, (pR 112 encTBar (s2.2.set s2.1.toNat r14)))] ⟨rfl, rfl, rfl, trivial⟩ ⟨rfl, trivial⟩ (Wr (mv (Iv s2.1) rfl rfl rfl rfl (Op20 (LT.add rfl) rfl ⟨rfl, rfl⟩ rfl rfl (asg (Iv (w64 (s2.1 + 1))) rfl rfl rfl rfl (On (AWR.nil ⟨rfl, Ent.of ⟨rfl, (congrArg (fun l1 => (some (AV.s (.c (lo 21 l1))) : Option AV)) (show s2.2.length = (s2.2.set s2.1.toNat r14).length by simp only [List.length_set])), rfl, trivial⟩ ⟨rfl, trivial⟩⟩))))))
  ·refine AWR.exit_end rfl ⟨rfl, Ent.of ⟨rfl, trivial⟩ ⟨rfl, trivial⟩⟩
 ·refine Ws (Wr ?_)
  refine mv (Cc (lo 21 b11.length)) rfl rfl rfl rfl (asg (Cc (lo 21 b11.length)) rfl rfl rfl rfl (On (en [(2, (Cc (lo 21 b11.length)))] [(21, (pR 112 encTBar b11))] ⟨rfl, trivial⟩ ⟨rfl, trivial⟩ (AWR.ent (Ent.mv 21 0 rfl rfl) (en [(2, (Cc (lo 0 b11.length)))] [(0, (pR 112 encTBar b11))] ⟨rfl, trivial⟩ ⟨rfl, trivial⟩ (AWR.ret (FPost.mk (.inr rfl) ⟨rfl, trivial⟩ ⟨rfl, trivial⟩ rfl ⟨trivial, trivial⟩ ⟨PermO.prow' perm_encTBar, trivial⟩)))))))
theorem w_laws_toGraph (a : TGraph) : ∀ t, m_laws_toGraph a = some t → Fw.Fn Try.prog 46 [(.agg [(iC a.Points), (xF encTBar a.Bars)])] [] (.s (.agg [(iC t.Points), (lo 0 t.Bars.length)])) [(0, (pR 112 encTBar t.Bars))] [] [0] := by
 refine Fw.Fn.of (P := Try.prog) (X := [0]) (pn := []) (rs := (fun (t : TGraph) => [(.agg [(iC t.Points), (lo 0 t.Bars.length)])])) (dfs := (fun (t : TGraph) => [(0, (pR 112 encTBar t.Bars))])) Try.func46 rfl Try.ntmps46 (Nat.le_of_ble_eq_true rfl) rfl ?_
 intro w0 U0 R0 g0
 unfold m_laws_toGraph
 refine Ws (Wr ?_)
 refine Os10 (LT.box (n := 21) (v := (.agg [(iC a.Points), (xF encTBar a.Bars)])) rfl sz24 (by exact rfl)) rfl rfl rfl (Os00 (LT.alloc (n := 22) (cells := [(iC 0), (sC nilV)]) rfl ti32 rfl rfl rfl) rfl rfl (On (Ws (Wr ?_))))
 refine Os00 (LT.alloc (n := 23) (cells := [(iC 0), (sC nilV)]) rfl ti32 rfl rfl rfl) rfl rfl (On (Ws (Wr ?_)))
 refine Op10 (LT.fieldPl rfl fo24_0) rfl rfl rfl (Op11 (LT.bload1 (c := (iC a.Points)) rfl ag3 (by exact rfl)) rfl rfl rfl rfl (Op10 (LT.fieldPl rfl fo32_0) rfl rfl rfl (Os21 (LT.bstore (v := (.c (iC a.Points))) (out := [(iC a.Points), (sC nilV)]) rfl rfl (infS inf3) sz3 (by exact rfl) (by exact Nat.le_of_ble_eq_true rfl) (by exact rfl)) rfl rfl rfl rfl rfl (On (Ws ?_)))))
 refine en [(1, (Cc (.pl 21 0))), (2, (Cc (.pl 22 0))), (3, (Cc (.pl 23 0)))] [(21, (.row 24 [[(iC a.Points), (xF encTBar a.Bars)]])), (22, (.row 32 [[(iC 0), (sC nilV)]])), (23, (.row 32 [[(iC a.Points), (sC nilV)]]))] ⟨rfl, rfl, rfl, trivial⟩ ⟨rfl, rfl, rfl, trivial⟩ (Wr (Op10 (LT.fieldPl rfl fo24_1) rfl rfl rfl (Op11 (LT.bload1 (c := (xF encTBar a.Bars)) rfl ag22 (by exact rfl)) rfl rfl rfl rfl (Ob' fun r1 hr1 => (AOR.step (@LT.callF Try.prog _ _ 123 _ _ [(.c (xF encTBar a.Bars))] _ _ [] _ _ _ _ ((show Fw.Fn Try.prog 123 [(.c (xF encTBar a.Bars))] [] (Cc (lo 25 r1.length)) [(25, (pR 112 encTBar r1))] [] [25] from Fw.Fn.ren [(0, 25)] (w_laws_toBarS a.Bars r1 hr1) rfl)) rfl cb123 (.cons (.c (.same rfl)) .nil) rfl rfl trivial) ⟨rfl, rfl, trivial⟩ trivial rfl rfl (Op10 (LT.fieldPl rfl fo32_1) rfl rfl rfl (Os21 (LT.bstore (v := (.c (lo 25 r1.length))) (out := [(iC a.Points), (lo 25 r1.length)]) rfl rfl (infS inf30) sz30 (by exact rfl) (by exact Nat.le_of_ble_eq_true rfl) (by exact rfl)) rfl rfl rfl rfl rfl (On (Ws (Wr ?_))))))))))
 refine Op11 (LT.bloadN (out := [(iC a.Points), (lo 25 r1.length)]) rfl ag32 (infS inf32) sz32 (by exact rfl) (by exact rfl)) rfl rfl rfl rfl (Os21 (LT.bstore (v := (.agg [(iC a.Points), (lo 25 r1.length)])) (out := [(iC a.Points), (lo 25 r1.length)]) rfl rfl (infS inf32) sz32 (by exact rfl) (by exact Nat.le_of_ble_eq_true rfl) (by exact rfl)) rfl rfl rfl rfl rfl (On (en [(2, (Cc (.pl 22 0)))] [(22, (.row 32 [[(iC a.Points), (lo 25 r1.length)]])), (25, (pR 112 encTBar r1))] ⟨rfl, trivial⟩ ⟨rfl, rfl, trivial⟩ (AWR.ent (Ent.mv 25 0 rfl rfl) (en [(2, (Cc (.pl 22 0)))] [(0, (pR 112 encTBar r1)), (22, (.row 32 [[(iC a.Points), (lo 0 r1.length)]]))] ⟨rfl, trivial⟩ ⟨rfl, rfl, trivial⟩ (AWR.ret (FPost.mk (.inr rfl) ⟨⟨_, _, _, rfl, rfl, rfl, ag32, sz32, _, (infS inf32)⟩, trivial⟩ ⟨rfl, trivial⟩ rfl ⟨⟨PermP.sc, trivial, trivial⟩, trivial⟩ ⟨PermO.prow' perm_encTBar, trivial⟩)))))))
end Go.Proofs.Yteognanhfpbghaa
end
section
set_option linter.unusedVariables false
set_option linter.unusedSimpArgs false
set_option linter.unnecessarySimpa false
set_option maxRecDepth 100000
set_option maxHeartbeats 8000000
open Go Go.Fw
namespace Go.Proofs.Yteognanhfpbghaa
theorem w_spec_l1In (x : Int) (low : Int) (high : Int) : ∀ t, m_spec_l1In x low high = some t → Fw.Fn Try.prog 111 [(.c (iC x)), (.c (iC low)), (.c (iC high))] [] (.s (.c (bC t))) [] [] [] := by
 refine Fw.Fn.of (P := Try.prog) (X := []) (pn := []) (rs := (fun (t : Bool) => [(.c (bC t))])) (dfs := (fun (t : Bool) => [])) Try.func111 rfl Try.ntmps111 (Nat.le_of_ble_eq_true rfl) rfl ?_
 intro w0 U0 R0 g0
 unfold m_spec_l1In
 refine Ws (Wr ?_)
 refine asg (Bv false) rfl ⟨rfl, rfl⟩ rfl rfl (On (Ws ?_))
 refine AWR.joinK (fun j2 => ([(6, (Bv j2))], [])) ?_ (fun j2 _ => ?_)
 ·refine Wr (mv (Iv x) rfl rfl rfl rfl (mv (Iv low) rfl rfl rfl rfl (Op20 (LT.geq rfl) rfl rfl rfl rfl (mv (Bv (decide (low ≤ x))) rfl rfl rfl rfl (AOR.split (fun hb3 => ?_) (fun hb3 => ?_))))))
  ·refine mv (Iv x) rfl rfl ⟨_, rfl, .inl ⟨_, rfl, (by rw [hb3]; rfl)⟩⟩ rfl (mv (Iv high) rfl rfl ⟨_, rfl, .inl ⟨_, rfl, (by rw [hb3]; rfl)⟩⟩ rfl (Op20 (LT.leq rfl) rfl rfl ⟨_, rfl, .inl ⟨_, rfl, (by rw [hb3]; rfl)⟩⟩ rfl (Op20 (LT.pickT (v := (Bv (decide (x ≤ high)))) rfl hb3) rfl rfl rfl rfl (asg (Bv (decide (x ≤ high))) rfl rfl rfl rfl (On (AWR.nil ⟨rfl, Ent.of ⟨rfl, trivial⟩ trivial⟩))))))
  ·refine Ok rfl rfl rfl (by rw [hb3]; rfl) rfl (Ok rfl rfl rfl (by rw [hb3]; rfl) rfl (Ok rfl rfl rfl (by rw [hb3]; rfl) rfl (Op20 (LT.pickF (v := (Bv false)) rfl hb3) rfl ⟨rfl, rfl⟩ rfl rfl (asg (Bv false) rfl rfl rfl rfl (On (AWR.nil ⟨rfl, Ent.of ⟨rfl, trivial⟩ trivial⟩))))))
 ·refine AWR.ret (FPost.mk (.inr rfl) ⟨rfl, trivial⟩ trivial rfl ⟨PermP.sc, trivial⟩ trivial)
theorem w_spec_l2After (a : TBar) (b : TBar) : ∀ t, m_spec_l2After a b = some t → Fw.Fn Try.prog 139 [(.agg [(iC a.A), (iC a.B)]), (.agg [(iC b.A), (iC b.B)])] [] (.s (.c (bC t))) [] [] [] := by
 refine Fw.Fn.of (P := Try.prog) (X := []) (pn := []) (rs := (fun (t : Bool) => [(.c (bC t))])) (dfs := (fun (t : Bool) => [])) Try.func139 rfl Try.ntmps139 (Nat.le_of_ble_eq_true rfl) rfl ?_
 intro w0 U0 R0 g0
 unfold m_spec_l2After
 refine Ws (Wr ?_)
 refine Os10 (LT.box (n := 21) (v := (.agg [(iC a.A), (iC a.B)])) rfl sz112 (by exact rfl)) rfl rfl rfl (Os10 (LT.box (n := 22) (v := (.agg [(iC b.A), (iC b.B)])) rfl sz112 (by exact rfl)) rfl rfl rfl (asg (Bv false) rfl ⟨rfl, rfl⟩ rfl rfl (On (Ws ?_))))
 refine AWR.joinK (fun j3 => ([(4, (Bv j3))], [])) ?_ (fun j3 _ => ?_)
 ·refine Wr (Op10 (LT.fieldPl rfl fo112_0) rfl rfl rfl (Op11 (LT.bload1 (c := (iC a.A)) rfl ag3 (by exact rfl)) rfl rfl rfl rfl (Op10 (LT.fieldPl rfl fo112_0) rfl rfl rfl (Op11 (LT.bload1 (c := (iC b.A)) rfl ag3 (by exact rfl)) rfl rfl rfl rfl (Op20 (LT.lss rfl) rfl rfl rfl rfl (mv (Bv (decide (a.A < b.A))) rfl rfl rfl rfl (AOR.split (fun hb4 => ?_) (fun hb4 => ?_))))))))
  ·refine Ok rfl rfl rfl (by rw [hb4]; rfl) rfl (Ok rfl rfl rfl (by rw [hb4]; rfl) rfl (Ok rfl rfl rfl (by rw [hb4]; rfl) rfl (Ok rfl rfl rfl (by rw [hb4]; rfl) rfl (Ok rfl rfl rfl (by rw [hb4]; rfl) rfl (Ok rfl rfl rfl (by rw [hb4]; rfl) rfl (Oj rfl rfl rfl rfl (Oj rfl rfl rfl rfl (Oj rfl rfl rfl rfl (Oj rfl rfl rfl rfl (Oj rfl rfl rfl rfl (Ok rfl rfl rfl (by rw [hb4]; rfl) rfl ?_)))))))))))
   refine Op20 (LT.pickT (v := (Bv true)) rfl hb4) rfl ⟨rfl, rfl⟩ rfl rfl (asg (Bv true) rfl rfl rfl rfl (On (AWR.nil ⟨rfl, Ent.of ⟨rfl, trivial⟩ trivial⟩)))
  ·refine Op10 (LT.fieldPl rfl fo112_0) rfl ⟨_, rfl, .inl ⟨_, rfl, (by rw [hb4]; rfl)⟩⟩ rfl (Op11 (LT.bload1 (c := (iC a.A)) rfl ag3 (by exact rfl)) rfl rfl ⟨_, rfl, .inl ⟨_, rfl, (by rw [hb4]; rfl)⟩⟩ rfl (Op10 (LT.fieldPl rfl fo112_0) rfl ⟨_, rfl, .inl ⟨_, rfl, (by rw [hb4]; rfl)⟩⟩ rfl (Op11 (LT.bload1 (c := (iC b.A)) rfl ag3 (by exact rfl)) rfl rfl ⟨_, rfl, .inl ⟨_, rfl, (by rw [hb4]; rfl)⟩⟩ rfl (Op20 (LT.eql rfl) rfl rfl ⟨_, rfl, .inl ⟨_, rfl, (by rw [hb4]; rfl)⟩⟩ rfl (mv (Bv (a.A == b.A)) rfl rfl ⟨_, rfl, .inl ⟨_, rfl, (by rw [hb4]; rfl)⟩⟩ rfl (AOR.split (fun hb5 => ?_) (fun hb5 => ?_)))))))
   ·refine Op10 (LT.fieldPl rfl fo112_1) rfl ⟨_, rfl, .inl ⟨_, rfl, (by rw [hb5]; rfl)⟩⟩ rfl (Op11 (LT.bload1 (c := (iC a.B)) rfl ag3 (by exact rfl)) rfl rfl ⟨_, rfl, .inl ⟨_, rfl, (by rw [hb5]; rfl)⟩⟩ rfl (Op10 (LT.fieldPl rfl fo112_1) rfl ⟨_, rfl, .inl ⟨_, rfl, (by rw [hb5]; rfl)⟩⟩ rfl (Op11 (LT.bload1 (c := (iC b.B)) rfl ag3 (by exact rfl)) rfl rfl ⟨_, rfl, .inl ⟨_, rfl, (by rw [hb5]; rfl)⟩⟩ rfl (Op20 (LT.leq rfl) rfl rfl ⟨_, rfl, .inl ⟨_, rfl, (by rw [hb5]; rfl)⟩⟩ rfl (Op20 (LT.pickT (v := (Bv (decide (a.B ≤ b.B)))) rfl hb5) rfl rfl ⟨_, rfl, .inl ⟨_, rfl, (by rw [hb4]; rfl)⟩⟩ rfl (Op20 (LT.pickF (v := (Bv (decide (a.B ≤ b.B)))) rfl hb4) rfl rfl rfl rfl (asg (Bv (decide (a.B ≤ b.B))) rfl rfl rfl rfl (On (AWR.nil ⟨rfl, Ent.of ⟨rfl, trivial⟩ trivial⟩)))))))))
   ·refine Ok rfl rfl rfl (by rw [hb5]; rfl) rfl (Ok rfl rfl rfl (by rw [hb5]; rfl) rfl (Ok rfl rfl rfl (by rw [hb5]; rfl) rfl (Ok rfl rfl rfl (by rw [hb5]; rfl) rfl (Ok rfl rfl rfl (by rw [hb5]; rfl) rfl (Op20 (LT.pickF (v := (Bv false)) rfl hb5) rfl ⟨rfl, rfl⟩ ⟨_, rfl, .inl ⟨_, rfl, (by rw [hb4]; rfl)⟩⟩ rfl (Op20 (LT.pickF (v := (Bv false)) rfl hb4) rfl rfl rfl rfl (asg (Bv false) rfl rfl rfl rfl (On (AWR.nil ⟨rfl, Ent.of ⟨rfl, trivial⟩ trivial⟩)))))))))
 ·refine AWR.ret (FPost.mk (.inr rfl) ⟨rfl, trivial⟩ trivial rfl ⟨PermP.sc, trivial⟩ trivial)
theorem w_impl_within (x : Int) (loV : Int) (hi : Int) : ∀ t, m_impl_within x loV hi = some t → Fw.Fn Try.prog 113 [(.c (iC x)), (.c (iC loV)), (.c (iC hi))] [] (.s (.c (bC t))) [] [] [] := by
 refine Fw.Fn.of (P := Try.prog) (X := []) (pn := []) (rs := (fun (t : Bool) => [(.c (bC t))])) (dfs := (fun (t : Bool) => [])) Try.func113 rfl Try.ntmps113 (Nat.le_of_ble_eq_true rfl) rfl ?_
 intro w0 U0 R0 g0
 unfold m_impl_within
 refine Ws (Wr ?_)
 refine asg (Bv false) rfl ⟨rfl, rfl⟩ rfl rfl (On (Ws ?_))
 refine AWR.joinK (fun j2 => ([(6, (Bv j2))], [])) ?_ (fun j2 _ => ?_)
 ·refine Wr (mv (Iv x) rfl rfl rfl rfl (mv (Iv loV) rfl rfl rfl rfl (Op20 (LT.geq rfl) rfl rfl rfl rfl (mv (Bv (decide (loV ≤ x))) rfl rfl rfl rfl (AOR.split (fun hb3 => ?_) (fun hb3 => ?_))))))
  ·refine mv (Iv x) rfl rfl ⟨_, rfl, .inl ⟨_, rfl, (by rw [hb3]; rfl)⟩⟩ rfl (mv (Iv hi) rfl rfl ⟨_, rfl, .inl ⟨_, rfl, (by rw [hb3]; rfl)⟩⟩ rfl (Op20 (LT.leq rfl) rfl rfl ⟨_, rfl, .inl ⟨_, rfl, (by rw [hb3]; rfl)⟩⟩ rfl (Op20 (LT.pickT (v := (Bv (decide (x ≤ hi)))) rfl hb3) rfl rfl rfl rfl (asg (Bv (decide (x ≤ hi))) rfl rfl rfl rfl (On (AWR.nil ⟨rfl, Ent.of ⟨rfl, trivial⟩ trivial⟩))))))
  ·refine Ok rfl rfl rfl (by rw [hb3]; rfl) rfl (Ok rfl rfl rfl (by rw [hb3]; rfl) rfl (Ok rfl rfl rfl (by rw [hb3]; rfl) rfl (Op20 (LT.pickF (v := (Bv false)) rfl hb3) rfl ⟨rfl, rfl⟩ rfl rfl (asg (Bv false) rfl rfl rfl rfl (On (AWR.nil ⟨rfl, Ent.of ⟨rfl, trivial⟩ trivial⟩))))))
 ·refine AWR.ret (FPost.mk (.inr rfl) ⟨rfl, trivial⟩ trivial rfl ⟨PermP.sc, trivial⟩ trivial)
theorem w_impl_compareInts (a : Int) (b : Int) : ∀ t, m_impl_compareInts a b = some t → Fw.Fn Try.prog 210 [(.c (iC a)), (.c (iC b))] [] (.s (.c (iC t))) [] [] [] := by
 refine Fw.Fn.of (P := Try.prog) (X := []) (pn := []) (rs := (fun (t : Int) => [(.c (iC t))])) (dfs := (fun (t : Int) => [])) Try.func210 rfl Try.ntmps210 (Nat.le_of_ble_eq_true rfl) rfl ?_
 intro w0 U0 R0 g0
 unfold m_impl_compareInts
 refine Ws (Wr ?_)
 refine asg (Iv 0) rfl ⟨rfl, rfl⟩ rfl rfl (On (Ws (AWR.block (Ws (Wr ?_)))))
 refine mv (Iv a) rfl rfl rfl rfl (mv (Iv b) rfl rfl rfl rfl (Op20 (LT.lss rfl) rfl rfl rfl rfl (asg (Bv (decide (a < b))) rfl rfl rfl rfl (On (AWR.cond rfl (fun hc1 => ?_) (fun hc1 => ?_))))))
 ·refine Ws (Wr ?_)
  refine asg (Iv (-1)) rfl ⟨rfl, rfl⟩ rfl rfl (On (AWR.ret (FPost.mk (.inr rfl) ⟨rfl, trivial⟩ trivial rfl ⟨PermP.sc, trivial⟩ trivial)))
 ·refine Ws (Wr ?_)
  refine mv (Iv a) rfl rfl rfl rfl (mv (Iv b) rfl rfl rfl rfl (Op20 (LT.gtr rfl) rfl rfl rfl rfl (asg (Bv (decide (b < a))) rfl rfl rfl rfl (On (AWR.cond rfl (fun hc2 => ?_) (fun hc2 => ?_))))))
  ·refine Ws (Wr ?_)
   refine asg (Iv 1) rfl ⟨rfl, rfl⟩ rfl rfl (On (AWR.ret (FPost.mk (.inr rfl) ⟨rfl, trivial⟩ trivial rfl ⟨PermP.sc, trivial⟩ trivial)))
  ·refine AWR.skip (AWR.blk (Ws (Wr ?_)))
   refine asg (Iv 0) rfl ⟨rfl, rfl⟩ rfl rfl (On (AWR.ret (FPost.mk (.inr rfl) ⟨rfl, trivial⟩ trivial rfl ⟨PermP.sc, trivial⟩ trivial)))
theorem w_impl_compareBars (x : TBar) (y : TBar) : ∀ t, m_impl_compareBars x y = some t → Fw.Fn Try.prog 175 [(.agg [(iC x.A), (iC x.B)]), (.agg [(iC y.A), (iC y.B)])] [] (.s (.c (iC t))) [] [] [] := by
 refine Fw.Fn.of (P := Try.prog) (X := []) (pn := []) (rs := (fun (t : Int) => [(.c (iC t))])) (dfs := (fun (t : Int) => [])) Try.func175 rfl Try.ntmps175 (Nat.le_of_ble_eq_true rfl) rfl ?_
 intro w0 U0 R0 g0
 unfold m_impl_compareBars
 refine Ws (Wr ?_)
 refine Os10 (LT.box (n := 21) (v := (.agg [(iC x.A), (iC x.B)])) rfl sz112 (by exact rfl)) rfl rfl rfl (Os10 (LT.box (n := 22) (v := (.agg [(iC y.A), (iC y.B)])) rfl sz112 (by exact rfl)) rfl rfl rfl (asg (Iv 0) rfl ⟨rfl, rfl⟩ rfl rfl (On (Ws (Ws (Wr ?_))))))
 refine Op10 (LT.fieldPl rfl fo112_0) rfl rfl rfl (Op11 (LT.bload1 (c := (iC x.A)) rfl ag3 (by exact rfl)) rfl rfl rfl rfl (Op10 (LT.fieldPl rfl fo112_0) rfl rfl rfl (Op11 (LT.bload1 (c := (iC y.A)) rfl ag3 (by exact rfl)) rfl rfl rfl rfl (Ob' fun r1 hr1 => (AOR.pure (@LT.callF Try.prog _ _ 210 _ _ [(.c (iC x.A)), (.c (iC y.A))] _ _ [] _ _ _ _ (w_impl_compareInts x.A y.A r1 hr1) rfl cb210 (.cons (.c (.same rfl)) (.cons (.c (.same rfl)) .nil)) rfl rfl trivial) ⟨rfl, rfl, rfl, trivial⟩ trivial rfl rfl (asg (Iv r1) rfl rfl rfl rfl (On (Ws ?_))))))))
 refine en [(2, (Cc (.pl 21 0))), (3, (Cc (.pl 22 0))), (5, (Iv r1))] [(21, (.row 112 [[(iC x.A), (iC x.B)]])), (22, (.row 112 [[(iC y.A), (iC y.B)]]))] ⟨rfl, rfl, rfl, trivial⟩ ⟨rfl, rfl, trivial⟩ (Wr (mv (Iv r1) rfl rfl rfl rfl (Op20 (LT.neq rfl) rfl ⟨rfl, rfl⟩ rfl rfl (On (AWR.cond rfl (fun hc2 => ?_) (fun hc2 => ?_))))))
 ·refine Ws (Wr ?_)
  refine mv (Iv r1) rfl rfl rfl rfl (asg (Iv r1) rfl rfl rfl rfl (On (AWR.ret (FPost.mk (.inr rfl) ⟨rfl, trivial⟩ trivial rfl ⟨PermP.sc, trivial⟩ trivial))))
 ·refine AWR.skip (Ws (Wr ?_))
  refine Op10 (LT.fieldPl rfl fo112_1) rfl rfl rfl (Op11 (LT.bload1 (c := (iC x.B)) rfl ag3 (by exact rfl)) rfl rfl rfl rfl (Op10 (LT.fieldPl rfl fo112_1) rfl rfl rfl (Op11 (LT.bload1 (c := (iC y.B)) rfl ag3 (by exact rfl)) rfl rfl rfl rfl (Ob' fun r3 hr3 => (AOR.pure (@LT.callF Try.prog _ _ 210 _ _ [(.c (iC x.B)), (.c (iC y.B))] _ _ [] _ _ _ _ (w_impl_compareInts x.B y.B r3 hr3) rfl cb210 (.cons (.c (.same rfl)) (.cons (.c (.same rfl)) .nil)) rfl rfl trivial) ⟨rfl, rfl, rfl, trivial⟩ trivial rfl rfl (asg (Iv r3) rfl rfl rfl rfl (On (AWR.ret (FPost.mk (.inr rfl) ⟨rfl, trivial⟩ trivial rfl ⟨PermP.sc, trivial⟩ trivial)))))))))
end Go.Proofs.Yteognanhfpbghaa
end
section
set_option linter.unusedVariables false
set_option linter.unusedSimpArgs false
set_option linter.unnecessarySimpa false
set_option maxRecDepth 100000
set_option maxHeartbeats 8000000
open Go Go.Fw
namespace Go.Proofs.Yteognanhfpbghaa
theorem w_spec_IsGraph (g : TGraph) : ∀ t, m_spec_IsGraph g = some t → Fw.Fn Try.prog 61 [(.agg [(iC g.Points), (xF encTBar g.Bars)])] [] (.s (.c (bC t))) [] [] [] := by
 refine Fw.Fn.of (P := Try.prog) (X := []) (pn := []) (rs := (fun (t : Bool) => [(.c (bC t))])) (dfs := (fun (t : Bool) => [])) Try.func61 rfl Try.ntmps61 (Nat.le_of_ble_eq_true rfl) rfl ?_
 intro w0 U0 R0 g0
 unfold m_spec_IsGraph
 refine Ws (Wr ?_)
 refine Os10 (LT.box (n := 21) (v := (.agg [(iC g.Points), (xF encTBar g.Bars)])) rfl sz32 (by exact rfl)) rfl rfl rfl (asg (Bv false) rfl ⟨rfl, rfl⟩ rfl rfl (On (Ws (Ws ?_))))
 refine AWR.joinK (fun j3 => ([(1, (Cc (.pl 21 0))), (14, (Bv j3))], [(21, (.row 32 [[(iC g.Points), (xF encTBar g.Bars)]]))])) ?_ (fun j3 _ => ?_)
 ·refine Wr (Op10 (LT.fieldPl rfl fo32_0) rfl rfl rfl (Op11 (LT.bload1 (c := (iC g.Points)) rfl ag3 (by exact rfl)) rfl rfl rfl rfl (Ob' fun r4 hr4 => (AOR.pure (@LT.callF Try.prog _ _ 111 _ _ [(.c (iC g.Points)), (.c (iC 1)), (.c (iC 8))] _ _ [] _ _ _ _ (w_spec_l1In g.Points 1 8 r4 hr4) rfl cb111 (.cons (.c (.same rfl)) (.cons (.c (.same rfl)) (.cons (.c (.same rfl)) .nil))) rfl rfl trivial) ⟨rfl, rfl, ⟨rfl, rfl⟩, ⟨rfl, rfl⟩, trivial⟩ trivial rfl rfl (Op10 (LT.not rfl) rfl rfl rfl (mv (Bv (!r4)) rfl rfl rfl rfl (AOR.split (fun hb5 => ?_) (fun hb5 => ?_))))))))
  ·refine Ok rfl rfl rfl (by rw [hb5]; rfl) rfl (Ok rfl rfl rfl (by rw [hb5]; rfl) rfl (Ok rfl rfl rfl (by rw [hb5]; rfl) rfl (Ok rfl rfl rfl (by rw [hb5]; rfl) rfl (Op20 (LT.pickT (v := (Bv true)) rfl hb5) rfl ⟨rfl, rfl⟩ rfl rfl (On (AWR.nil ⟨rfl, Ent.of ⟨rfl, rfl, trivial⟩ ⟨rfl, trivial⟩⟩))))))
  ·refine Op10 (LT.fieldPl rfl fo32_1) rfl ⟨_, rfl, .inl ⟨_, rfl, (by rw [hb5]; rfl)⟩⟩ rfl (Op11 (LT.bload1 (c := (xF encTBar g.Bars)) rfl ag30 (by exact rfl)) rfl rfl ⟨_, rfl, .inl ⟨_, rfl, (by rw [hb5]; rfl)⟩⟩ rfl (Op10 (LT.tlenRO rfl und30) rfl ⟨_, rfl, .inl ⟨_, rfl, (by rw [hb5]; rfl)⟩⟩ rfl (Op20 (LT.gtr rfl) rfl ⟨rfl, rfl⟩ ⟨_, rfl, .inl ⟨_, rfl, (by rw [hb5]; rfl)⟩⟩ rfl (Op20 (LT.pickF (v := (Bv (decide (24 < (g.Bars.length : Int))))) rfl hb5) rfl rfl rfl rfl (On (AWR.nil ⟨rfl, Ent.of ⟨rfl, rfl, trivial⟩ ⟨rfl, trivial⟩⟩))))))
 ·refine AWR.cond rfl (fun hc6 => ?_) (fun hc6 => ?_)
  ·refine Ws (Wr ?_)
   refine asg (Bv false) rfl ⟨rfl, rfl⟩ rfl rfl (On (AWR.ret (FPost.mk (.inr rfl) ⟨rfl, trivial⟩ trivial rfl ⟨PermP.sc, trivial⟩ trivial)))
  ·refine AWR.skip (Ws (Ws (Wr ?_)))
   refine asg (Iv 0) rfl ⟨rfl, rfl⟩ rfl rfl (On (AWR.block ?_))
   refine AWR.loopR (id := 0) (m_spec_IsGraph_L1 g) (fun s7 => ([(1, (Cc (.pl 21 0))), (3, (Iv s7))], [(21, (.row 32 [[(iC g.Points), (xF encTBar g.Bars)]]))])) (fun b40 => ([], [])) (FPost Try.prog Try.f61.results.toList [] [] (fun (t : Bool) => [(.c (bC t))]) (fun (t : Bool) => [])) ?_ (Ent.of ⟨rfl, rfl, trivial⟩ ⟨rfl, trivial⟩) rfl (fun b40 _ => ?_) (by intro r t σ m ht hk; injection ht with ht; subst ht; exact hk)
   ·intro s7
    unfold m_spec_IsGraph_L1
    refine Ws (Ws (Wr ?_))
    refine mv (Iv s7) rfl rfl rfl rfl (Op10 (LT.fieldPl rfl fo32_1) rfl rfl rfl (Op11 (LT.bload1 (c := (xF encTBar g.Bars)) rfl ag30 (by exact rfl)) rfl rfl rfl rfl (Op10 (LT.tlenRO rfl und30) rfl rfl rfl (Op20 (LT.lss rfl) rfl rfl rfl rfl (On (AWR.cond rfl (fun hc41 => ?_) (fun hc41 => ?_)))))))
    ·refine AWR.skip (Ws (AWR.block (Ws (Wr ?_))))
     refine Op10 (LT.fieldPl rfl fo32_1) rfl rfl rfl (Op11 (LT.bload1 (c := (xF encTBar g.Bars)) rfl ag30 (by exact rfl)) rfl rfl rfl rfl (mv (Iv s7) rfl rfl rfl rfl (Ob' fun x42 hx42 => (Op20 (LT.tindexRO (enc := encTBar) rfl el30 hx42 sz112) rfl rfl rfl rfl (Op10 (LT.loadPxN rfl ag112 (infS inf112) (by exact sz112.symm)) rfl rfl rfl (Os00 (LT.alloc (n := 23) (cells := [(iC 0), (iC 0)]) rfl ti112 rfl rfl rfl) rfl rfl (Os21 (LT.bstore (v := (.agg [(iC x42.A), (iC x42.B)])) (out := [(iC x42.A), (iC x42.B)]) rfl rfl (infS inf112) sz112 (by exact rfl) (by exact Nat.le_of_ble_eq_true rfl) (by exact rfl)) rfl rfl rfl rfl rfl (On (Ws ?_)))))))))
     refine AWR.joinK (fun j49 => ([(1, (Cc (.pl 21 0))), (3, (Iv s7)), (58, (Bv j49))], [(21, (.row 32 [[(iC g.Points), (xF encTBar g.Bars)]]))])) ?_ (fun j49 _ => ?_)
     ·refine en [(1, (Cc (.pl 21 0))), (3, (Iv s7)), (4, (Cc (.pl 23 0)))] [(21, (.row 32 [[(iC g.Points), (xF encTBar g.Bars)]])), (23, (.row 112 [[(iC x42.A), (iC x42.B)]]))] ⟨rfl, rfl, rfl, trivial⟩ ⟨rfl, rfl, trivial⟩ (AWR.draw mixed (Dp10 (LT.fieldPl rfl fo112_0) rfl rfl rfl (Dp11 (LT.bload1 (c := (iC x42.A)) rfl ag3 (by exact rfl)) rfl rfl rfl rfl (Dp20 (LT.lss rfl) rfl ⟨rfl, rfl⟩ rfl rfl (Dp10 (LT.move (v := (Bv (decide (x42.A < 0)))) rfl) rfl rfl rfl (AOD.split (fun hb50 => ?_) (fun hb50 => ?_)))))))
      ·refine AOD.skip ⟨_, rfl, .inl ⟨_, rfl, (by rw [hb50]; rfl)⟩⟩ rfl (AOD.skip ⟨_, rfl, .inl ⟨_, rfl, (by rw [hb50]; rfl)⟩⟩ rfl (AOD.skip ⟨_, rfl, .inl ⟨_, rfl, (by rw [hb50]; rfl)⟩⟩ rfl (AOD.skip ⟨_, rfl, .inl ⟨_, rfl, (by rw [hb50]; rfl)⟩⟩ rfl (AOD.skip ⟨_, rfl, .inl ⟨_, rfl, (by rw [hb50]; rfl)⟩⟩ rfl (Dp20 (LT.pickT (v := (Bv true)) rfl hb50) rfl ⟨rfl, rfl⟩ rfl rfl (Dp10 (LT.move (v := (Bv true)) rfl) rfl rfl rfl (AOD.skip ⟨_, rfl, .inl ⟨_, rfl, rfl⟩⟩ rfl (AOD.skip ⟨_, rfl, .inl ⟨_, rfl, rfl⟩⟩ rfl (AOD.skip ⟨_, rfl, .inl ⟨_, rfl, rfl⟩⟩ rfl (AOD.skip ⟨_, rfl, .inl ⟨_, rfl, rfl⟩⟩ rfl (AOD.skip ⟨_, rfl, .inl ⟨_, rfl, rfl⟩⟩ rfl ?_)))))))))))
       refine Dp20 (LT.pickT (v := (Bv true)) rfl rfl) rfl ⟨rfl, rfl⟩ rfl rfl (Dp10 (LT.move (v := (Bv true)) rfl) rfl rfl rfl (AOD.skip ⟨_, rfl, .inl ⟨_, rfl, rfl⟩⟩ rfl (AOD.skip ⟨_, rfl, .inl ⟨_, rfl, rfl⟩⟩ rfl (AOD.skip ⟨_, rfl, .inl ⟨_, rfl, rfl⟩⟩ rfl (AOD.skip ⟨_, rfl, .inr ⟨rfl, rfl⟩⟩ rfl (AOD.skip ⟨_, rfl, .inr ⟨rfl, rfl⟩⟩ rfl (AOD.skip ⟨_, rfl, .inr ⟨rfl, rfl⟩⟩ rfl (AOD.skip ⟨_, rfl, .inr ⟨rfl, rfl⟩⟩ rfl (AOD.skip ⟨_, rfl, .inr ⟨rfl, rfl⟩⟩ rfl (AOD.skip ⟨_, rfl, .inr ⟨rfl, rfl⟩⟩ rfl (AOD.skip ⟨_, rfl, .inr ⟨rfl, rfl⟩⟩ rfl ?_)))))))))))
       refine AOD.skip ⟨_, rfl, .inr ⟨rfl, rfl⟩⟩ rfl (AOD.skip ⟨_, rfl, .inr ⟨rfl, rfl⟩⟩ rfl (AOD.skip ⟨_, rfl, .inl ⟨_, rfl, rfl⟩⟩ rfl (Dp20 (LT.pickT (v := (Bv true)) rfl rfl) rfl ⟨rfl, rfl⟩ rfl rfl (AOD.nil (by kernel_rfl) (AWR.nil ⟨rfl, Ent.of ⟨rfl, rfl, rfl, trivial⟩ ⟨rfl, trivial⟩⟩)))))
      ·refine Dp10 (LT.fieldPl rfl fo112_0) rfl ⟨_, rfl, .inl ⟨_, rfl, (by rw [hb50]; rfl)⟩⟩ rfl (Dp11 (LT.bload1 (c := (iC x42.A)) rfl ag3 (by exact rfl)) rfl rfl ⟨_, rfl, .inl ⟨_, rfl, (by rw [hb50]; rfl)⟩⟩ rfl (Dp10 (LT.fieldPl rfl fo112_1) rfl ⟨_, rfl, .inl ⟨_, rfl, (by rw [hb50]; rfl)⟩⟩ rfl (Dp11 (LT.bload1 (c := (iC x42.B)) rfl ag3 (by exact rfl)) rfl rfl ⟨_, rfl, .inl ⟨_, rfl, (by rw [hb50]; rfl)⟩⟩ rfl (Dp20 (LT.geq rfl) rfl rfl ⟨_, rfl, .inl ⟨_, rfl, (by rw [hb50]; rfl)⟩⟩ rfl (Dp20 (LT.pickF (v := (Bv (decide (x42.B ≤ x42.A)))) rfl hb50) rfl rfl rfl rfl (Dp10 (LT.move (v := (Bv (decide (x42.B ≤ x42.A)))) rfl) rfl rfl rfl (AOD.split (fun hb51 => ?_) (fun hb51 => ?_))))))))
       ·refine AOD.skip ⟨_, rfl, .inl ⟨_, rfl, (by rw [hb51]; rfl)⟩⟩ rfl (AOD.skip ⟨_, rfl, .inl ⟨_, rfl, (by rw [hb51]; rfl)⟩⟩ rfl (AOD.skip ⟨_, rfl, .inl ⟨_, rfl, (by rw [hb51]; rfl)⟩⟩ rfl (AOD.skip ⟨_, rfl, .inl ⟨_, rfl, (by rw [hb51]; rfl)⟩⟩ rfl (AOD.skip ⟨_, rfl, .inl ⟨_, rfl, (by rw [hb51]; rfl)⟩⟩ rfl (Dp20 (LT.pickT (v := (Bv true)) rfl hb51) rfl ⟨rfl, rfl⟩ rfl rfl (Dp10 (LT.move (v := (Bv true)) rfl) rfl rfl rfl (AOD.skip ⟨_, rfl, .inl ⟨_, rfl, rfl⟩⟩ rfl (AOD.skip ⟨_, rfl, .inl ⟨_, rfl, rfl⟩⟩ rfl (AOD.skip ⟨_, rfl, .inl ⟨_, rfl, rfl⟩⟩ rfl (AOD.skip ⟨_, rfl, .inr ⟨rfl, rfl⟩⟩ rfl (AOD.skip ⟨_, rfl, .inr ⟨rfl, rfl⟩⟩ rfl ?_)))))))))))
        refine AOD.skip ⟨_, rfl, .inr ⟨rfl, rfl⟩⟩ rfl (AOD.skip ⟨_, rfl, .inr ⟨rfl, rfl⟩⟩ rfl (AOD.skip ⟨_, rfl, .inr ⟨rfl, rfl⟩⟩ rfl (AOD.skip ⟨_, rfl, .inr ⟨rfl, rfl⟩⟩ rfl (AOD.skip ⟨_, rfl, .inr ⟨rfl, rfl⟩⟩ rfl (AOD.skip ⟨_, rfl, .inr ⟨rfl, rfl⟩⟩ rfl (AOD.skip ⟨_, rfl, .inr ⟨rfl, rfl⟩⟩ rfl (AOD.skip ⟨_, rfl, .inl ⟨_, rfl, rfl⟩⟩ rfl (Dp20 (LT.pickT (v := (Bv true)) rfl rfl) rfl ⟨rfl, rfl⟩ rfl rfl (AOD.nil (by kernel_rfl) (AWR.nil ⟨rfl, Ent.of ⟨rfl, rfl, rfl, trivial⟩ ⟨rfl, trivial⟩⟩))))))))))
       ·refine Dp10 (LT.fieldPl rfl fo112_1) rfl ⟨_, rfl, .inl ⟨_, rfl, (by rw [hb51]; rfl)⟩⟩ rfl (Dp11 (LT.bload1 (c := (iC x42.B)) rfl ag3 (by exact rfl)) rfl rfl ⟨_, rfl, .inl ⟨_, rfl, (by rw [hb51]; rfl)⟩⟩ rfl (Dp10 (LT.fieldPl rfl fo32_0) rfl ⟨_, rfl, .inl ⟨_, rfl, (by rw [hb51]; rfl)⟩⟩ rfl (Dp11 (LT.bload1 (c := (iC g.Points)) rfl ag3 (by exact rfl)) rfl rfl ⟨_, rfl, .inl ⟨_, rfl, (by rw [hb51]; rfl)⟩⟩ rfl (Dp20 (LT.geq rfl) rfl rfl ⟨_, rfl, .inl ⟨_, rfl, (by rw [hb51]; rfl)⟩⟩ rfl (Dp20 (LT.pickF (v := (Bv (decide (g.Points ≤ x42.B)))) rfl hb51) rfl rfl rfl rfl (Dp10 (LT.move (v := (Bv (decide (g.Points ≤ x42.B)))) rfl) rfl rfl rfl (AOD.split (fun hb52 => ?_) (fun hb52 => ?_))))))))
        ·refine AOD.skip ⟨_, rfl, .inl ⟨_, rfl, (by rw [hb52]; rfl)⟩⟩ rfl (AOD.skip ⟨_, rfl, .inl ⟨_, rfl, (by rw [hb52]; rfl)⟩⟩ rfl (AOD.skip ⟨_, rfl, .inl ⟨_, rfl, (by rw [hb52]; rfl)⟩⟩ rfl (AOD.skip ⟨_, rfl, .inr ⟨rfl, rfl⟩⟩ rfl (AOD.skip ⟨_, rfl, .inr ⟨rfl, rfl⟩⟩ rfl (AOD.skip ⟨_, rfl, .inr ⟨rfl, rfl⟩⟩ rfl (AOD.skip ⟨_, rfl, .inr ⟨rfl, rfl⟩⟩ rfl (AOD.skip ⟨_, rfl, .inr ⟨rfl, rfl⟩⟩ rfl (AOD.skip ⟨_, rfl, .inr ⟨rfl, rfl⟩⟩ rfl (AOD.skip ⟨_, rfl, .inr ⟨rfl, rfl⟩⟩ rfl (AOD.skip ⟨_, rfl, .inr ⟨rfl, rfl⟩⟩ rfl (AOD.skip ⟨_, rfl, .inr ⟨rfl, rfl⟩⟩ rfl ?_)))))))))))
         refine AOD.skip ⟨_, rfl, .inl ⟨_, rfl, (by rw [hb52]; rfl)⟩⟩ rfl (Dp20 (LT.pickT (v := (Bv true)) rfl hb52) rfl ⟨rfl, rfl⟩ rfl rfl (AOD.nil (by kernel_rfl) (AWR.nil ⟨rfl, Ent.of ⟨rfl, rfl, rfl, trivial⟩ ⟨rfl, trivial⟩⟩)))
        ·refine Dp10 (LT.move (v := (Iv s7)) rfl) rfl ⟨_, rfl, .inl ⟨_, rfl, (by rw [hb52]; rfl)⟩⟩ rfl (Dp20 (LT.gtr rfl) rfl ⟨rfl, rfl⟩ ⟨_, rfl, .inl ⟨_, rfl, (by rw [hb52]; rfl)⟩⟩ rfl (Dp10 (LT.move (v := (Bv (decide (0 < s7)))) rfl) rfl ⟨_, rfl, .inl ⟨_, rfl, (by rw [hb52]; rfl)⟩⟩ rfl (AOD.split (fun hb53 => ?_) (fun hb53 => ?_))))
         ·refine Dp10 (LT.fieldPl rfl fo32_1) rfl ⟨_, rfl, .inl ⟨_, rfl, (by rw [hb53]; rfl)⟩⟩ rfl (Dp11 (LT.bload1 (c := (xF encTBar g.Bars)) rfl ag30 (by exact rfl)) rfl rfl ⟨_, rfl, .inl ⟨_, rfl, (by rw [hb53]; rfl)⟩⟩ rfl (Dp10 (LT.move (v := (Iv s7)) rfl) rfl ⟨_, rfl, .inl ⟨_, rfl, (by rw [hb53]; rfl)⟩⟩ rfl (Dp20 (LT.sub rfl) rfl ⟨rfl, rfl⟩ ⟨_, rfl, .inl ⟨_, rfl, (by rw [hb53]; rfl)⟩⟩ rfl (AOD.bind fun x54 hx54 => (Dp20 (LT.tindexRO (enc := encTBar) rfl el30 hx54 sz112) rfl rfl ⟨_, rfl, .inl ⟨_, rfl, (by rw [hb53]; rfl)⟩⟩ rfl (Dp10 (LT.loadPxN rfl ag112 (infS inf112) (by exact sz112.symm)) rfl ⟨_, rfl, .inl ⟨_, rfl, (by rw [hb53]; rfl)⟩⟩ rfl (Dp11 (LT.bloadN (out := [(iC x42.A), (iC x42.B)]) rfl ag112 (infS inf112) sz112 (by exact rfl) (by exact rfl)) rfl rfl ⟨_, rfl, .inl ⟨_, rfl, (by rw [hb53]; rfl)⟩⟩ rfl (AOD.bind fun r55 hr55 => (AOD.pure (@LT.callF Try.prog _ _ 139 _ _ [(.agg [(iC x54.A), (iC x54.B)]), (.agg [(iC x42.A), (iC x42.B)])] _ _ [] _ _ _ _ (w_spec_l2After x54 x42 r55 hr55) rfl cb139 (.cons (.agg (.cons (.same rfl) (.cons (.same rfl) .nil))) (.cons (.agg (.cons (.same rfl) (.cons (.same rfl) .nil))) .nil)) rfl rfl trivial) ⟨rfl, rfl, rfl, trivial⟩ trivial ⟨_, rfl, .inl ⟨_, rfl, (by rw [hb53]; rfl)⟩⟩ rfl (Dp10 (LT.not rfl) rfl ⟨_, rfl, .inl ⟨_, rfl, (by rw [hb53]; rfl)⟩⟩ rfl (Dp20 (LT.pickT (v := (Bv (!r55))) rfl hb53) rfl rfl ⟨_, rfl, .inl ⟨_, rfl, (by rw [hb52]; rfl)⟩⟩ rfl ?_)))))))))))
          refine Dp20 (LT.pickF (v := (Bv (!r55))) rfl hb52) rfl rfl rfl rfl (AOD.nil (by kernel_rfl) (AWR.nil ⟨rfl, Ent.of ⟨rfl, rfl, rfl, trivial⟩ ⟨rfl, trivial⟩⟩))
         ·refine AOD.skip ⟨_, rfl, .inl ⟨_, rfl, (by rw [hb53]; rfl)⟩⟩ rfl (AOD.skip ⟨_, rfl, .inl ⟨_, rfl, (by rw [hb53]; rfl)⟩⟩ rfl (AOD.skip ⟨_, rfl, .inl ⟨_, rfl, (by rw [hb53]; rfl)⟩⟩ rfl (AOD.skip ⟨_, rfl, .inl ⟨_, rfl, (by rw [hb53]; rfl)⟩⟩ rfl (AOD.skip ⟨_, rfl, .inl ⟨_, rfl, (by rw [hb53]; rfl)⟩⟩ rfl (AOD.skip ⟨_, rfl, .inl ⟨_, rfl, (by rw [hb53]; rfl)⟩⟩ rfl (AOD.skip ⟨_, rfl, .inl ⟨_, rfl, (by rw [hb53]; rfl)⟩⟩ rfl (AOD.skip ⟨_, rfl, .inl ⟨_, rfl, (by rw [hb53]; rfl)⟩⟩ rfl (AOD.skip ⟨_, rfl, .inl ⟨_, rfl, (by rw [hb53]; rfl)⟩⟩ rfl (Dp20 (LT.pickF (v := (Bv false)) rfl hb53) rfl ⟨rfl, rfl⟩ ⟨_, rfl, .inl ⟨_, rfl, (by rw [hb52]; rfl)⟩⟩ rfl (Dp20 (LT.pickF (v := (Bv false)) rfl hb52) rfl rfl rfl rfl (AOD.nil (by kernel_rfl) ?_)))))))))))
          refine AWR.nil ⟨rfl, Ent.of ⟨rfl, rfl, rfl, trivial⟩ ⟨rfl, trivial⟩⟩
     ·refine AWR.cond rfl (fun hc56 => ?_) (fun hc56 => ?_)
      ·refine Ws (Wr ?_)
       refine asg (Bv false) rfl ⟨rfl, rfl⟩ rfl rfl (On (AWR.ret ⟨rfl, FPost.mk (.inr rfl) ⟨rfl, trivial⟩ trivial rfl ⟨PermP.sc, trivial⟩ trivial⟩))
      ·refine AWR.skip (AWR.blk (Wr ?_))
       refine mv (Iv s7) rfl rfl rfl rfl (Op20 (LT.add rfl) rfl ⟨rfl, rfl⟩ rfl rfl (asg (Iv (w64 (s7 + 1))) rfl rfl rfl rfl (On (AWR.nil ⟨rfl, Ent.of ⟨rfl, rfl, trivial⟩ ⟨rfl, trivial⟩⟩))))
    ·refine AWR.exit_end rfl ⟨rfl, Ent.of trivial trivial⟩
   ·refine Ws (Wr ?_)
    refine asg (Bv true) rfl ⟨rfl, rfl⟩ rfl rfl (On (AWR.ret (FPost.mk (.inr rfl) ⟨rfl, trivial⟩ trivial rfl ⟨PermP.sc, trivial⟩ trivial)))
theorem w_impl_IsGraph (g : TGraph) : ∀ t, m_impl_IsGraph g = some t → Fw.Fn Try.prog 131 [(.agg [(iC g.Points), (xF encTBar g.Bars)])] [] (.s (.c (bC t))) [] [] [] := by
 refine Fw.Fn.of (P := Try.prog) (X := []) (pn := []) (rs := (fun (t : Bool) => [(.c (bC t))])) (dfs := (fun (t : Bool) => [])) Try.func131 rfl Try.ntmps131 (Nat.le_of_ble_eq_true rfl) rfl ?_
 intro w0 U0 R0 g0
 unfold m_impl_IsGraph
 refine Ws (Wr ?_)
 refine Os10 (LT.box (n := 21) (v := (.agg [(iC g.Points), (xF encTBar g.Bars)])) rfl sz32 (by exact rfl)) rfl rfl rfl (asg (Bv false) rfl ⟨rfl, rfl⟩ rfl rfl (On (Ws (Ws ?_))))
 refine AWR.joinK (fun j3 => ([(1, (Cc (.pl 21 0))), (14, (Bv j3))], [(21, (.row 32 [[(iC g.Points), (xF encTBar g.Bars)]]))])) ?_ (fun j3 _ => ?_)
 ·refine Wr (Op10 (LT.fieldPl rfl fo32_0) rfl rfl rfl (Op11 (LT.bload1 (c := (iC g.Points)) rfl ag3 (by exact rfl)) rfl rfl rfl rfl (Ob' fun r4 hr4 => (AOR.pure (@LT.callF Try.prog _ _ 113 _ _ [(.c (iC g.Points)), (.c (iC 1)), (.c (iC 8))] _ _ [] _ _ _ _ (w_impl_within g.Points 1 8 r4 hr4) rfl cb113 (.cons (.c (.same rfl)) (.cons (.c (.same rfl)) (.cons (.c (.same rfl)) .nil))) rfl rfl trivial) ⟨rfl, rfl, ⟨rfl, rfl⟩, ⟨rfl, rfl⟩, trivial⟩ trivial rfl rfl (Op10 (LT.not rfl) rfl rfl rfl (mv (Bv (!r4)) rfl rfl rfl rfl (AOR.split (fun hb5 => ?_) (fun hb5 => ?_))))))))
  ·refine Ok rfl rfl rfl (by rw [hb5]; rfl) rfl (Ok rfl rfl rfl (by rw [hb5]; rfl) rfl (Ok rfl rfl rfl (by rw [hb5]; rfl) rfl (Ok rfl rfl rfl (by rw [hb5]; rfl) rfl (Op20 (LT.pickT (v := (Bv true)) rfl hb5) rfl ⟨rfl, rfl⟩ rfl rfl (On (AWR.nil ⟨rfl, Ent.of ⟨rfl, rfl, trivial⟩ ⟨rfl, trivial⟩⟩))))))
  ·refine Op10 (LT.fieldPl rfl fo32_1) rfl ⟨_, rfl, .inl ⟨_, rfl, (by rw [hb5]; rfl)⟩⟩ rfl (Op11 (LT.bload1 (c := (xF encTBar g.Bars)) rfl ag30 (by exact rfl)) rfl rfl ⟨_, rfl, .inl ⟨_, rfl, (by rw [hb5]; rfl)⟩⟩ rfl (Op10 (LT.tlenRO rfl und30) rfl ⟨_, rfl, .inl ⟨_, rfl, (by rw [hb5]; rfl)⟩⟩ rfl (Op20 (LT.gtr rfl) rfl ⟨rfl, rfl⟩ ⟨_, rfl, .inl ⟨_, rfl, (by rw [hb5]; rfl)⟩⟩ rfl (Op20 (LT.pickF (v := (Bv (decide (24 < (g.Bars.length : Int))))) rfl hb5) rfl rfl rfl rfl (On (AWR.nil ⟨rfl, Ent.of ⟨rfl, rfl, trivial⟩ ⟨rfl, trivial⟩⟩))))))
 ·refine AWR.cond rfl (fun hc6 => ?_) (fun hc6 => ?_)
  ·refine Ws (Wr ?_)
   refine asg (Bv false) rfl ⟨rfl, rfl⟩ rfl rfl (On (AWR.ret (FPost.mk (.inr rfl) ⟨rfl, trivial⟩ trivial rfl ⟨PermP.sc, trivial⟩ trivial)))
  ·refine AWR.skip (Ws (Ws (Wr ?_)))
   refine Op10 (LT.fieldPl rfl fo32_1) rfl rfl rfl (Op11 (LT.bload1 (c := (xF encTBar g.Bars)) rfl ag30 (by exact rfl)) rfl rfl rfl rfl (Op10 (LT.tlenRO rfl und30) rfl rfl rfl (mv (Iv 0) rfl ⟨rfl, rfl⟩ rfl rfl (On (AWR.block ?_)))))
   refine AWR.loopR (id := 0) (m_impl_IsGraph_L1 g) (fun s7 => ([(1, (Cc (.pl 21 0))), (16, (Cc (xF encTBar g.Bars))), (17, (Iv (g.Bars.length : Int))), (18, (Iv s7))], [(21, (.row 32 [[(iC g.Points), (xF encTBar g.Bars)]]))])) (fun b40 => ([], [])) (FPost Try.prog Try.f131.results.toList [] [] (fun (t : Bool) => [(.c (bC t))]) (fun (t : Bool) => [])) ?_ (Ent.of ⟨rfl, rfl, rfl, rfl, trivial⟩ ⟨rfl, trivial⟩) rfl (fun b40 _ => ?_) (by intro r t σ m ht hk; injection ht with ht; subst ht; exact hk)
   ·intro s7
    unfold m_impl_IsGraph_L1
    refine Ws (Wr ?_)
    refine Op20 (LT.lss rfl) rfl rfl rfl rfl (On (Ws ?_))
    refine AWR.cond rfl (fun hc41 => ?_) (fun hc41 => ?_)
    ·refine AWR.skip (Ws (AWR.block (Ws (Wr ?_))))
     refine mv (Iv s7) rfl rfl rfl rfl (Ob' fun x42 hx42 => (Op20 (LT.tindexRO (enc := encTBar) rfl el30 hx42 sz112) rfl rfl rfl rfl (Op10 (LT.loadPxN rfl ag112 (infS inf112) (by exact sz112.symm)) rfl rfl rfl (Os00 (LT.alloc (n := 23) (cells := [(iC 0), (iC 0)]) rfl ti112 rfl rfl rfl) rfl rfl (asg (Iv s7) rfl rfl rfl rfl (Os21 (LT.bstore (v := (.agg [(iC x42.A), (iC x42.B)])) (out := [(iC x42.A), (iC x42.B)]) rfl rfl (infS inf112) sz112 (by exact rfl) (by exact Nat.le_of_ble_eq_true rfl) (by exact rfl)) rfl rfl rfl rfl rfl (On (Ws ?_))))))))
     refine AWR.joinK (fun j49 => ([(1, (Cc (.pl 21 0))), (16, (Cc (xF encTBar g.Bars))), (17, (Iv (g.Bars.length : Int))), (18, (Iv s7)), (54, (Bv j49))], [(21, (.row 32 [[(iC g.Points), (xF encTBar g.Bars)]]))])) ?_ (fun j49 _ => ?_)
     ·refine en [(1, (Cc (.pl 21 0))), (3, (Iv s7)), (4, (Cc (.pl 23 0))), (16, (Cc (xF encTBar g.Bars))), (17, (Iv (g.Bars.length : Int))), (18, (Iv s7))] [(21, (.row 32 [[(iC g.Points), (xF encTBar g.Bars)]])), (23, (.row 112 [[(iC x42.A), (iC x42.B)]]))] ⟨rfl, rfl, rfl, rfl, rfl, rfl, trivial⟩ ⟨rfl, rfl, trivial⟩ (AWR.draw mixed (Dp10 (LT.fieldPl rfl fo112_0) rfl rfl rfl (Dp11 (LT.bload1 (c := (iC x42.A)) rfl ag3 (by exact rfl)) rfl rfl rfl rfl (Dp20 (LT.lss rfl) rfl ⟨rfl, rfl⟩ rfl rfl (Dp10 (LT.move (v := (Bv (decide (x42.A < 0)))) rfl) rfl rfl rfl (AOD.split (fun hb50 => ?_) (fun hb50 => ?_)))))))
      ·refine AOD.skip ⟨_, rfl, .inl ⟨_, rfl, (by rw [hb50]; rfl)⟩⟩ rfl (AOD.skip ⟨_, rfl, .inl ⟨_, rfl, (by rw [hb50]; rfl)⟩⟩ rfl (AOD.skip ⟨_, rfl, .inl ⟨_, rfl, (by rw [hb50]; rfl)⟩⟩ rfl (AOD.skip ⟨_, rfl, .inl ⟨_, rfl, (by rw [hb50]; rfl)⟩⟩ rfl (AOD.skip ⟨_, rfl, .inl ⟨_, rfl, (by rw [hb50]; rfl)⟩⟩ rfl (Dp20 (LT.pickT (v := (Bv true)) rfl hb50) rfl ⟨rfl, rfl⟩ rfl rfl (Dp10 (LT.move (v := (Bv true)) rfl) rfl rfl rfl (AOD.skip ⟨_, rfl, .inl ⟨_, rfl, rfl⟩⟩ rfl (AOD.skip ⟨_, rfl, .inl ⟨_, rfl, rfl⟩⟩ rfl (AOD.skip ⟨_, rfl, .inl ⟨_, rfl, rfl⟩⟩ rfl (AOD.skip ⟨_, rfl, .inl ⟨_, rfl, rfl⟩⟩ rfl (AOD.skip ⟨_, rfl, .inl ⟨_, rfl, rfl⟩⟩ rfl ?_)))))))))))
       refine Dp20 (LT.pickT (v := (Bv true)) rfl rfl) rfl ⟨rfl, rfl⟩ rfl rfl (Dp10 (LT.move (v := (Bv true)) rfl) rfl rfl rfl (AOD.skip ⟨_, rfl, .inl ⟨_, rfl, rfl⟩⟩ rfl (AOD.skip ⟨_, rfl, .inl ⟨_, rfl, rfl⟩⟩ rfl (AOD.skip ⟨_, rfl, .inl ⟨_, rfl, rfl⟩⟩ rfl (AOD.skip ⟨_, rfl, .inr ⟨rfl, rfl⟩⟩ rfl (AOD.skip ⟨_, rfl, .inr ⟨rfl, rfl⟩⟩ rfl (AOD.skip ⟨_, rfl, .inr ⟨rfl, rfl⟩⟩ rfl (AOD.skip ⟨_, rfl, .inr ⟨rfl, rfl⟩⟩ rfl (AOD.skip ⟨_, rfl, .inr ⟨rfl, rfl⟩⟩ rfl (AOD.skip ⟨_, rfl, .inr ⟨rfl, rfl⟩⟩ rfl (AOD.skip ⟨_, rfl, .inr ⟨rfl, rfl⟩⟩ rfl ?_)))))))))))
       refine AOD.skip ⟨_, rfl, .inr ⟨rfl, rfl⟩⟩ rfl (AOD.skip ⟨_, rfl, .inr ⟨rfl, rfl⟩⟩ rfl (AOD.skip ⟨_, rfl, .inl ⟨_, rfl, rfl⟩⟩ rfl (Dp20 (LT.pickT (v := (Bv true)) rfl rfl) rfl ⟨rfl, rfl⟩ rfl rfl (AOD.nil (by kernel_rfl) (AWR.nil ⟨rfl, Ent.of ⟨rfl, rfl, rfl, rfl, rfl, trivial⟩ ⟨rfl, trivial⟩⟩)))))
      ·refine Dp10 (LT.fieldPl rfl fo112_0) rfl ⟨_, rfl, .inl ⟨_, rfl, (by rw [hb50]; rfl)⟩⟩ rfl (Dp11 (LT.bload1 (c := (iC x42.A)) rfl ag3 (by exact rfl)) rfl rfl ⟨_, rfl, .inl ⟨_, rfl, (by rw [hb50]; rfl)⟩⟩ rfl (Dp10 (LT.fieldPl rfl fo112_1) rfl ⟨_, rfl, .inl ⟨_, rfl, (by rw [hb50]; rfl)⟩⟩ rfl (Dp11 (LT.bload1 (c := (iC x42.B)) rfl ag3 (by exact rfl)) rfl rfl ⟨_, rfl, .inl ⟨_, rfl, (by rw [hb50]; rfl)⟩⟩ rfl (Dp20 (LT.geq rfl) rfl rfl ⟨_, rfl, .inl ⟨_, rfl, (by rw [hb50]; rfl)⟩⟩ rfl (Dp20 (LT.pickF (v := (Bv (decide (x42.B ≤ x42.A)))) rfl hb50) rfl rfl rfl rfl (Dp10 (LT.move (v := (Bv (decide (x42.B ≤ x42.A)))) rfl) rfl rfl rfl (AOD.split (fun hb51 => ?_) (fun hb51 => ?_))))))))
       ·refine AOD.skip ⟨_, rfl, .inl ⟨_, rfl, (by rw [hb51]; rfl)⟩⟩ rfl (AOD.skip ⟨_, rfl, .inl ⟨_, rfl, (by rw [hb51]; rfl)⟩⟩ rfl (AOD.skip ⟨_, rfl, .inl ⟨_, rfl, (by rw [hb51]; rfl)⟩⟩ rfl (AOD.skip ⟨_, rfl, .inl ⟨_, rfl, (by rw [hb51]; rfl)⟩⟩ rfl (AOD.skip ⟨_, rfl, .inl ⟨_, rfl, (by rw [hb51]; rfl)⟩⟩ rfl (Dp20 (LT.pickT (v := (Bv true)) rfl hb51) rfl ⟨rfl, rfl⟩ rfl rfl (Dp10 (LT.move (v := (Bv true)) rfl) rfl rfl rfl (AOD.skip ⟨_, rfl, .inl ⟨_, rfl, rfl⟩⟩ rfl (AOD.skip ⟨_, rfl, .inl ⟨_, rfl, rfl⟩⟩ rfl (AOD.skip ⟨_, rfl, .inl ⟨_, rfl, rfl⟩⟩ rfl (AOD.skip ⟨_, rfl, .inr ⟨rfl, rfl⟩⟩ rfl (AOD.skip ⟨_, rfl, .inr ⟨rfl, rfl⟩⟩ rfl ?_)))))))))))
        refine AOD.skip ⟨_, rfl, .inr ⟨rfl, rfl⟩⟩ rfl (AOD.skip ⟨_, rfl, .inr ⟨rfl, rfl⟩⟩ rfl (AOD.skip ⟨_, rfl, .inr ⟨rfl, rfl⟩⟩ rfl (AOD.skip ⟨_, rfl, .inr ⟨rfl, rfl⟩⟩ rfl (AOD.skip ⟨_, rfl, .inr ⟨rfl, rfl⟩⟩ rfl (AOD.skip ⟨_, rfl, .inr ⟨rfl, rfl⟩⟩ rfl (AOD.skip ⟨_, rfl, .inr ⟨rfl, rfl⟩⟩ rfl (AOD.skip ⟨_, rfl, .inl ⟨_, rfl, rfl⟩⟩ rfl (Dp20 (LT.pickT (v := (Bv true)) rfl rfl) rfl ⟨rfl, rfl⟩ rfl rfl (AOD.nil (by kernel_rfl) (AWR.nil ⟨rfl, Ent.of ⟨rfl, rfl, rfl, rfl, rfl, trivial⟩ ⟨rfl, trivial⟩⟩))))))))))
       ·refine Dp10 (LT.fieldPl rfl fo112_1) rfl ⟨_, rfl, .inl ⟨_, rfl, (by rw [hb51]; rfl)⟩⟩ rfl (Dp11 (LT.bload1 (c := (iC x42.B)) rfl ag3 (by exact rfl)) rfl rfl ⟨_, rfl, .inl ⟨_, rfl, (by rw [hb51]; rfl)⟩⟩ rfl (Dp10 (LT.fieldPl rfl fo32_0) rfl ⟨_, rfl, .inl ⟨_, rfl, (by rw [hb51]; rfl)⟩⟩ rfl (Dp11 (LT.bload1 (c := (iC g.Points)) rfl ag3 (by exact rfl)) rfl rfl ⟨_, rfl, .inl ⟨_, rfl, (by rw [hb51]; rfl)⟩⟩ rfl (Dp20 (LT.geq rfl) rfl rfl ⟨_, rfl, .inl ⟨_, rfl, (by rw [hb51]; rfl)⟩⟩ rfl (Dp20 (LT.pickF (v := (Bv (decide (g.Points ≤ x42.B)))) rfl hb51) rfl rfl rfl rfl (Dp10 (LT.move (v := (Bv (decide (g.Points ≤ x42.B)))) rfl) rfl rfl rfl (AOD.split (fun hb52 => ?_) (fun hb52 => ?_))))))))
        ·refine AOD.skip ⟨_, rfl, .inl ⟨_, rfl, (by rw [hb52]; rfl)⟩⟩ rfl (AOD.skip ⟨_, rfl, .inl ⟨_, rfl, (by rw [hb52]; rfl)⟩⟩ rfl (AOD.skip ⟨_, rfl, .inl ⟨_, rfl, (by rw [hb52]; rfl)⟩⟩ rfl (AOD.skip ⟨_, rfl, .inr ⟨rfl, rfl⟩⟩ rfl (AOD.skip ⟨_, rfl, .inr ⟨rfl, rfl⟩⟩ rfl (AOD.skip ⟨_, rfl, .inr ⟨rfl, rfl⟩⟩ rfl (AOD.skip ⟨_, rfl, .inr ⟨rfl, rfl⟩⟩ rfl (AOD.skip ⟨_, rfl, .inr ⟨rfl, rfl⟩⟩ rfl (AOD.skip ⟨_, rfl, .inr ⟨rfl, rfl⟩⟩ rfl (AOD.skip ⟨_, rfl, .inr ⟨rfl, rfl⟩⟩ rfl (AOD.skip ⟨_, rfl, .inr ⟨rfl, rfl⟩⟩ rfl (AOD.skip ⟨_, rfl, .inr ⟨rfl, rfl⟩⟩ rfl ?_)))))))))))
         refine AOD.skip ⟨_, rfl, .inl ⟨_, rfl, (by rw [hb52]; rfl)⟩⟩ rfl (Dp20 (LT.pickT (v := (Bv true)) rfl hb52) rfl ⟨rfl, rfl⟩ rfl rfl (AOD.nil (by kernel_rfl) (AWR.nil ⟨rfl, Ent.of ⟨rfl, rfl, rfl, rfl, rfl, trivial⟩ ⟨rfl, trivial⟩⟩)))
        ·refine Dp10 (LT.move (v := (Iv s7)) rfl) rfl ⟨_, rfl, .inl ⟨_, rfl, (by rw [hb52]; rfl)⟩⟩ rfl (Dp20 (LT.gtr rfl) rfl ⟨rfl, rfl⟩ ⟨_, rfl, .inl ⟨_, rfl, (by rw [hb52]; rfl)⟩⟩ rfl (Dp10 (LT.move (v := (Bv (decide (0 < s7)))) rfl) rfl ⟨_, rfl, .inl ⟨_, rfl, (by rw [hb52]; rfl)⟩⟩ rfl (AOD.split (fun hb53 => ?_) (fun hb53 => ?_))))
         ·refine Dp10 (LT.fieldPl rfl fo32_1) rfl ⟨_, rfl, .inl ⟨_, rfl, (by rw [hb53]; rfl)⟩⟩ rfl (Dp11 (LT.bload1 (c := (xF encTBar g.Bars)) rfl ag30 (by exact rfl)) rfl rfl ⟨_, rfl, .inl ⟨_, rfl, (by rw [hb53]; rfl)⟩⟩ rfl (Dp10 (LT.move (v := (Iv s7)) rfl) rfl ⟨_, rfl, .inl ⟨_, rfl, (by rw [hb53]; rfl)⟩⟩ rfl (Dp20 (LT.sub rfl) rfl ⟨rfl, rfl⟩ ⟨_, rfl, .inl ⟨_, rfl, (by rw [hb53]; rfl)⟩⟩ rfl (AOD.bind fun x54 hx54 => (Dp20 (LT.tindexRO (enc := encTBar) rfl el30 hx54 sz112) rfl rfl ⟨_, rfl, .inl ⟨_, rfl, (by rw [hb53]; rfl)⟩⟩ rfl (Dp10 (LT.loadPxN rfl ag112 (infS inf112) (by exact sz112.symm)) rfl ⟨_, rfl, .inl ⟨_, rfl, (by rw [hb53]; rfl)⟩⟩ rfl (Dp11 (LT.bloadN (out := [(iC x42.A), (iC x42.B)]) rfl ag112 (infS inf112) sz112 (by exact rfl) (by exact rfl)) rfl rfl ⟨_, rfl, .inl ⟨_, rfl, (by rw [hb53]; rfl)⟩⟩ rfl (AOD.bind fun r55 hr55 => (AOD.pure (@LT.callF Try.prog _ _ 175 _ _ [(.agg [(iC x54.A), (iC x54.B)]), (.agg [(iC x42.A), (iC x42.B)])] _ _ [] _ _ _ _ (w_impl_compareBars x54 x42 r55 hr55) rfl cb175 (.cons (.agg (.cons (.same rfl) (.cons (.same rfl) .nil))) (.cons (.agg (.cons (.same rfl) (.cons (.same rfl) .nil))) .nil)) rfl rfl trivial) ⟨rfl, rfl, rfl, trivial⟩ trivial ⟨_, rfl, .inl ⟨_, rfl, (by rw [hb53]; rfl)⟩⟩ rfl (Dp20 (LT.gtr rfl) rfl ⟨rfl, rfl⟩ ⟨_, rfl, .inl ⟨_, rfl, (by rw [hb53]; rfl)⟩⟩ rfl (Dp20 (LT.pickT (v := (Bv (decide (0 < r55)))) rfl hb53) rfl rfl ⟨_, rfl, .inl ⟨_, rfl, (by rw [hb52]; rfl)⟩⟩ rfl ?_)))))))))))
          refine Dp20 (LT.pickF (v := (Bv (decide (0 < r55)))) rfl hb52) rfl rfl rfl rfl (AOD.nil (by kernel_rfl) (AWR.nil ⟨rfl, Ent.of ⟨rfl, rfl, rfl, rfl, rfl, trivial⟩ ⟨rfl, trivial⟩⟩))
         ·refine AOD.skip ⟨_, rfl, .inl ⟨_, rfl, (by rw [hb53]; rfl)⟩⟩ rfl (AOD.skip ⟨_, rfl, .inl ⟨_, rfl, (by rw [hb53]; rfl)⟩⟩ rfl (AOD.skip ⟨_, rfl, .inl ⟨_, rfl, (by rw [hb53]; rfl)⟩⟩ rfl (AOD.skip ⟨_, rfl, .inl ⟨_, rfl, (by rw [hb53]; rfl)⟩⟩ rfl (AOD.skip ⟨_, rfl, .inl ⟨_, rfl, (by rw [hb53]; rfl)⟩⟩ rfl (AOD.skip ⟨_, rfl, .inl ⟨_, rfl, (by rw [hb53]; rfl)⟩⟩ rfl (AOD.skip ⟨_, rfl, .inl ⟨_, rfl, (by rw [hb53]; rfl)⟩⟩ rfl (AOD.skip ⟨_, rfl, .inl ⟨_, rfl, (by rw [hb53]; rfl)⟩⟩ rfl (AOD.skip ⟨_, rfl, .inl ⟨_, rfl, (by rw [hb53]; rfl)⟩⟩ rfl (Dp20 (LT.pickF (v := (Bv false)) rfl hb53) rfl ⟨rfl, rfl⟩ ⟨_, rfl, .inl ⟨_, rfl, (by rw [hb52]; rfl)⟩⟩ rfl (Dp20 (LT.pickF (v := (Bv false)) rfl hb52) rfl rfl rfl rfl (AOD.nil (by kernel_rfl) ?_)))))))))))
          refine AWR.nil ⟨rfl, Ent.of ⟨rfl, rfl, rfl, rfl, rfl, trivial⟩ ⟨rfl, trivial⟩⟩
     ·refine AWR.cond rfl (fun hc56 => ?_) (fun hc56 => ?_)
      ·refine Ws (Wr ?_)
       refine asg (Bv false) rfl ⟨rfl, rfl⟩ rfl rfl (On (AWR.ret ⟨rfl, FPost.mk (.inr rfl) ⟨rfl, trivial⟩ trivial rfl ⟨PermP.sc, trivial⟩ trivial⟩))
      ·refine AWR.skip (AWR.blk (Wr ?_))
       refine Op20 (LT.add rfl) rfl ⟨rfl, rfl⟩ rfl rfl (mv (Iv (w64 (s7 + 1))) rfl rfl rfl rfl (On (AWR.nil ⟨rfl, Ent.of ⟨rfl, rfl, rfl, rfl, trivial⟩ ⟨rfl, trivial⟩⟩)))
    ·refine AWR.exit_end rfl ⟨rfl, Ent.of trivial trivial⟩
   ·refine Ws (Wr ?_)
    refine asg (Bv true) rfl ⟨rfl, rfl⟩ rfl rfl (On (AWR.ret (FPost.mk (.inr rfl) ⟨rfl, trivial⟩ trivial rfl ⟨PermP.sc, trivial⟩ trivial)))
end Go.Proofs.Yteognanhfpbghaa
end
section
set_option linter.unusedVariables false
set_option linter.unusedSimpArgs false
set_option linter.unnecessarySimpa false
set_option maxRecDepth 100000
set_option maxHeartbeats 8000000
open Go Go.Fw
namespace Go.Proofs.Yteognanhfpbghaa
theorem w_spec_l2Copy (g : TGraph) : ∀ t, m_spec_l2Copy g = some t → Fw.Fn Try.prog 151 [(.agg [(iC g.Points), (xF encTBar g.Bars)])] [] (.s (.agg [(iC t.Points), (lo 0 t.Bars.length)])) [(0, (pR 112 encTBar t.Bars))] [] [0] := by
 refine Fw.Fn.of (P := Try.prog) (X := [0]) (pn := []) (rs := (fun (t : TGraph) => [(.agg [(iC t.Points), (lo 0 t.Bars.length)])])) (dfs := (fun (t : TGraph) => [(0, (pR 112 encTBar t.Bars))])) Try.func151 rfl Try.ntmps151 (Nat.le_of_ble_eq_true rfl) rfl ?_
 intro w0 U0 R0 g0
 unfold m_spec_l2Copy
 refine Ws (Wr ?_)
 refine Os10 (LT.box (n := 21) (v := (.agg [(iC g.Points), (xF encTBar g.Bars)])) rfl sz32 (by exact rfl)) rfl rfl rfl (Os00 (LT.alloc (n := 22) (cells := [(iC 0), (sC nilV)]) rfl ti32 rfl rfl rfl) rfl rfl (On (Ws (AWR.draw mixed ?_))))
 refine Dp10 (LT.fieldPl rfl fo32_0) rfl rfl rfl (Dp11 (LT.bload1 (c := (iC g.Points)) rfl ag3 (by exact rfl)) rfl rfl rfl rfl (Ds00 (LT.tbuildSlice (n := 23) (enc := encTBar) [] ([] : List TBar) rfl rfl und30 ti112 rfl rfl rfl rfl (by decide) (fun _ => rfl) rfl) rfl rfl (Dp10 (LT.fieldPl rfl fo32_1) rfl rfl rfl (Dp11 (LT.bload1 (c := (xF encTBar g.Bars)) rfl ag30 (by exact rfl)) rfl rfl rfl rfl (AOD.bind fun u1 hu1 => (Ds21 (LT.tappRO (enc := encTBar) rfl  rfl und30 ti112 rfl (by decide) (by decide) (fun _ => rfl) (lim_le hu1)) rfl rfl rfl rfl rfl (Dp20 (LT.build [(0, .tmp 4, (.c (iC g.Points))), (1, .tmp 8, (.c (lo 23 ((([] : List TBar) ++ g.Bars).length))))] rfl rfl pl32 ti32 rfl rfl rfl) rfl rfl rfl rfl (Ds21 (LT.bstore (v := (.agg [(iC g.Points), (lo 23 ((([] : List TBar) ++ g.Bars).length))])) (out := [(iC g.Points), (lo 23 ((([] : List TBar) ++ g.Bars).length))]) rfl rfl (infS inf32) sz32 (by exact rfl) (by exact Nat.le_of_ble_eq_true rfl) (by exact rfl)) rfl rfl rfl rfl rfl (AOD.nil (by kernel_rfl) (en [(2, (Cc (.pl 22 0)))] [(22, (.row 32 [[(iC g.Points), (lo 23 ((([] : List TBar) ++ g.Bars).length))]])), (23, (pR 112 encTBar (([] : List TBar) ++ g.Bars)))] ⟨rfl, trivial⟩ ⟨rfl, rfl, trivial⟩ (AWR.ent (Ent.mv 23 0 rfl rfl) ?_)))))))))))
 refine en [(2, (Cc (.pl 22 0)))] [(0, (pR 112 encTBar (([] : List TBar) ++ g.Bars))), (22, (.row 32 [[(iC g.Points), (lo 0 ((([] : List TBar) ++ g.Bars).length))]]))] ⟨rfl, trivial⟩ ⟨rfl, rfl, trivial⟩ (AWR.ret (FPost.mk (.inr rfl) ⟨⟨_, _, _, rfl, rfl, rfl, ag32, sz32, _, (infS inf32)⟩, trivial⟩ ⟨rfl, trivial⟩ rfl ⟨⟨PermP.sc, trivial, trivial⟩, trivial⟩ ⟨PermO.prow' perm_encTBar, trivial⟩))
end Go.Proofs.Yteognanhfpbghaa
end
section
set_option linter.unusedVariables false
set_option linter.unusedSimpArgs false
set_option linter.unnecessarySimpa false
set_option maxRecDepth 100000
set_option maxHeartbeats 8000000
open Go Go.Fw
namespace Go.Proofs.Yteognanhfpbghaa
theorem w_spec_EqualGraphs (a : TGraph) (b : TGraph) : ∀ t, m_spec_EqualGraphs a b = some t → Fw.Fn Try.prog 72 [(.agg [(iC a.Points), (xF encTBar a.Bars)]), (.agg [(iC b.Points), (xF encTBar b.Bars)])] [] (.s (.c (bC t))) [] [] [] := by
 refine Fw.Fn.of (P := Try.prog) (X := []) (pn := []) (rs := (fun (t : Bool) => [(.c (bC t))])) (dfs := (fun (t : Bool) => [])) Try.func72 rfl Try.ntmps72 (Nat.le_of_ble_eq_true rfl) rfl ?_
 intro w0 U0 R0 g0
 unfold m_spec_EqualGraphs
 refine Ws (Wr ?_)
 refine Os10 (LT.box (n := 21) (v := (.agg [(iC a.Points), (xF encTBar a.Bars)])) rfl sz32 (by exact rfl)) rfl rfl rfl (Os10 (LT.box (n := 22) (v := (.agg [(iC b.Points), (xF encTBar b.Bars)])) rfl sz32 (by exact rfl)) rfl rfl rfl (asg (Bv false) rfl ⟨rfl, rfl⟩ rfl rfl (On (Ws (Ws ?_)))))
 refine AWR.joinK (fun j2 => ([(2, (Cc (.pl 21 0))), (3, (Cc (.pl 22 0))), (19, (Bv j2))], [(21, (.row 32 [[(iC a.Points), (xF encTBar a.Bars)]])), (22, (.row 32 [[(iC b.Points), (xF encTBar b.Bars)]]))])) ?_ (fun j2 _ => ?_)
 ·refine Wr (Op10 (LT.fieldPl rfl fo32_0) rfl rfl rfl (Op11 (LT.bload1 (c := (iC a.Points)) rfl ag3 (by exact rfl)) rfl rfl rfl rfl (Op10 (LT.fieldPl rfl fo32_0) rfl rfl rfl (Op11 (LT.bload1 (c := (iC b.Points)) rfl ag3 (by exact rfl)) rfl rfl rfl rfl (Op20 (LT.neq rfl) rfl rfl rfl rfl (mv (Bv (a.Points != b.Points)) rfl rfl rfl rfl (AOR.split (fun hb3 => ?_) (fun hb3 => ?_))))))))
  ·refine Ok rfl rfl rfl (by rw [hb3]; rfl) rfl (Ok rfl rfl rfl (by rw [hb3]; rfl) rfl (Ok rfl rfl rfl (by rw [hb3]; rfl) rfl (Ok rfl rfl rfl (by rw [hb3]; rfl) rfl (Ok rfl rfl rfl (by rw [hb3]; rfl) rfl (Ok rfl rfl rfl (by rw [hb3]; rfl) rfl (Ok rfl rfl rfl (by rw [hb3]; rfl) rfl (Op20 (LT.pickT (v := (Bv true)) rfl hb3) rfl ⟨rfl, rfl⟩ rfl rfl (On (AWR.nil ⟨rfl, Ent.of ⟨rfl, rfl, rfl, trivial⟩ ⟨rfl, rfl, trivial⟩⟩)))))))))
  ·refine Op10 (LT.fieldPl rfl fo32_1) rfl ⟨_, rfl, .inl ⟨_, rfl, (by rw [hb3]; rfl)⟩⟩ rfl (Op11 (LT.bload1 (c := (xF encTBar a.Bars)) rfl ag30 (by exact rfl)) rfl rfl ⟨_, rfl, .inl ⟨_, rfl, (by rw [hb3]; rfl)⟩⟩ rfl (Op10 (LT.tlenRO rfl und30) rfl ⟨_, rfl, .inl ⟨_, rfl, (by rw [hb3]; rfl)⟩⟩ rfl (Op10 (LT.fieldPl rfl fo32_1) rfl ⟨_, rfl, .inl ⟨_, rfl, (by rw [hb3]; rfl)⟩⟩ rfl (Op11 (LT.bload1 (c := (xF encTBar b.Bars)) rfl ag30 (by exact rfl)) rfl rfl ⟨_, rfl, .inl ⟨_, rfl, (by rw [hb3]; rfl)⟩⟩ rfl (Op10 (LT.tlenRO rfl und30) rfl ⟨_, rfl, .inl ⟨_, rfl, (by rw [hb3]; rfl)⟩⟩ rfl (Op20 (LT.neq rfl) rfl rfl ⟨_, rfl, .inl ⟨_, rfl, (by rw [hb3]; rfl)⟩⟩ rfl (Op20 (LT.pickF (v := (Bv ((a.Bars.length : Int) != (b.Bars.length : Int)))) rfl hb3) rfl rfl rfl rfl (On (AWR.nil ⟨rfl, Ent.of ⟨rfl, rfl, rfl, trivial⟩ ⟨rfl, rfl, trivial⟩⟩)))))))))
 ·refine AWR.cond rfl (fun hc4 => ?_) (fun hc4 => ?_)
  ·refine Ws (Wr ?_)
   refine asg (Bv false) rfl ⟨rfl, rfl⟩ rfl rfl (On (AWR.ret (FPost.mk (.inr rfl) ⟨rfl, trivial⟩ trivial rfl ⟨PermP.sc, trivial⟩ trivial)))
  ·refine AWR.skip (Ws (Ws (Wr ?_)))
   refine asg (Iv 0) rfl ⟨rfl, rfl⟩ rfl rfl (On (AWR.block ?_))
   refine AWR.loopR (id := 0) (m_spec_EqualGraphs_L1 a b) (fun s5 => ([(2, (Cc (.pl 21 0))), (3, (Cc (.pl 22 0))), (5, (Iv s5))], [(21, (.row 32 [[(iC a.Points), (xF encTBar a.Bars)]])), (22, (.row 32 [[(iC b.Points), (xF encTBar b.Bars)]]))])) (fun b14 => ([], [])) (FPost Try.prog Try.f72.results.toList [] [] (fun (t : Bool) => [(.c (bC t))]) (fun (t : Bool) => [])) ?_ (Ent.of ⟨rfl, rfl, rfl, trivial⟩ ⟨rfl, rfl, trivial⟩) rfl (fun b14 _ => ?_) (by intro r t σ m ht hk; injection ht with ht; subst ht; exact hk)
   ·intro s5
    unfold m_spec_EqualGraphs_L1
    refine Ws (Ws (Wr ?_))
    refine mv (Iv s5) rfl rfl rfl rfl (Op10 (LT.fieldPl rfl fo32_1) rfl rfl rfl (Op11 (LT.bload1 (c := (xF encTBar a.Bars)) rfl ag30 (by exact rfl)) rfl rfl rfl rfl (Op10 (LT.tlenRO rfl und30) rfl rfl rfl (Op20 (LT.lss rfl) rfl rfl rfl rfl (On (AWR.cond rfl (fun hc15 => ?_) (fun hc15 => ?_)))))))
    ·refine AWR.skip (Ws (AWR.block (Ws (AWR.draw mixed ?_))))
     refine Dp10 (LT.fieldPl rfl fo32_1) rfl rfl rfl (Dp11 (LT.bload1 (c := (xF encTBar a.Bars)) rfl ag30 (by exact rfl)) rfl rfl rfl rfl (Dp10 (LT.move (v := (Iv s5)) rfl) rfl rfl rfl (AOD.bind fun x16 hx16 => (Dp20 (LT.tindexRO (enc := encTBar) rfl el30 hx16 sz112) rfl rfl rfl rfl (Dp10 (LT.loadPxN rfl ag112 (infS inf112) (by exact sz112.symm)) rfl rfl rfl (Dp10 (LT.fieldPl rfl fo32_1) rfl rfl rfl (Dp11 (LT.bload1 (c := (xF encTBar b.Bars)) rfl ag30 (by exact rfl)) rfl rfl rfl rfl (Dp10 (LT.move (v := (Iv s5)) rfl) rfl rfl rfl (AOD.bind fun x17 hx17 => (Dp20 (LT.tindexRO (enc := encTBar) rfl el30 hx17 sz112) rfl rfl rfl rfl (Dp10 (LT.loadPxN rfl ag112 (infS inf112) (by exact sz112.symm)) rfl rfl rfl ?_)))))))))))
     refine Dp20 (LT.neqStruct [x16.A, x16.B] [x17.A, x17.B] rfl ist112 rfl rfl) rfl rfl rfl rfl (AOD.nil (by kernel_rfl) (AWR.cond rfl (fun hc18 => ?_) (fun hc18 => ?_)))
     ·refine Ws (en [] [] trivial trivial (Wr (asg (Bv false) rfl ⟨rfl, rfl⟩ rfl rfl (On (AWR.ret ⟨rfl, FPost.mk (.inr rfl) ⟨rfl, trivial⟩ trivial rfl ⟨PermP.sc, trivial⟩ trivial⟩)))))
     ·refine AWR.skip (AWR.blk ?_)
      refine en [(2, (Cc (.pl 21 0))), (3, (Cc (.pl 22 0))), (5, (Iv s5))] [(21, (.row 32 [[(iC a.Points), (xF encTBar a.Bars)]])), (22, (.row 32 [[(iC b.Points), (xF encTBar b.Bars)]]))] ⟨rfl, rfl, rfl, trivial⟩ ⟨rfl, rfl, trivial⟩ (Wr (mv (Iv s5) rfl rfl rfl rfl (Op20 (LT.add rfl) rfl ⟨rfl, rfl⟩ rfl rfl (asg (Iv (w64 (s5 + 1))) rfl rfl rfl rfl (On (AWR.nil ⟨rfl, Ent.of ⟨rfl, rfl, rfl, trivial⟩ ⟨rfl, rfl, trivial⟩⟩))))))
    ·refine AWR.exit_end rfl ⟨rfl, Ent.of trivial trivial⟩
   ·refine Ws (Wr ?_)
    refine asg (Bv true) rfl ⟨rfl, rfl⟩ rfl rfl (On (AWR.ret (FPost.mk (.inr rfl) ⟨rfl, trivial⟩ trivial rfl ⟨PermP.sc, trivial⟩ trivial)))
end Go.Proofs.Yteognanhfpbghaa
end
